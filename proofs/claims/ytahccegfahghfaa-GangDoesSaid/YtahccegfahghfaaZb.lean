/- Texts of this proof, one behind the other. -/
import Derived.Test.YtahccegfahghfaaZa
import Derived.Test.YtahccegfahghfaaProg
/-! The walker: a drawn region that acts, whose first operations only look and come up ahead of all others: they are walked once, in the order of the text. -/
namespace Go.Proofs.Ytahccegfahghfaa
open Go Go.RowKit

section
variable {P : Program} {ops : Array Oper} {C : (Nat → Bool) → World → Prop} {Q : Array Bool → Act → Prop} {m : Nat}
def lexTo (ops : Array Oper) : Nat → Nat → Array Bool → Bool
  | 0, _, _ => true
  | f + 1, k, listed => (Region.ready .any ops listed).contains k && Region.free .any ops listed k && lexTo ops f (k + 1) (listed.setIfInBounds k true)
def setTo : Nat → Nat → Array Bool → Array Bool
  | 0, _, L => L
  | n + 1, k, L => setTo n (k + 1) (L.setIfInBounds k true)
def wpPre (P : Program) (ops : Array Oper) (m : Nat) (C : (Nat → Bool) → World → Prop) (Q : Array Bool → Act → Prop) : Nat → Array Bool → Act → Prop
  | 0, listed, a => (∀ i ∈ Region.ready .any ops listed, ¬ i < m) ∧ Q listed a
  | f + 1, listed, a => (∃ i ∈ Region.ready .any ops listed, i < m) ∧ ∀ i ∈ Region.ready .any ops listed, i < m → ∃ o v, ops[i]? = some o ∧ Leaves P ops C i o v a ∧ wpPre P ops m C Q f (listed.setIfInBounds i true) (a.put o.dst v)
theorem wpPre_first {i : Nat} {oi : Oper} {v : Value} (him : i < m) (hi : ops[i]? = some oi) (hsel : ∀ (j : Nat) (o : Oper) cs b, ops[j]? = some o → o.op ≠ .select cs b) :
    ∀ (fuel : Nat) (listed : Array Bool) (a : Act),
      (∀ j oj, ops[j]? = some oj → j ≠ i → listed.getD j true = false → (∀ e ∈ oj.after, Region.binds .any e = true → e.on ≠ i) → oi.apart ops oj = true) →
      i ∈ Region.ready .any ops listed → Leaves P ops C i oi v a →
      wpPre P ops m C Q fuel (listed.setIfInBounds i true) (a.put oi.dst v) → wpPre P ops m C Q (fuel + 1) listed a := by
  intro fuel
  induction fuel with
  | zero =>
    intro listed a _ hr hy H
    refine ⟨⟨i, hr, him⟩, fun j hj hjm => ?_⟩
    by_cases hji : j = i
    · subst hji; exact ⟨oi, v, hi, hy, H⟩
    · exact absurd hjm (H.1 j (ready_mono hj hji))
  | succ fuel ih =>
    intro listed a hfree hr hy H
    refine ⟨⟨i, hr, him⟩, fun j hj hjm => ?_⟩
    by_cases hji : j = i
    · subst hji; exact ⟨oi, v, hi, hy, H⟩
    · obtain ⟨oj, u, hoj, hyj, hrest⟩ := H.2 j (ready_mono hj hji) hjm
      obtain ⟨hjun, oj', hoj', hall⟩ := mem_ready.1 hj
      obtain rfl : oj = oj' := Option.some.inj (hoj.symm.trans hoj')
      have hnot : ∀ e ∈ oj.after, Region.binds .any e = true → e.on ≠ i := fun e he hb heq => by
        have h1 := hall e he hb
        have h0 := (mem_ready.1 hr).1
        rw [heq] at h1
        rcases Nat.lt_or_ge i listed.size with h' | h'
        · simp [h'] at h0 h1; rw [h0] at h1; cases h1
        · simp [Array.getElem?_eq_none h'] at h1
      have hap := hfree j oj hoj hji hjun hnot
      obtain ⟨h1, h2, h3⟩ := Oper.apart_spec hap
      have hyj' : Leaves P ops C j oj u a := hyj.of_same (execOp_put oj (fun cs b => hsel j oj cs b hoj) a oi.dst v h1).symm (wanted_put oj a oi.dst v h1).symm
      have hyi' : Leaves P ops C i oi v (a.put oj.dst u) := hy.of_same (execOp_put oi (fun cs b => hsel i oi cs b hi) a oj.dst u h3) (wanted_put oi a oj.dst u h3)
      have hfree' : ∀ k ok, ops[k]? = some ok → k ≠ i → (listed.setIfInBounds j true).getD k true = false →
          (∀ e ∈ ok.after, Region.binds .any e = true → e.on ≠ i) → oi.apart ops ok = true := fun k ok hk hki hun hno => by
        refine hfree k ok hk hki ?_ hno
        by_cases hjk : j = k
        · subst hjk; exact hjun
        · rw [getD_set_ne true hjk] at hun; exact hun
      refine ⟨oj, u, hoj, hyj', ih _ _ hfree' (ready_mono hr (Ne.symm hji)) hyi' ?_⟩
      rw [Array.setIfInBounds_comm _ _ hji, ← Act.put_comm a v u h2]
      exact hrest
theorem wpPre_lex (hs : Region.noSelect ops = true) : ∀ (l : List Oper) (k : Nat) (listed : Array Bool) (a : Act), (∀ j, j < l.length → l[j]? = ops[k + j]?) → k + l.length = m → listed.size = ops.size → (∀ j, j < k → listed.getD j false = true) →
    lexTo ops l.length k listed = true → wpCalm P ops C (fun a' => Q (setTo l.length k listed) a') l k a → wpPre P ops m C Q l.length listed a
  | [], k, listed, _, _, hm, _, hd, _, h => by
    refine ⟨fun i hi him => ?_, h⟩
    have h1 := getD_both' (mem_ready.1 hi).1
    rw [hd i (by simp at hm; omega)] at h1
    cases h1
  | o :: l, k, listed, a, hl, hm, hsz, hd, hB, h => by
    have h0 : ops[k]? = some o := by simpa using (hl 0 (by simp)).symm
    simp only [List.length_cons, lexTo, Bool.and_eq_true] at hB
    obtain ⟨⟨hr, hf⟩, hB'⟩ := hB
    have hl' : ∀ j, j < l.length → l[j]? = ops[(k + 1) + j]? := fun j hj => by have := hl (j + 1) (by simpa using hj); simpa [Nat.add_assoc, Nat.add_comm 1 j] using this
    have hy : ∃ v, Leaves P ops C k o v a ∧ wpCalm P ops C (fun a' => Q (setTo (o :: l).length k listed) a') l (k + 1) (a.put o.dst v) := by
      unfold wpCalm at h
      split at h
      · rename_i hw; obtain ⟨v, h1, h2⟩ := h; exact ⟨v, .inl ⟨hw, h1⟩, h2⟩
      · rename_i hw; exact ⟨undef, .inr ⟨by simpa using hw, rfl, h.1⟩, h.2⟩
    obtain ⟨v, hy, hK⟩ := hy
    have hk : k < listed.size := by rw [hsz]; exact (Array.getElem?_eq_some_iff.1 h0).1
    exact wpPre_first (by simp at hm; omega) h0 (Region.noSelect_spec hs) l.length listed a (Region.free_spec h0 hf) (by simpa using hr) hy
      (wpPre_lex hs l (k + 1) _ _ hl' (by simp at hm; omega) (by simpa using hsz) (fun j hj => by
        have := congrFun (flags_set (listed := listed) (i := k) hk) j
        unfold flags upd at this
        rw [this]
        by_cases hjk : j = k
        · simp [hjk]
        · simp [hd j (by omega)]) hB' hK)
/-- What is listed has all that it waited for. -/
def Down (ops : Array Oper) (listed : Array Bool) : Prop := ∀ j, listed.getD j false = true → ∀ o, ops[j]? = some o → ∀ e ∈ o.after, Region.binds .any e = true → listed.getD e.on false = true
def reach (ops : Array Oper) : Nat → Nat → Nat → Bool
  | 0, _, _ => false
  | f + 1, i, t => match ops[i]? with
    | none => false
    | some o => o.after.any (fun e => Region.binds .any e && e.on == t) || o.after.any (fun e => Region.binds .any e && reach ops f e.on t)
def gate (ops : Array Oper) (m : Nat) : Bool := (List.range ops.size).all fun i => decide (i < m) || (List.range m).all fun t => reach ops ops.size i t
theorem reach_listed {listed : Array Bool} (hd : Down ops listed) : ∀ (f i t : Nat), reach ops f i t = true → (∀ o, ops[i]? = some o → ∀ e ∈ o.after, Region.binds .any e = true → listed.getD e.on false = true) → listed.getD t false = true
  | 0, _, _, h, _ => by cases h
  | f + 1, i, t, h, hi => by
    simp only [reach] at h
    split at h
    · cases h
    · rename_i o ho
      rw [Bool.or_eq_true, Array.any_eq_true', Array.any_eq_true'] at h
      rcases h with ⟨e, he, h⟩ | ⟨e, he, h⟩
      · simp only [Bool.and_eq_true, beq_iff_eq] at h
        rw [← h.2]; exact hi o ho e he h.1
      · simp only [Bool.and_eq_true] at h
        exact reach_listed hd f e.on t h.2 fun o' ho' => hd e.on (hi o ho e he h.1) o' ho'
def noDefer (l : List Oper) : Bool := l.all fun o => match o.op with
  | .defer _ => false
  | _ => true
theorem wpIn_of_calm {rd : Option Nat} {n : Nat} {o : Oper} {a : Act} {w : World} {C' : World → Prop} {v : Value} {K : Act → World → Prop} {Q : Exit → Act → World → Prop} (hdf : ∀ c, o.op ≠ .defer c) (h : calmAt P o a C' w v)
    (hK : ∀ w', C' w' → K (a.put o.dst v) w') : o.wpIn (fen rd) n P a w K Q := by
  refine ⟨fun _ _ => trivial, ?_⟩
  rw [Oper.semAt_eq _ _ _ hdf]
  unfold calmAt at h
  generalize (execOp a.eval o).run P w = r at *
  cases r with
  | ok x w' =>
    cases x <;> simp only [calmUpon] at h
    case value u => rw [h.1]; exact hK _ h.2
    case skip => obtain ⟨rfl, h2⟩ := h; exact hK _ h2
    case enter f args =>
      refine ⟨fun h => (by cases h), fen_calls ?_⟩
      exact h.mono fun e w'' ⟨he, hw''⟩ => by subst he; exact hK _ hw''
  | halt x w' => simp only [calmUpon] at h
theorem anyIn_of_pre {rd : Option Nat} {n f : Nat} {Q' : Exit → Act → World → Prop} (hdf : ∀ (j : Nat) (o : Oper) c, ops[j]? = some o → o.op ≠ .defer c) (hg : gate ops m = true)
    (hK : ∀ listed a w, Q listed a → C (flags listed) w → wpAnyIn (fen rd) n P .any ops Q' f listed a w) : ∀ (fuel : Nat) (listed : Array Bool) (a : Act) (w : World), C (flags listed) w → Down ops listed → wpPre P ops m C Q fuel listed a → wpAnyIn (fen rd) n P .any ops Q' (fuel + f) listed a w
  | 0, listed, a, w, hC, _, h => by rw [Nat.zero_add]; exact hK _ _ _ h.2 hC
  | fuel + 1, listed, a, w, hC, hD, h => by
    rw [show fuel + 1 + f = (fuel + f) + 1 by omega]
    obtain ⟨⟨i0, hi0, him0⟩, h⟩ := h
    unfold wpAnyIn
    refine ⟨fun h0 => (by rw [h0] at hi0; cases hi0), fun i hi => ?_⟩
    obtain ⟨hun, o', ho', hall⟩ := mem_ready.1 hi
    have him : i < m := by
      by_cases him : i < m
      · exact him
      · exfalso
        have h1 := List.all_eq_true.1 hg i (List.mem_range.2 (Array.getElem?_eq_some_iff.1 ho').1)
        simp only [him, decide_false, Bool.false_or] at h1
        have h2 := reach_listed hD _ _ _ (List.all_eq_true.1 h1 i0 (List.mem_range.2 him0)) fun o ho => by
          obtain rfl : o' = o := Option.some.inj (ho'.symm.trans ho)
          exact hall
        have h3 := getD_both' (mem_ready.1 hi0).1
        rw [h2] at h3; cases h3
    obtain ⟨o, v, ho, hy, hr⟩ := h i hi him
    obtain rfl : o = o' := Option.some.inj (ho.symm.trans ho')
    have hlt := ready_lt hi
    have hf := flags_set (listed := listed) hlt
    have hn : Now i o (flags listed) := ⟨getD_both' hun, hall⟩
    have hD' : Down ops (listed.setIfInBounds i true) := by
      intro j hj oj hoj e he hb
      by_cases hji : j = i
      · subst hji
        obtain rfl : o = oj := Option.some.inj (ho.symm.trans hoj)
        exact getD_set_true (hall e he hb)
      · rw [getD_set_ne false (fun e => hji e.symm)] at hj
        exact getD_set_true (hD j hj oj hoj e he hb)
    unfold wpOpIn
    simp only [ho]
    rcases hy with ⟨hwant, hv⟩ | ⟨hwant, rfl, hc⟩
    · rw [if_pos hwant]
      exact wpIn_of_calm (fun c => hdf i o c ho) (hv _ _ hC hn) fun w' hw' => anyIn_of_pre hdf hg hK fuel _ _ w' (by rw [hf]; exact hw') hD' hr
    · rw [if_neg (by simp [hwant])]
      exact ⟨fun _ _ => trivial, anyIn_of_pre hdf hg hK fuel _ _ w (by rw [hf]; exact hc _ _ hC hn) hD' hr⟩
end
section
variable {E : Env} {k : List Fr} {all : List Oper} {f : Nat} {l : Sl} {L : List Ob}
theorem at_calmTo {id : Nat} (m : Nat) (hrd : E.rd = none) (hm : E.P.follows .mixedOrders = true) (hsel : Region.noSelect all.toArray = true) (hdf : noDefer all = true) (hlex : lexTo all.toArray m 0 (Array.replicate all.length false) = true) (hg : gate all.toArray m = true) (hlen : all.length = m + f)
    (h : Calm E (.loop (fun a w => wpAnyIn (fen E.rd) 0 E.P .any all.toArray (postF E.rd E.P E.R k) f (setTo m 0 (Array.replicate all.length false)) a w) :: k) all (all.take m) 0 l L) : At E k (.region id all.toArray true) l L := by
  refine ⟨fun a w ha hs => wpIn_region_any hm ?_⟩
  have htl : (all.take m).length = m := by rw [List.length_take]; omega
  have hp := wpPre_lex (P := E.P) (C := fun _ w => Hs E.w0 L w) (Q := fun listed a' => ∀ w', Hs E.w0 L w' → wpAnyIn (fen E.rd) 0 E.P .any all.toArray (postF E.rd E.P E.R k) f listed a' w') (m := m) hsel (all.take m) 0 (Array.replicate all.length false) a
    (fun j hj => by rw [htl] at hj; simp [List.getElem?_take, hj]) (by omega) (by simp) (fun j hj => by omega) (by rw [htl]; exact hlex) (by rw [htl]; exact h.out a ha)
  rw [htl] at hp
  have := anyIn_of_pre (rd := E.rd) (n := 0) (f := f) (Q' := postF E.rd E.P E.R k) (fun j o c hj e => by
    have h1 := List.all_eq_true.1 hdf o (List.mem_of_getElem? (by simpa using hj))
    simp [e] at h1) hg (fun listed a' w' hq hC => hq w' hC) m (Array.replicate all.length false) a { w with drawn := w.drawn + 1 } ⟨hs.rows, hs.low, hs.apart, hs.below.drew⟩ (fun j hj => by
    simp only [Array.getD_eq_getD_getElem?, Array.getElem?_replicate] at hj
    split at hj <;> cases hj) hp
  simpa [hlen] using this
theorem done_pre {li li' : Array Bool} (e : li = li') (h : Any E k all f li' l L) : Done E (.loop (fun a w => wpAnyIn (fen E.rd) 0 E.P .any all.toArray (postF E.rd E.P E.R k) f li a w) :: k) l L := by subst e; exact done_loop fun a w ha hs => h.out a w ha hs
end
end Go.Proofs.Ytahccegfahghfaa

/-! The walker: rows of rows of whole numbers, read or one's own. -/
namespace Go.Proofs.Ytahccegfahghfaa
open Go Go.RowKit

/-- A row of whole numbers as an element. -/
structure IntsA where
  p : Option Addr
  n : Nat
  cap : Nat
  l : List Int
def IntsA.enc (x : IntsA) : List Value := [.slice x.p x.n x.cap]
instance : Enc IntsA := ⟨IntsA.enc, 1, fun _ => rfl, fun x v h => by simp [IntsA.enc] at h; subst h; rfl, by decide⟩
structure IntsA.Reads (w : World) (x : IntsA) : Prop where
  sv : Sv w x.p x.l
  hn : x.n = x.l.length
  hc : x.n ≤ x.cap
  hb : x.cap ≤ 9223372036854775807
section
variable {w w' w0 : World} {x : IntsA} {al : List IntsA} {T : TypeId} {Y Yi L : List Ob}
theorem IntsA.Reads.kept (h : x.Reads w) (hb : Below w.heap.size w w') : x.Reads w' := ⟨h.sv.kept hb, h.hn, h.hc, h.hb⟩
theorem SlO.facts {α : Type} [Enc α] {p : Option Addr} {n cap : Nat} {l : List α} (h : SlO T Y p n cap l) : n = l.length ∧ n ≤ cap ∧ cap ≤ 9223372036854775807 := by
  refine ⟨h.len, ?_⟩
  rcases h with ⟨_, _, h, h2, _⟩ | ⟨g, cs, _, _, _, h⟩
  · omega
  · exact ⟨h.le, h.max⟩
/-- Rows of one's own, each in a block of its own. -/
def GotR (T : TypeId) (Yi : List Ob) (al : List IntsA) : Prop := ∃ Ys : List (List Ob), Yi = Ys.flatten ∧ Ys.length = al.length ∧ ∀ (i : Nat) (Y : List Ob) (x : IntsA), Ys[i]? = some Y → al[i]? = some x → SlO T Y x.p x.n x.cap x.l
theorem GotR.nil : GotR T [] [] := ⟨[], rfl, rfl, fun i Y x h => by simp at h⟩
theorem GotR.snoc (h : GotR T Yi al) (hx : SlO T Y x.p x.n x.cap x.l) : GotR T (Yi ++ Y) (al ++ [x]) := by
  obtain ⟨Ys, rfl, hl, hs⟩ := h
  refine ⟨Ys ++ [Y], by simp, by simp [hl], fun i Z z h1 h2 => ?_⟩
  by_cases hi : i < Ys.length
  · rw [List.getElem?_append_left hi] at h1
    rw [List.getElem?_append_left (by omega)] at h2
    exact hs i Z z h1 h2
  · rw [List.getElem?_append_right (by omega)] at h1
    rw [List.getElem?_append_right (by omega)] at h2
    have hz : i - Ys.length = 0 := by
      have := (List.getElem?_eq_some_iff.1 h1).1
      simpa using this
    rw [hz] at h1
    rw [show i - al.length = 0 by omega] at h2
    simp at h1 h2
    subst h1; subst h2
    exact hx
theorem GotR.own (h : GotR T Yi al) (hx : x ∈ al) : ∃ Y, List.Sublist Y Yi ∧ SlO T Y x.p x.n x.cap x.l := by
  obtain ⟨Ys, rfl, hl, hs⟩ := h
  obtain ⟨i, hi⟩ := List.mem_iff_getElem?.1 hx
  have hil := (List.getElem?_eq_some_iff.1 hi).1
  have e : Ys[i]? = some Ys[i] := List.getElem?_eq_getElem (by omega)
  exact ⟨Ys[i], List.sublist_flatten_of_mem (List.getElem_mem _), hs i _ x e hi⟩
theorem SlO.sub {α : Type} [Enc α] {p : Option Addr} {n cap : Nat} {l : List α} (h : SlO T Y p n cap l) (hw : Hs w0 L w) (hs : List.Sublist Y L) : Sv w p l := h.at (R := []) (by rw [List.append_nil]; exact hw.sub hs)
theorem GotR.reads (h : GotR T Yi al) (hw : Hs w0 L w) (hs : List.Sublist Yi L) : ∀ x ∈ al, x.Reads w := fun x hx => by
  obtain ⟨Y, h1, h2⟩ := h.own hx
  have hf := h2.facts
  exact ⟨h2.sub hw (h1.trans hs), hf.1, hf.2.1, hf.2.2⟩
end
section
variable {E : Env} {k : List Fr} {l : Sl} {L L' : List Ob} {all os : List Oper} {i : Nat} {c : Code}
theorem Done.as (h : L = L') (hd : Done E k l L') : Done E k l L := h ▸ hd
theorem At.as (h : L = L') (hd : At E k c l L') : At E k c l L := h ▸ hd
theorem Ops.as (h : L = L') (hd : Ops E k all os i l L') : Ops E k all os i l L := h ▸ hd
theorem two_tails14 {w0 w : World} {Y X : List Ob} (h : Hs w0 (Y ++ (X ++ [])) w) : Hs w0 (Y ++ X) w := by rwa [List.append_nil] at h
theorem one_tail14 {w0 w : World} {Y : List Ob} (h : Hs w0 (Y ++ []) w) : Hs w0 Y w := by rwa [List.append_nil] at h
theorem min_if17 {n : Nat} : (if (17 : Int) < ((n : Nat) : Int) then (17 : Int) else ((n : Nat) : Int)) = ((min n 17 : Nat) : Int) := by split <;> omega
end
end Go.Proofs.Ytahccegfahghfaa

/-! Matches by paths that make one longer; plain. -/
namespace Go.Proofs.Ytahccegfahghfaa
open Go Go.RowKit

section
variable {β : Type} {D : List (Int × β)} {c k : Int} {v : β}
theorem mk_some : ∀ {D : List (Int × β)}, mget D c = some v → (c, v) ∈ D
  | [], h => by cases h
  | p :: D, h => by
    unfold mget at h
    split at h
    · rename_i e; cases h; rw [← e]; simp
    · exact List.mem_cons_of_mem _ (mk_some h)
theorem mk_none : ∀ {D : List (Int × β)}, mget D c = none ↔ c ∉ D.map (·.1)
  | [] => by simp [mget]
  | p :: D => by
    unfold mget
    split
    · rename_i e; subst e; simp
    · rename_i e
      rw [mk_none]
      simp only [List.map_cons, List.mem_cons, not_or]
      exact ⟨fun h => ⟨fun e2 => e e2.symm, h⟩, fun h => h.2⟩
theorem mk_mem (hn : (D.map (·.1)).Nodup) (h : (c, v) ∈ D) : mget D c = some v := by
  induction D with
  | nil => cases h
  | cons p D ih =>
    simp only [List.map_cons, List.nodup_cons] at hn
    unfold mget
    rcases List.mem_cons.1 h with e | e
    · subst e; simp
    · rw [if_neg (fun e2 => hn.1 (by rw [e2]; exact List.mem_map.2 ⟨_, e, rfl⟩)), ih hn.2 e]
theorem mu_new : ∀ {D : List (Int × β)}, mget D c = none → mupd D c v = D ++ [(c, v)]
  | [], _ => rfl
  | p :: D, h => by
    unfold mget at h
    split at h
    · cases h
    · rename_i e
      unfold mupd
      rw [if_neg e, mu_new h]; rfl
theorem mu_keys {o : β} : ∀ {D : List (Int × β)}, mget D c = some o → (mupd D c v).map (·.1) = D.map (·.1)
  | [], h => by cases h
  | p :: D, h => by
    unfold mget at h
    unfold mupd
    split at h
    · rename_i e; rw [if_pos e]; simp [e]
    · rename_i e; rw [if_neg e]; simp only [List.map_cons]; rw [mu_keys h]
theorem mu_get : ∀ {D : List (Int × β)}, mget (mupd D c v) c = some v
  | [] => by simp [mupd, mget]
  | p :: D => by
    unfold mupd
    split
    · simp [mget]
    · rename_i e; simp only [mget, if_neg e]; exact mu_get
theorem mu_get_ne (h : k ≠ c) : ∀ {D : List (Int × β)}, mget (mupd D c v) k = mget D k
  | [] => by simp [mupd, mget, Ne.symm h]
  | p :: D => by
    unfold mupd
    split
    · rename_i e
      have h2 : ¬ p.1 = k := fun e2 => h (by rw [← e2, e])
      simp [mget, h2, Ne.symm h]
    · simp only [mget]
      split
      · rfl
      · exact mu_get_ne h
theorem mu_mem {p : Int × β} : ∀ {D : List (Int × β)}, p ∈ mupd D c v → p ∈ D ∨ p = (c, v)
  | [], h => by simp only [mupd, List.mem_singleton] at h; exact .inr h
  | q :: D, h => by
    unfold mupd at h
    split at h
    · rcases List.mem_cons.1 h with e | e
      · exact .inr e
      · exact .inl (List.mem_cons_of_mem _ e)
    · rcases List.mem_cons.1 h with e | e
      · exact .inl (by rw [e]; simp)
      · exact (mu_mem e).elim (fun h => .inl (List.mem_cons_of_mem _ h)) .inr
theorem mu_nodup (hn : (D.map (·.1)).Nodup) : ((mupd D c v).map (·.1)).Nodup := by
  cases h : mget D c with
  | some o => rw [mu_keys h]; exact hn
  | none =>
    rw [mu_new h, List.map_append, List.nodup_append]
    exact ⟨hn, by simp, fun a ha b hb e => by simp at hb; subst hb; subst e; exact mk_none.1 h ha⟩
theorem mu_has (h : k ∈ D.map (·.1)) : k ∈ (mupd D c v).map (·.1) := by
  cases h2 : mget D c with
  | some o => rw [mu_keys h2]; exact h
  | none => rw [mu_new h2, List.map_append]; exact List.mem_append_left _ h
theorem mu_own : c ∈ (mupd D c v).map (·.1) := by
  have h : mget (mupd D c v) c = some v := mu_get
  exact List.mem_map.2 ⟨_, mk_some h, rfl⟩
end
/-- Whoever gives a place up for another one. -/
def givesC (g : Int → List (Int × Int) → List (Int × Bool) → List (Int × Int) × List (Int × Bool) × Bool) (i : Int) : List Int → List (Int × Int) → List (Int × Bool) → List (Int × Int) × List (Int × Bool) × Bool
  | [], D, A => (D, A, false)
  | c :: cs, D, A => if (mget A c).getD false = true then givesC g i cs D A else
    match mget D c with
    | none => (mupd D c i, mupd A c true, true)
    | some o => if (g o D (mupd A c true)).2.2 = true then (mupd (g o D (mupd A c true)).1 c i, (g o D (mupd A c true)).2.1, true) else givesC g i cs (g o D (mupd A c true)).1 (g o D (mupd A c true)).2.1
def givesV (rows : List (List Int)) : Nat → Int → List (Int × Int) → List (Int × Bool) → List (Int × Int) × List (Int × Bool) × Bool
  | 0, _, D, A => (D, A, false)
  | f + 1, i, D, A => givesC (givesV rows f) i ((rows[i.toNat]?).getD []) D A
def kuhnV (rows : List (List Int)) : Nat → Option (List (Int × Int))
  | 0 => some []
  | j + 1 => match kuhnV rows j with
    | none => none
    | some D => if (givesV rows 9 (j : Int) D []).2.2 = true then some (givesV rows 9 (j : Int) D []).1 else none
def matchV (rows : List (List Int)) : Bool := (kuhnV rows rows.length).isSome
/-- How often one has a place. -/
def cntV (D : List (Int × Int)) (r : Int) : Nat := (D.filter fun p => decide (p.2 = r)).length
def oneV (r i : Int) : Nat := if r = i then 1 else 0
theorem cnt_new {D : List (Int × Int)} {c i r : Int} : cntV (D ++ [(c, i)]) r = cntV D r + oneV r i := by
  unfold cntV oneV
  rw [List.filter_append, List.length_append]
  by_cases h : r = i
  · subst h; simp
  · rw [if_neg h, List.filter_cons_of_neg (by simpa using fun e => h e.symm)]; simp
theorem cnt_upd {c i o r : Int} : ∀ {D : List (Int × Int)}, mget D c = some o → cntV (mupd D c i) r + oneV r o = cntV D r + oneV r i
  | [], h => by cases h
  | p :: D, h => by
    unfold mget at h
    unfold mupd
    split at h
    · rename_i e
      cases h
      rw [if_pos e]
      unfold cntV oneV
      simp only [List.filter_cons]
      by_cases h1 : i = r <;> by_cases h2 : p.2 = r <;> simp [h1, h2, eq_comm] <;> omega
    · rename_i e
      rw [if_neg e]
      have ih := cnt_upd (i := i) (r := r) h
      unfold cntV at ih ⊢
      simp only [List.filter_cons]
      split <;> (try simp only [List.length_cons]) <;> omega
/-- A match so far. -/
structure WD (rows : List (List Int)) (D : List (Int × Int)) : Prop where
  nd : (D.map (·.1)).Nodup
  ok : ∀ p ∈ D, 0 ≤ p.2 ∧ ∃ row, rows[p.2.toNat]? = some row ∧ p.1 ∈ row
/-- Who has been asked. -/
structure WA (A : List (Int × Bool)) : Prop where
  nd : (A.map (·.1)).Nodup
  yes : ∀ p ∈ A, p.2 = true
  rg : ∀ p ∈ A, 0 ≤ p.1 ∧ p.1 < 8
section
variable {rows : List (List Int)} {i c r : Int} {D : List (Int × Int)} {A : List (Int × Bool)}
theorem WA.asked (h : WA A) : (mget A c).getD false = true ↔ c ∈ A.map (·.1) := by
  cases e : mget A c with
  | none => simp only [Option.getD_none, Bool.false_eq_true, false_iff]; exact mk_none.1 e
  | some b =>
    have hm := mk_some e
    have hb := h.yes _ hm
    simp only at hb
    subst hb
    simp only [Option.getD_some, true_iff]
    exact List.mem_map.2 ⟨_, hm, rfl⟩
theorem WA.put (h : WA A) (h0 : 0 ≤ c) (h1 : c < 8) : WA (mupd A c true) := ⟨mu_nodup h.nd, fun p hp => (mu_mem hp).elim (h.yes p) fun e => by rw [e], fun p hp => (mu_mem hp).elim (h.rg p) fun e => by rw [e]; exact ⟨h0, h1⟩⟩
theorem WA.putLen (h : c ∉ A.map (·.1)) : (mupd A c true).length = A.length + 1 := by rw [mu_new (mk_none.2 h)]; simp
theorem nodup_le : ∀ {l N : List Int}, l.Nodup → (∀ x ∈ l, x ∈ N) → l.length ≤ N.length
  | [], _, _, _ => Nat.zero_le _
  | a :: l, N, hn, h => by
    simp only [List.nodup_cons] at hn
    have ha := h a (by simp)
    have := nodup_le (l := l) (N := N.erase a) hn.2 fun x hx => (List.mem_erase_of_ne (fun e => hn.1 (by rw [← e]; exact hx))).2 (h x (by simp [hx]))
    rw [List.length_erase_of_mem ha] at this
    have hp : 0 < N.length := List.length_pos_of_mem ha
    simp only [List.length_cons]
    omega
theorem WA.len (h : WA A) : A.length ≤ 8 := by
  have := nodup_le (N := [0, 1, 2, 3, 4, 5, 6, 7]) h.nd fun x hx => by
    obtain ⟨p, hp, rfl⟩ := List.mem_map.1 hx
    have := h.rg p hp
    have : p.1 = 0 ∨ p.1 = 1 ∨ p.1 = 2 ∨ p.1 = 3 ∨ p.1 = 4 ∨ p.1 = 5 ∨ p.1 = 6 ∨ p.1 = 7 := by omega
    rcases this with h | h | h | h | h | h | h | h <;> rw [h] <;> simp
  simpa using this
/-- What is true of the answer. -/
structure GSpec (rows : List (List Int)) (i : Int) (cs : List Int) (D : List (Int × Int)) (A : List (Int × Bool)) (R : List (Int × Int) × List (Int × Bool) × Bool) : Prop where
  wa : WA R.2.1
  sub : ∀ c ∈ A.map (·.1), c ∈ R.2.1.map (·.1)
  wd : WD rows R.1
  keep : ∀ c ∈ A.map (·.1), mget R.1 c = mget D c
  yes : R.2.2 = true → ∀ r, cntV R.1 r = cntV D r + oneV r i
  no : R.2.2 = false → R.1 = D ∧ (∀ c ∈ cs, c ∈ R.2.1.map (·.1)) ∧ ∀ c ∈ R.2.1.map (·.1), c ∉ A.map (·.1) → ∃ o row, mget D c = some o ∧ rows[o.toNat]? = some row ∧ ∀ k ∈ row, k ∈ R.2.1.map (·.1)
theorem keys_len {A B : List (Int × Bool)} (h : WA A) (hs : ∀ c ∈ A.map (·.1), c ∈ B.map (·.1)) : A.length ≤ B.length := by
  have := nodup_le h.nd hs
  simpa using this
theorem givesC_spec {f : Nat} {row : List Int} (hrows : ∀ l ∈ rows, ∀ c ∈ l, 0 ≤ c ∧ c < 8) (hrow : rows[i.toNat]? = some row) (hi0 : 0 ≤ i)
    (hg : ∀ (o : Int) (row : List Int) (D : List (Int × Int)) (A : List (Int × Bool)), 0 ≤ o → rows[o.toNat]? = some row → WD rows D → WA A → 8 < f + A.length → GSpec rows o row D A (givesV rows f o D A)) :
    ∀ (cs : List Int) (D : List (Int × Int)) (A : List (Int × Bool)), (∀ c ∈ cs, c ∈ row) → WD rows D → WA A → 8 < f + 1 + A.length → GSpec rows i cs D A (givesC (givesV rows f) i cs D A)
  | [], D, A, _, hD, hA, _ => ⟨hA, fun _ h => h, hD, fun _ _ => rfl, fun h => (by cases h), fun _ => ⟨rfl, fun _ h => (by cases h), fun c h1 h2 => absurd h1 h2⟩⟩
  | c :: cs, D, A, hcs, hD, hA, hf => by
    have hcr := hcs c (by simp)
    have hc := hrows row (List.mem_of_getElem? hrow) c hcr
    have hcs' : ∀ k ∈ cs, k ∈ row := fun k hk => hcs k (by simp [hk])
    unfold givesC
    by_cases ha : (mget A c).getD false = true
    · rw [if_pos ha]
      have ih := givesC_spec hrows hrow hi0 hg cs D A hcs' hD hA hf
      refine ⟨ih.wa, ih.sub, ih.wd, ih.keep, ih.yes, fun h => ?_⟩
      obtain ⟨h1, h2, h3⟩ := ih.no h
      exact ⟨h1, fun k hk => by
        rcases List.mem_cons.1 hk with e | e
        · rw [e]; exact ih.sub c (hA.asked.1 ha)
        · exact h2 k e, h3⟩
    · rw [if_neg ha]
      have hca : c ∉ A.map (·.1) := fun h => ha (hA.asked.2 h)
      have hA1 := hA.put hc.1 hc.2
      have hl1 : (mupd A c true).length = A.length + 1 := WA.putLen hca
      cases hm : mget D c with
      | none =>
        refine ⟨hA1, fun k hk => mu_has hk, ⟨mu_nodup hD.nd, fun p hp => (mu_mem hp).elim (hD.ok p) fun e => by rw [e]; exact ⟨hi0, row, hrow, hcr⟩⟩, fun k hk => mu_get_ne (fun e => hca (by rw [← e]; exact hk)), fun _ r => ?_, fun h => by cases h⟩
        show cntV (mupd D c i) r = _
        rw [mu_new hm]; exact cnt_new
      | some o =>
        have ho := hD.ok _ (mk_some hm)
        obtain ⟨row2, hrow2, hc2⟩ := ho.2
        have hG := hg o row2 D (mupd A c true) ho.1 hrow2 hD hA1 (by omega)
        have hcA1 : c ∈ (mupd A c true).map (·.1) := mu_own
        simp only
        split
        · rename_i hy
          have hk2 : mget (givesV rows f o D (mupd A c true)).1 c = some o := by rw [hG.keep c hcA1, hm]
          refine ⟨hG.wa, fun k hk => hG.sub k (mu_has hk), ⟨mu_nodup hG.wd.nd, fun p hp => (mu_mem hp).elim (hG.wd.ok p) fun e => by rw [e]; exact ⟨hi0, row, hrow, hcr⟩⟩, fun k hk => ?_, fun _ r => ?_, fun h => by cases h⟩
          · show mget (mupd _ c i) k = _
            rw [mu_get_ne (fun e => hca (by rw [← e]; exact hk)), hG.keep k (mu_has hk)]
          · show cntV (mupd _ c i) r = _
            have h1 := cnt_upd (i := i) (r := r) hk2
            have h2 := hG.yes hy r
            omega
        · rename_i hy
          have hn : (givesV rows f o D (mupd A c true)).2.2 = false := by simpa using hy
          obtain ⟨g1, g2, g3⟩ := hG.no hn
          rw [g1]
          have hl2 := keys_len hA1 hG.sub
          have ih := givesC_spec hrows hrow hi0 hg cs D (givesV rows f o D (mupd A c true)).2.1 hcs' hD hG.wa (by omega)
          refine ⟨ih.wa, fun k hk => ih.sub k (hG.sub k (mu_has hk)), ih.wd, fun k hk => ih.keep k (hG.sub k (mu_has hk)), ih.yes, fun h => ?_⟩
          obtain ⟨h1, h2, h3⟩ := ih.no h
          refine ⟨h1, fun k hk => ?_, fun k hk hkA => ?_⟩
          · rcases List.mem_cons.1 hk with e | e
            · rw [e]; exact ih.sub c (hG.sub c hcA1)
            · exact h2 k e
          · by_cases hk2 : k ∈ (givesV rows f o D (mupd A c true)).2.1.map (·.1)
            · by_cases hk1 : k ∈ (mupd A c true).map (·.1)
              · have hkc : k = c := by
                  rw [mu_new (mk_none.2 hca), List.map_append] at hk1
                  rcases List.mem_append.1 hk1 with e | e
                  · exact absurd e hkA
                  · simpa using e
                subst hkc
                exact ⟨o, row2, hm, hrow2, fun z hz => ih.sub z (g2 z hz)⟩
              · obtain ⟨o2, row3, e1, e2, e3⟩ := g3 k hk2 hk1
                exact ⟨o2, row3, e1, e2, fun z hz => ih.sub z (e3 z hz)⟩
            · exact h3 k hk hk2
theorem gives_spec (hrows : ∀ l ∈ rows, ∀ c ∈ l, 0 ≤ c ∧ c < 8) : ∀ (f : Nat) (o : Int) (row : List Int) (D : List (Int × Int)) (A : List (Int × Bool)), 0 ≤ o → rows[o.toNat]? = some row → WD rows D → WA A → 8 < f + A.length → GSpec rows o row D A (givesV rows f o D A)
  | 0, _, _, _, A, _, _, _, hA, hf => by have := hA.len; omega
  | f + 1, o, row, D, A, ho, hrow, hD, hA, hf => by
    unfold givesV
    rw [hrow, Option.getD_some]
    exact givesC_spec hrows hrow ho (gives_spec hrows f) row D A (fun _ h => h) hD hA hf
/-- Each row one of its own, none twice. -/
structure Sdr (rows : List (List Int)) (m : List Int) : Prop where
  len : m.length = rows.length
  nd : m.Nodup
  own : ∀ (j : Nat) (c : Int), m[j]? = some c → ∃ row, rows[j]? = some row ∧ c ∈ row
theorem kuhn_on {j : Nat} (h : kuhnV rows (j + 1) = some D) : ∃ D0, kuhnV rows j = some D0 ∧ (givesV rows 9 (j : Int) D0 []).2.2 = true ∧ D = (givesV rows 9 (j : Int) D0 []).1 := by
  unfold kuhnV at h
  cases e : kuhnV rows j with
  | none => rw [e] at h; cases h
  | some D0 =>
    rw [e] at h
    simp only at h
    split at h
    · rename_i hy; cases h; exact ⟨D0, rfl, hy, rfl⟩
    · cases h
theorem wa_nil : WA [] := ⟨List.nodup_nil, fun _ h => (by cases h), fun _ h => (by cases h)⟩
theorem kuhn_inv (hrows : ∀ l ∈ rows, ∀ c ∈ l, 0 ≤ c ∧ c < 8) : ∀ (j : Nat) (D : List (Int × Int)), j ≤ rows.length → kuhnV rows j = some D → WD rows D ∧ ∀ r : Int, cntV D r = if 0 ≤ r ∧ r < j then 1 else 0
  | 0, D, _, h => by
    cases h
    exact ⟨⟨List.nodup_nil, fun _ h => by cases h⟩, fun r => by rw [if_neg (by omega)]; rfl⟩
  | j + 1, D, hj, h => by
    obtain ⟨D0, h0, hy, rfl⟩ := kuhn_on h
    obtain ⟨hw, hc⟩ := kuhn_inv hrows j D0 (by omega) h0
    have hrow : rows[(j : Int).toNat]? = some rows[j] := List.getElem?_eq_getElem (by omega)
    have hG := gives_spec hrows 9 (j : Int) rows[j] D0 [] (by omega) hrow hw wa_nil (by simp)
    refine ⟨hG.wd, fun r => ?_⟩
    rw [hG.yes hy r, hc r]
    unfold oneV
    by_cases e : r = (j : Int)
    · rw [if_neg (by omega), if_pos e, if_pos (by omega)]
    · by_cases e2 : 0 ≤ r ∧ r < (j : Int)
      · rw [if_pos e2, if_neg e, if_pos (by omega)]
      · rw [if_neg e2, if_neg e, if_neg (by omega)]
theorem cnt_mem {r : Int} (h : 0 < cntV D r) : ∃ c, (c, r) ∈ D := by
  obtain ⟨p, hp⟩ := List.exists_mem_of_length_pos h
  rw [List.mem_filter] at hp
  have : p.2 = r := of_decide_eq_true hp.2
  exact ⟨p.1, by rw [← this]; exact hp.1⟩
theorem match_yes (hrows : ∀ l ∈ rows, ∀ c ∈ l, 0 ≤ c ∧ c < 8) (h : matchV rows = true) : ∃ m, Sdr rows m := by
  obtain ⟨D, hD⟩ := Option.isSome_iff_exists.1 h
  obtain ⟨hw, hc⟩ := kuhn_inv hrows _ D (Nat.le_refl _) hD
  have hex : ∀ j : Nat, j < rows.length → ∃ c, (c, (j : Int)) ∈ D := fun j hj => cnt_mem (by rw [hc, if_pos (by omega)]; omega)
  let F : Nat → Int := fun j => if hj : j < rows.length then (hex j hj).choose else 0
  have hF : ∀ j, j < rows.length → (F j, (j : Int)) ∈ D := fun j hj => by
    have := (hex j hj).choose_spec
    simp only [F, dif_pos hj]; exact this
  refine ⟨(List.range rows.length).map F, by simp, ?_, fun j c hj => ?_⟩
  · refine List.pairwise_map.2 ((List.nodup_range (n := rows.length)).imp_of_mem fun {a b} ha hb hne e => hne ?_)
    have h1 := mk_mem hw.nd (hF a (List.mem_range.1 ha))
    have h2 := mk_mem hw.nd (hF b (List.mem_range.1 hb))
    rw [e, h2] at h1
    have : (b : Int) = (a : Int) := Option.some.inj h1
    omega
  · rw [List.getElem?_map] at hj
    cases e : (List.range rows.length)[j]? with
    | none => rw [e] at hj; cases hj
    | some a =>
      rw [e] at hj
      cases hj
      obtain ⟨hl, he⟩ := List.getElem?_eq_some_iff.1 e
      have hja : j = a := by simpa using he
      have hjl : a < rows.length := by rw [← hja]; simpa using hl
      obtain ⟨_, row, hrow, hcr⟩ := hw.ok _ (hF a hjl)
      exact ⟨row, by rw [hja]; simpa using hrow, hcr⟩
/-- Rows that are stuck: more of them than they have to choose from. -/
theorem kuhn_stuck (hrows : ∀ l ∈ rows, ∀ c ∈ l, 0 ≤ c ∧ c < 8) {j : Nat} (hj : j < rows.length) (h0 : kuhnV rows j = some D) (hn : (givesV rows 9 (j : Int) D []).2.2 = false) :
    ∃ (N : List Int) (R : List Nat), R.Nodup ∧ R.length = N.length + 1 ∧ ∀ r ∈ R, ∃ row, rows[r]? = some row ∧ ∀ c ∈ row, c ∈ N := by
  obtain ⟨hw, hc⟩ := kuhn_inv hrows j D (by omega) h0
  have hrow : rows[(j : Int).toNat]? = some rows[j] := List.getElem?_eq_getElem (by omega)
  have hG := gives_spec hrows 9 (j : Int) rows[j] D [] (by omega) hrow hw wa_nil (by simp)
  obtain ⟨_, h2, h3⟩ := hG.no hn
  have hN : ∀ c ∈ (givesV rows 9 (j : Int) D []).2.1.map (·.1), ∃ o row, mget D c = some o ∧ rows[o.toNat]? = some row ∧ ∀ k ∈ row, k ∈ (givesV rows 9 (j : Int) D []).2.1.map (·.1) := fun c hc => h3 c hc (by simp)
  generalize hNe : (givesV rows 9 (j : Int) D []).2.1.map (·.1) = N at *
  have hnd : N.Nodup := by rw [← hNe]; exact hG.wa.nd
  let F : Int → Nat := fun c => ((mget D c).getD 0).toNat
  refine ⟨N, j :: N.map F, ?_, by simp, fun r hr => ?_⟩
  · rw [List.nodup_cons]
    constructor
    · intro hm
      obtain ⟨c, hcN, e⟩ := List.mem_map.1 hm
      obtain ⟨o, row, e1, _, _⟩ := hN c hcN
      have ho := (hw.ok _ (mk_some e1)).1
      have hcnt := hc o
      simp only [F, e1, Option.getD_some] at e
      simp only at ho
      have hpos : 0 < cntV D o := List.length_pos_of_mem (List.mem_filter.2 ⟨mk_some e1, by simp⟩)
      rw [if_neg (by omega)] at hcnt
      omega
    · refine List.pairwise_map.2 (hnd.imp_of_mem fun {a b} ha hb hne e => hne ?_)
      obtain ⟨o, _, e1, _, _⟩ := hN a ha
      obtain ⟨o2, _, e2, _, _⟩ := hN b hb
      have ho := (hw.ok _ (mk_some e1)).1
      have ho2 := (hw.ok _ (mk_some e2)).1
      simp only [F, e1, e2, Option.getD_some] at e
      simp only at ho ho2
      have hoo : o = o2 := by omega
      subst hoo
      have hcnt := hc o
      have hle : cntV D o ≤ 1 := by rw [hcnt]; split <;> omega
      have m1 := (List.mem_filter (p := fun p : Int × Int => decide (p.2 = o))).2 ⟨mk_some e1, by simp⟩
      have m2 := (List.mem_filter (p := fun p : Int × Int => decide (p.2 = o))).2 ⟨mk_some e2, by simp⟩
      unfold cntV at hle
      match hl : D.filter (fun p => decide (p.2 = o)), hle with
      | [], _ => rw [hl] at m1; cases m1
      | [x], _ =>
        rw [hl] at m1 m2
        simp only [List.mem_singleton] at m1 m2
        rw [← m2] at m1
        exact congrArg Prod.fst m1
      | x :: y :: t, h => exact absurd h (by rw [hl]; simp)
  · rcases List.mem_cons.1 hr with e | e
    · subst e
      exact ⟨rows[r], List.getElem?_eq_getElem hj, by simpa using h2⟩
    · obtain ⟨c, hcN, e2⟩ := List.mem_map.1 e
      obtain ⟨o, row, e1, hro, hall⟩ := hN c hcN
      simp only [F, e1, Option.getD_some] at e2
      rw [← e2]
      exact ⟨row, hro, hall⟩
theorem stuck_no {N : List Int} {R : List Nat} (hR : R.Nodup) (hl : R.length = N.length + 1) (h : ∀ r ∈ R, ∃ row, rows[r]? = some row ∧ ∀ c ∈ row, c ∈ N) : ¬ ∃ m, Sdr rows m := by
  rintro ⟨m, hm⟩
  let G : Nat → Int := fun r => (m[r]?).getD 0
  have hG : ∀ r ∈ R, m[r]? = some (G r) ∧ G r ∈ N := fun r hr => by
    obtain ⟨row, h1, h2⟩ := h r hr
    have hrl : r < m.length := by rw [hm.len]; exact (List.getElem?_eq_some_iff.1 h1).1
    have e : m[r]? = some m[r] := List.getElem?_eq_getElem hrl
    have e2 : m[r]? = some (G r) := by simp only [G, e, Option.getD_some]
    obtain ⟨row2, h3, h4⟩ := hm.own r (G r) e2
    rw [h1] at h3
    cases h3
    exact ⟨e2, h2 _ h4⟩
  have := nodup_le (l := R.map G) (N := N) (List.pairwise_map.2 (hR.imp_of_mem fun {a b} ha hb hne e => hne (by
    obtain ⟨h1, _⟩ := hG a ha
    obtain ⟨h2, _⟩ := hG b hb
    rw [e] at h1
    obtain ⟨l1, e1⟩ := List.getElem?_eq_some_iff.1 h1
    obtain ⟨l2, e2⟩ := List.getElem?_eq_some_iff.1 h2
    exact (List.getElem_inj hm.nd).1 (by rw [e1, e2])))) (fun x hx => by
      obtain ⟨r, hr, rfl⟩ := List.mem_map.1 hx
      exact (hG r hr).2)
  simp only [List.length_map] at this
  omega
theorem kuhn_none : ∀ (j : Nat), kuhnV rows j = none → ∃ i D, i < j ∧ kuhnV rows i = some D ∧ (givesV rows 9 (i : Int) D []).2.2 = false
  | 0, h => by cases h
  | j + 1, h => by
    cases e : kuhnV rows j with
    | none => obtain ⟨i, D, h1, h2⟩ := kuhn_none j e; exact ⟨i, D, by omega, h2⟩
    | some D =>
      unfold kuhnV at h
      rw [e] at h
      simp only at h
      split at h
      · cases h
      · rename_i hy; exact ⟨j, D, by omega, e, by simpa using hy⟩
theorem match_stuck (hrows : ∀ l ∈ rows, ∀ c ∈ l, 0 ≤ c ∧ c < 8) (h : matchV rows = false) : ∃ (N : List Int) (R : List Nat), R.Nodup ∧ R.length = N.length + 1 ∧ ∀ r ∈ R, ∃ row, rows[r]? = some row ∧ ∀ c ∈ row, c ∈ N := by
  have hn : kuhnV rows rows.length = none := by
    unfold matchV at h
    cases e : kuhnV rows rows.length with
    | none => rfl
    | some D => rw [e] at h; cases h
  obtain ⟨i, D, hi, h0, hy⟩ := kuhn_none _ hn
  exact kuhn_stuck hrows hi h0 hy
/-- There is a match just if paths find one. -/
theorem match_iff (hrows : ∀ l ∈ rows, ∀ c ∈ l, 0 ≤ c ∧ c < 8) : matchV rows = true ↔ ∃ m, Sdr rows m := by
  constructor
  · exact match_yes hrows
  · intro hm
    cases e : matchV rows with
    | true => rfl
    | false =>
      obtain ⟨N, R, h1, h2, h3⟩ := match_stuck hrows e
      exact absurd hm (stuck_no h1 h2 h3)
end
end Go.Proofs.Ytahccegfahghfaa

/-! The first match; plain. -/
namespace Go.Proofs.Ytahccegfahghfaa
open Go Go.RowKit

/-- Places that may be taken: a beginning of a match. -/
def Beg (rows : List (List Int)) (t : List Int) : Prop := ∀ (j : Nat) (c : Int), t[j]? = some c → ∃ row, rows[j]? = some row ∧ c ∈ row
def ExM (rows : List (List Int)) (t : List Int) : Prop := ∃ m, Sdr rows m ∧ m.take t.length = t
/-- What is left to choose from when some have taken theirs. -/
def leftV (rows : List (List Int)) (t : List Int) : List (List Int) := t.map (fun c => [c]) ++ rows.drop t.length
def pickL (i : Nat) : List Int → List (List Int) → List Int → List (List Int) × List Int
  | [], L, t => (L, t)
  | c :: cs, L, t => if decide (c ∈ t) = true then pickL i cs L t else if matchV (L.set i [c]) = true then (L.set i [c], t ++ [c]) else pickL i cs (L.set i [c]) t
def greedV (rows : List (List Int)) : Nat → List (List Int) × List Int
  | 0 => (rows, [])
  | i + 1 => pickL i ((rows[i]?).getD []) (greedV rows i).1 (greedV rows i).2
def refTry (g : List Int → List Int × Bool) : List Int → List Int → List Int × Bool
  | [], _ => ([], false)
  | c :: cs, t => if decide (c ∈ t) = true then refTry g cs t else if (g (t ++ [c])).2 = true then ((g (t ++ [c])).1, true) else refTry g cs t
def refM (rows : List (List Int)) : Nat → List Int → List Int × Bool
  | 0, t => (t, true)
  | k + 1, t => refTry (refM rows k) ((rows[t.length]?).getD []) t
section
variable {rows : List (List Int)} {t m u : List Int} {c : Int} {i k : Nat}
end
end Go.Proofs.Ytahccegfahghfaa

/-! Rows of numbers, looked through; plain. -/
namespace Go.Proofs.Ytahccegfahghfaa
open Go Go.RowKit

section
variable {α : Type} {l l2 : List α} {x y : α} {j : Nat} {p : α → Prop}
theorem dsame_on (h : l.take j = l2.take j) (hx : l[j]? = some x) (hy : l2[j]? = some y) (e : x = y) : l.take (j + 1) = l2.take (j + 1) := by
  rw [List.take_add_one, List.take_add_one, h, hx, hy, e]
theorem dsame_no [DecidableEq α] (hx : l[j]? = some x) (hy : l2[j]? = some y) (e : ¬ x = y) : false = decide (l = l2) := by
  refine (decide_eq_false fun h => e ?_).symm
  rw [h, hy] at hx
  exact (Option.some.inj hx).symm
theorem dsame_yes [DecidableEq α] (h : l.take j = l2.take j) (h1 : l.length ≤ j) (h2 : l2.length ≤ j) : true = decide (l = l2) := by
  rw [List.take_of_length_le h1, List.take_of_length_le h2] at h
  exact (decide_eq_true h).symm
theorem dsame_len [DecidableEq α] (h : ¬ l.length = l2.length) : false = decide (l = l2) := (decide_eq_false fun e => h (by rw [e])).symm
theorem take_one {a : α} (hx : l[j]? = some a) : l.take (j + 1) = l.take j ++ [a] := by rw [List.take_add_one, hx]; rfl
theorem all_onT (h : ∀ y ∈ l.take j, p y) (hx : l[j]? = some x) (e : p x) : ∀ y ∈ l.take (j + 1), p y := fun y hy => by
  rw [take_one hx] at hy
  rcases List.mem_append.1 hy with h1 | h1
  · exact h y h1
  · simp only [List.mem_singleton] at h1; rw [h1]; exact e
theorem all_take0T : ∀ y ∈ l.take 0, p y := by simp
end
section
variable {l : List Int} {n k s x : Int} {j : Nat} {rows : List (List Int)} {row : List Int}
theorem shr24 (h0 : 0 ≤ x) (h1 : x < 256) : x.fdiv (2 ^ (min (24 : Int).toNat IntKind.u32.bits)) = 0 := by
  rw [show (2 : Int) ^ (min (24 : Int).toNat IntKind.u32.bits) = 16777216 from by decide, Int.fdiv_eq_ediv_of_nonneg _ (by omega)]; omega
theorem shr16 (h0 : 0 ≤ x) (h1 : x < 256) : x.fdiv (2 ^ (min (16 : Int).toNat IntKind.u32.bits)) = 0 := by
  rw [show (2 : Int) ^ (min (16 : Int).toNat IntKind.u32.bits) = 65536 from by decide, Int.fdiv_eq_ediv_of_nonneg _ (by omega)]; omega
theorem shr8 (h0 : 0 ≤ x) (h1 : x < 256) : x.fdiv (2 ^ (min (8 : Int).toNat IntKind.u32.bits)) = 0 := by
  rw [show (2 : Int) ^ (min (8 : Int).toNat IntKind.u32.bits) = 256 from by decide, Int.fdiv_eq_ediv_of_nonneg _ (by omega)]; omega
theorem and0 : andV 0 255 = 0 := by decide
theorem pop0 : Lib.pop8 0 = 0 := by decide +kernel
theorem shl_fin : ∀ n : Fin 8, IntKind.u32.wrap (1 * 2 ^ (min (n.val : Int).toNat IntKind.u32.bits)) = bitV (n.val : Int) := by decide +kernel
theorem shl_bit (h0 : 0 ≤ n) (h1 : n < 8) : IntKind.u32.wrap (1 * 2 ^ (min n.toNat IntKind.u32.bits)) = bitV n := by
  have := shl_fin ⟨n.toNat, by omega⟩
  simpa only [Int.toNat_of_nonneg h0] using this
theorem bit_zero : bitV n = 0 ↔ inB n = false := by
  by_cases h : 0 ≤ n ∧ n < 8
  · have := bit_spec h
    rw [show inB n = true from decide_eq_true h]
    constructor
    · intro e; omega
    · intro e; cases e
  · rw [bit_none h, show inB n = false from decide_eq_false h]; simp
theorem inB_of (h : ¬ bitV n = 0) : inB n = true := by
  cases e : inB n with
  | true => rfl
  | false => exact absurd (bit_zero.2 e) h
/-- A set of numbers, and why it is none. -/
def ofS (l : List Int) : Int := if l.all inB = true then setV l else 0
def ofE (l : List Int) : Int := if l.all inB = true then 0 else 2
theorem of_yes (h : l.all inB = true) : ofS l = setV l ∧ ofE l = 0 := ⟨if_pos h, if_pos h⟩
theorem of_no (h : l.all inB = false) : ofS l = 0 ∧ ofE l = 2 := ⟨if_neg (by simp [h]), if_neg (by simp [h])⟩
theorem all_inB : l.all inB = true ↔ ∀ x ∈ l, 0 ≤ x ∧ x < 8 := by
  rw [List.all_eq_true]
  exact forall_congr' fun x => forall_congr' fun _ => by unfold inB; simp
theorem all_yes (h : ∀ x ∈ l, inB x = true) : l.all inB = true := List.all_eq_true.2 h
theorem all_no (hx : n ∈ l) (h : inB n = false) : l.all inB = false := by
  cases e : l.all inB with
  | false => rfl
  | true => rw [List.all_eq_true.1 e n hx] at h; cases h
theorem set_onT (hs : s = setV (l.take j)) (hx : l[j]? = some n) : orV s (bitV n) = setV (l.take (j + 1)) := by rw [take_one hx, set_on, hs]
theorem mem_onT (h : ∀ t y, t < j → l[t]? = some y → ¬ y = k) (hx : l[j]? = some n) (e : ¬ n = k) : ∀ t y, t < j + 1 → l[t]? = some y → ¬ y = k := fun t y ht hy => by
  by_cases htj : t = j
  · subst htj; rw [hx] at hy; cases hy; exact e
  · exact h t y (by omega) hy
theorem mem_no (h : ∀ t y, t < j → l[t]? = some y → ¬ y = k) (hj : l.length ≤ j) : decide (k ∈ l) = false := decide_eq_false fun hk => by
  obtain ⟨t, ht⟩ := List.mem_iff_getElem?.1 hk
  exact h t k (by have := (List.getElem?_eq_some_iff.1 ht).1; omega) ht rfl
theorem mem_yes (hx : l[j]? = some n) (e : n = k) : decide (k ∈ l) = true := decide_eq_true (by rw [← e]; exact List.mem_of_getElem? hx)
theorem idx_yes (h : ¬ idxF (fun y => decide (y = k)) l ≥ 0) : decide (k ∈ l) = false := decide_eq_false fun hk => by
  rcases idxF_cases (fun y => decide (y = k)) l with ⟨_, h2⟩ | ⟨i, x, h2, _, _, _⟩
  · have := h2 k hk; simp at this
  · rw [h2] at h; omega
theorem idx_no (h : idxF (fun y => decide (y = k)) l ≥ 0) : decide (k ∈ l) = true := decide_eq_true (by
  rcases idxF_cases (fun y => decide (y = k)) l with ⟨h1, _⟩ | ⟨i, x, _, h2, h3, _⟩
  · rw [h1] at h; omega
  · have : x = k := of_decide_eq_true h3
    rw [← this]; exact List.mem_of_getElem? h2)
theorem cho_bad (hr : row ∈ rows) (h : rowB row = false) : choB rows = false := by
  unfold choB
  rw [show rows.all rowB = false from List.all_eq_false.2 ⟨row, hr, by simp [h]⟩]; rfl
theorem cho_end {al : List IntsA} (h : ∀ y ∈ al.take j, rowB y.l = true) (hj : al.length ≤ j) : choB (al.map IntsA.l) = decide (al.length ≤ 8) := by
  rw [List.take_of_length_le hj] at h
  unfold choB
  rw [show (al.map IntsA.l).all rowB = true from List.all_eq_true.2 fun r hr => by obtain ⟨y, hy, rfl⟩ := List.mem_map.1 hr; exact h y hy]
  simp
theorem mem_row {al : List IntsA} {x : IntsA} (hx : al[j]? = some x) : x.l ∈ al.map IntsA.l := List.mem_map.2 ⟨x, List.mem_of_getElem? hx, rfl⟩
/-- Few rows, few in each. -/
def fewV (rows : List (List Int)) : List (List Int) := (rows.take 9).map (·.take 9)
theorem row_nall (h : l.all inB = false) : rowB l = false := by simp [rowB, h]
theorem row_pyes (h : l.all inB = true) (e : Lib.pop8 (setV l) = (l.length : Int)) : rowB l = true := by rw [row_pop (all_inB.1 h)]; exact decide_eq_true e
theorem row_pno (h : l.all inB = true) (e : ¬ Lib.pop8 (setV l) = (l.length : Int)) : rowB l = false := by rw [row_pop (all_inB.1 h)]; exact decide_eq_false e
end
end Go.Proofs.Ytahccegfahghfaa

/-! Numbers and sets: the small ones. -/
namespace Go.Proofs.Ytahccegfahghfaa
open Go Go.RowKit

set_option maxRecDepth 100000 in
theorem ones_t (x : Int) (w : World)
 (h0 : 0 ≤ x) (h1 : x < 256)
 : Calls Try.prog 72 #[.int .u32 x] w fun e w' => e = .returned (.int .i64 (Lib.pop8 x)) ∧ Below w.heap.size w w' := by
 refine enter (Hs.start w) Try.func72 rfl Try.ntmps72 rfl (sq_ (qa0 [] [0] [] (ds_ (sq_ ?_))))
 have hp := (and_spec h0 h1).2
 refine at_calm rfl (by kernel_rfl) (by kernel_rfl) ?_
 refine cm 1 [] [0] [(3, .int .u32 x)] ([]) (by kernel_rfl) rfl al0 ?_
 refine calm_opv (.int .u32 0) (by kernel_rfl) (by kernel_rfl) (by kernel_rfl) (fun w => run_shr (kd := .u32) (kd' := .u64) (a := x) (n := 24) 0 rfl (by kernel_rfl) (by kernel_rfl) (by decide) (shr24 h0 h1) w) ?_
 refine calm_opv (.int .u8 0) (by kernel_rfl) (by kernel_rfl) (by kernel_rfl) (fun w => run_idx8 (kd := .u32) (n := 0) 0 rfl (by kernel_rfl) (by kernel_rfl) (by kernel_rfl) (by decide) (by decide) pop0 w) ?_
 refine cm 1 [] [0, 5] [(6, .int .u32 x)] ([]) (by kernel_rfl) rfl al0 ?_
 refine calm_opv (.int .u32 0) (by kernel_rfl) (by kernel_rfl) (by kernel_rfl) (fun w => run_shr (kd := .u32) (kd' := .u64) (a := x) (n := 16) 0 rfl (by kernel_rfl) (by kernel_rfl) (by decide) (shr16 h0 h1) w) ?_
 refine calm_opv (.int .u32 0) (by kernel_rfl) (by kernel_rfl) (by kernel_rfl) (fun w => run_and (a := 0) (b := 255) 0 rfl (by kernel_rfl) (by kernel_rfl) and0 w) ?_
 refine calm_opv (.int .u8 0) (by kernel_rfl) (by kernel_rfl) (by kernel_rfl) (fun w => run_idx8 (kd := .u32) (n := 0) 0 rfl (by kernel_rfl) (by kernel_rfl) (by kernel_rfl) (by decide) (by decide) pop0 w) ?_
 refine cm 2 [] [0] [(10, .int .u8 0), (11, .int .u32 x)] ([]) (by kernel_rfl) rfl al0 ?_
 refine calm_opv (.int .u32 0) (by kernel_rfl) (by kernel_rfl) (by kernel_rfl) (fun w => run_shr (kd := .u32) (kd' := .u64) (a := x) (n := 8) 0 rfl (by kernel_rfl) (by kernel_rfl) (by decide) (shr8 h0 h1) w) ?_
 refine calm_opv (.int .u32 0) (by kernel_rfl) (by kernel_rfl) (by kernel_rfl) (fun w => run_and (a := 0) (b := 255) 0 rfl (by kernel_rfl) (by kernel_rfl) and0 w) ?_
 refine calm_opv (.int .u8 0) (by kernel_rfl) (by kernel_rfl) (by kernel_rfl) (fun w => run_idx8 (kd := .u32) (n := 0) 0 rfl (by kernel_rfl) (by kernel_rfl) (by kernel_rfl) (by decide) (by decide) pop0 w) ?_
 refine cm 2 [] [] [(15, .int .u8 0), (16, .int .u32 x)] ([]) (by kernel_rfl) rfl al0 ?_
 refine calm_opv (.int .u32 x) (by kernel_rfl) (by kernel_rfl) (by kernel_rfl) (fun w => run_and (a := x) (b := 255) x rfl (by kernel_rfl) (by kernel_rfl) (and_spec h0 h1).1 w) ?_
 refine calm_opv (.int .u8 (Lib.pop8 x)) (by kernel_rfl) (by kernel_rfl) (by kernel_rfl) (fun w => run_idx8 (kd := .u32) (n := x) (Lib.pop8 x) rfl (by kernel_rfl) (by kernel_rfl) (by kernel_rfl) h0 (by omega) rfl w) ?_
 refine cm 3 [(16, .fit), (17, .fit)] [] [(2, .int .i64 (0 + (Lib.pop8 x)))] ([Fit .u8 (0 + (Lib.pop8 x))] ++ ([Fit .i64 (0 + (Lib.pop8 x))])) (by kernel_rfl) rfl (alA (al1 ⟨by simp only [kmin]; omega, by simp only [kmax]; omega⟩) (al1 (fit64 (by omega) (by omega)))) ?_
 refine calm_nil' ?_
 refine ds_ (rt ([]) (.int .i64 (0 + (Lib.pop8 x))) ?_)
 exact fun w' hw => ⟨by rw [show 0 + (Lib.pop8 x) = Lib.pop8 x from by omega], hw.below⟩

set_option maxRecDepth 100000 in
theorem bit_t (n : Int) (w : World)
 : Calls Try.prog 71 #[.int .i64 n] w fun e w' => e = .returned (.int .u32 (bitV n)) ∧ Below w.heap.size w w' := by
 refine enter (Hs.start w) Try.func71 rfl Try.ntmps71 rfl (sq_ (qa0 [] [0] [] (ds_ (sq_ (sq_ ?_)))))
 by_cases q3 : (n : Int) < (0 : Int)
 ·
  refine qa [(1, .yes)] [0] [(8, .bool true)] ([(n : Int) < (0 : Int)]) (al1 q3) (ds_ (t_ (sq_ (qa0 [] [] [(2, .int .u32 0)] (ds_ (rt ([]) (.int .u32 0) ?_))))))
  exact fun w' hw => ⟨by rw [bit_none (by omega)], hw.below⟩
 ·
  by_cases q7 : (n : Int) ≥ (8 : Int)
  ·
   refine qa [(1, .no), (4, .yes)] [0] [(8, .bool true)] ([¬ ((n : Int) < (0 : Int))] ++ ([(n : Int) ≥ (8 : Int)])) (alA (al1 q3) (al1 q7)) (ds_ (t_ (sq_ (qa0 [] [] [(2, .int .u32 0)] (ds_ (rt ([]) (.int .u32 0) ?_))))))
   exact fun w' hw => ⟨by rw [bit_none (by omega)], hw.below⟩
  ·
   refine qa [(1, .no), (4, .no)] [0] [(8, .bool false)] ([¬ ((n : Int) < (0 : Int))] ++ ([¬ ((n : Int) ≥ (8 : Int))])) (alA (al1 q3) (al1 q7)) (ds_ (f_ (at_skip (ds_ (sq_ (ao_ (qo0 1 [] [] [(9, .int .i64 n)] (ops_opv (.int .u32 (bitV n)) (by kernel_rfl) (by kernel_rfl) (by kernel_rfl) (fun w => run_shl (kd := .u32) (kd' := .i64) (a := 1) (n := n) (bitV n) rfl (by kernel_rfl) (by kernel_rfl) (by omega) (shl_bit (by omega) (by omega)) w) (qo0 1 [] [] [(2, .int .u32 (bitV n))] (on_ (ds_ (rt ([]) (.int .u32 (bitV n)) ?_))))))))))))
   exact fun w' hw => ⟨rfl, hw.below⟩

set_option maxRecDepth 100000 in
theorem of_t (p : Option Addr) (n cap : Nat) (l : List Int) (w : World)
 (hsl : Sv w p l) (hn : n = l.length) (hb : n ≤ 1000)
 : Calls Try.prog 60 #[.slice p n cap] w fun e w' => e = .returned (.tuple #[.int .u32 (ofS l), .int .i64 (ofE l)]) ∧ Below w.heap.size w w' := by
 refine enter (Hs.start w) Try.func60 rfl Try.ntmps60 rfl (sq_ (qa0 [] [0] [] (ds_ (sq_ (qa0 [] [0] [(4, .int .u32 0)] (ds_ (sq_ (sq_ (qa0 [] [4] [(8, .slice p n cap), (9, .int .i64 (n : Nat)), (10, .int .i64 0)] (ds_ (at_block (at_loop (α := Nat × Int) [4, 8, 9, 10] (fun ⟨j, c⟩ => [(4, .int .u32 c), (8, .slice p n cap), (9, .int .i64 (n : Nat)), (10, .int .i64 (j : Nat))]) (fun ⟨j, c⟩ => []) (fun ⟨j, c⟩ => j ≤ n ∧ c = setV (l.take j) ∧ ∀ y ∈ l.take j, inB y = true) (fun ⟨j, c⟩ => n - j) (0, 0) (by kernel_rfl) rfl ⟨Nat.zero_le _, rfl, all_take0T⟩ ?_))))))))))))
 rintro ⟨j, c⟩
 rintro ⟨hj, hc, hI⟩
 refine sq_ ?_
 by_cases q5 : ((j : Nat) : Int) < ((n : Nat) : Int)
 ·
  refine qa [(0, .yes)] [4, 8, 9, 10] [(11, .bool true)] ([((j : Nat) : Int) < ((n : Nat) : Int)]) (al1 q5) (ds_ (sq_ (t_ (at_skip (ds_ (sq_ (at_block (sq_ ?_))))))))
  obtain ⟨b8, o8, rfl⟩ := hsl.pos (i := j) (by omega)
  obtain ⟨x10, hx10⟩ := get_some (l := l) (m := j) (by omega)
  refine qa [(0, .at b8 o8 j), (1, .go (outs b8 (o8 + j * 1) [.int .i64 x10]))] [4, 8, 9, 10] [(6, .int .i64 x10)] ([(some ⟨b8, o8, none⟩ : Option Addr) = some ⟨b8, o8, none⟩, (j : Nat) = ((j : Nat) : Int), j < n] ++ (cellsP w b8 (o8 + j * 1) [.int .i64 x10])) (alA (al2 rfl (al2 rfl (al1 (by omega)))) (rd_pre (hsl.get hx10) _ rfl)) (ds_ (sq_ (ao_ (qo0 1 [] [4, 8, 9, 10] [(14, .int .i64 x10)] (cD (.int .u32 (bitV x10)) Try.call71 (fun w hw => bit_t x10 w) (qo0 1 [] [4, 8, 9, 10] [(7, .int .u32 (bitV x10))] (on_ (ds_ (sq_ (sq_ ?_))))))))))
  by_cases q15 : ((bitV x10) : Int) = (0 : Int)
  ·
   refine qa [(1, .yes)] [4, 7, 8, 9, 10] [(17, .bool true)] ([((bitV x10) : Int) = (0 : Int)]) (al1 q15) (ds_ (t_ (sq_ (qa0 [] [] [(2, .int .u32 0), (3, .int .i64 2)] (ds_ (rt ([]) (.tuple #[.int .u32 0, .int .i64 2]) ?_))))))
   have ho := of_no (all_no (List.mem_of_getElem? hx10) (bit_zero.1 q15))
   exact fun w' hw => ⟨by rw [ho.1, ho.2], hw.below⟩
  ·
   refine qa [(1, .no)] [4, 7, 8, 9, 10] [(17, .bool false)] ([¬ (((bitV x10) : Int) = (0 : Int))]) (al1 q15) (ds_ (f_ (at_skip (ds_ (ao_ (qo0 2 [] [8, 9, 10] [(18, .int .u32 c), (19, .int .u32 (bitV x10))] (ops_opv (.int .u32 (orV c (bitV x10))) (by kernel_rfl) (by kernel_rfl) (by kernel_rfl) (fun w => run_or (a := c) (b := bitV x10) (orV c (bitV x10)) rfl (by kernel_rfl) (by kernel_rfl) rfl w) (qo0 1 [] [8, 9, 10] [(4, .int .u32 (orV c (bitV x10)))] (on_ (done_block (ds_ (qa [(0, .fit)] [4, 8, 9] [(10, .int .i64 (j + 1 : Nat))] ([Fit .i64 ((j + 1 : Nat))]) (al1 (fit64 (by omega) (by omega))) ?_))))))))))))
   exact dr [4, 8, 9, 10] (j + 1, (orV c (bitV x10))) ⟨by omega, set_onT hc hx10, all_onT hI hx10 (inB_of q15)⟩
 ·
  refine qa [(0, .no)] [4, 8, 9, 10] [(11, .bool false)] ([¬ (((j : Nat) : Int) < ((n : Nat) : Int))]) (al1 q5) (ds_ (sq_ (f_ (at_leave _ rfl (ds_ (sq_ (qa0 [] [] [(2, .int .u32 c), (3, .int .i64 0)] (ds_ (rt ([]) (.tuple #[.int .u32 c, .int .i64 0]) ?_)))))))))
  rw [List.take_of_length_le (by omega)] at hc hI
  have ho := of_yes (all_yes hI)
  exact fun w' hw => ⟨by rw [ho.1, ho.2, hc], hw.below⟩

set_option maxRecDepth 100000 in
theorem count_t (x : Int) (w : World)
 (h0 : 0 ≤ x) (h1 : x < 256)
 : Calls Try.prog 61 #[.int .u32 x] w fun e w' => e = .returned (.int .i64 (Lib.pop8 x)) ∧ Below w.heap.size w w' := by
 refine enter (Hs.start w) Try.func61 rfl Try.ntmps61 rfl (sq_ (qa0 [] [0] [] (ds_ (sq_ (ao_ (qo0 1 [] [] [(3, .int .u32 x)] (ops_opv (.int .u32 x) (by kernel_rfl) (by kernel_rfl) (by kernel_rfl) (fun w => run_and (a := x) (b := 255) x rfl (by kernel_rfl) (by kernel_rfl) (and_spec h0 h1).1 w) (cD (.int .i64 (Lib.pop8 x)) Try.call72 (fun w hw => ones_t x w h0 h1) (qo0 1 [] [] [(2, .int .i64 (Lib.pop8 x))] (on_ (ds_ (rt ([]) (.int .i64 (Lib.pop8 x)) ?_))))))))))))
 exact fun w' hw => ⟨rfl, hw.below⟩

set_option maxRecDepth 100000 in
theorem has_t (p : Option Addr) (n cap : Nat) (l : List Int) (k : Int) (w : World)
 (hsl : Sv w p l) (hn : n = l.length) (hb : n ≤ 1000)
 : Calls Try.prog 38 #[.slice p n cap, .int .i64 k] w fun e w' => e = .returned (.bool (decide (k ∈ l))) ∧ Below w.heap.size w w' := by
 refine enter (Hs.start w) Try.func38 rfl Try.ntmps38 rfl (sq_ (qa0 [] [0, 1] [] (ds_ (sq_ (sq_ (qa0 [] [1] [(7, .slice p n cap), (8, .int .i64 (n : Nat)), (9, .int .i64 0)] (ds_ (at_block (at_loop (α := Nat) [1, 7, 8, 9] (fun j => [(1, .int .i64 k), (7, .slice p n cap), (8, .int .i64 (n : Nat)), (9, .int .i64 (j : Nat))]) (fun j => []) (fun j => j ≤ n ∧ ∀ t y, t < j → l[t]? = some y → ¬ y = k) (fun j => n - j) 0 (by kernel_rfl) rfl ⟨Nat.zero_le _, fun t y h => by omega⟩ ?_)))))))))
 rintro j
 rintro ⟨hj, hI⟩
 refine sq_ ?_
 by_cases q4 : ((j : Nat) : Int) < ((n : Nat) : Int)
 ·
  refine qa [(0, .yes)] [1, 7, 8, 9] [(10, .bool true)] ([((j : Nat) : Int) < ((n : Nat) : Int)]) (al1 q4) (ds_ (sq_ (t_ (at_skip (ds_ (sq_ (at_block (sq_ ?_))))))))
  obtain ⟨b7, o7, rfl⟩ := hsl.pos (i := j) (by omega)
  obtain ⟨x9, hx9⟩ := get_some (l := l) (m := j) (by omega)
  refine qa [(0, .at b7 o7 j), (1, .go (outs b7 (o7 + j * 1) [.int .i64 x9]))] [1, 7, 8, 9] [(6, .int .i64 x9)] ([(some ⟨b7, o7, none⟩ : Option Addr) = some ⟨b7, o7, none⟩, (j : Nat) = ((j : Nat) : Int), j < n] ++ (cellsP w b7 (o7 + j * 1) [.int .i64 x9])) (alA (al2 rfl (al2 rfl (al1 (by omega)))) (rd_pre (hsl.get hx9) _ rfl)) (ds_ (sq_ ?_))
  by_cases q12 : (x9 : Int) = (k : Int)
  ·
   refine qa [(2, .yes)] [1, 7, 8, 9] [(15, .bool true)] ([(x9 : Int) = (k : Int)]) (al1 q12) (ds_ (t_ (sq_ (qa0 [] [] [(4, .bool true)] (ds_ (rt ([]) (.bool true) ?_))))))
   exact fun w' hw => ⟨by rw [mem_yes hx9 q12], hw.below⟩
  ·
   refine qa [(2, .no)] [1, 7, 8, 9] [(15, .bool false)] ([¬ ((x9 : Int) = (k : Int))]) (al1 q12) (ds_ (f_ (at_skip (done_block (ds_ (qa [(0, .fit)] [1, 7, 8] [(9, .int .i64 (j + 1 : Nat))] ([Fit .i64 ((j + 1 : Nat))]) (al1 (fit64 (by omega) (by omega))) ?_))))))
   exact dr [1, 7, 8, 9] (j + 1) ⟨by omega, mem_onT hI hx9 q12⟩
 ·
  refine qa [(0, .no)] [1, 7, 8, 9] [(10, .bool false)] ([¬ (((j : Nat) : Int) < ((n : Nat) : Int))]) (al1 q4) (ds_ (sq_ (f_ (at_leave _ rfl (ds_ (sq_ (qa0 [] [] [(4, .bool false)] (ds_ (rt ([]) (.bool false) ?_)))))))))
  exact fun w' hw => ⟨by rw [mem_no hI (by omega)], hw.below⟩

set_option maxRecDepth 100000 in
theorem index_t (p : Option Addr) (n cap : Nat) (l : List Int) (k : Int) (w : World)
 (hsl : Sv w p l) (hn : n = l.length) (hb : n ≤ 1000)
 : Calls Try.prog 39 #[.slice p n cap, .int .i64 k] w fun e w' => e = .returned (.int .i64 (idxF (fun y => decide (y = k)) l)) ∧ Below w.heap.size w w' := by
 refine enter (Hs.start w) Try.func39 rfl Try.ntmps39 rfl (sq_ (qa0 [] [0, 1] [] (ds_ (sq_ (sq_ (qa0 [] [0, 1] [(7, .int .i64 (n : Nat)), (8, .int .i64 0)] (ds_ (at_block (at_loop (α := Nat) [0, 1, 7, 8] (fun j => [(0, .slice p n cap), (1, .int .i64 k), (7, .int .i64 (n : Nat)), (8, .int .i64 (j : Nat))]) (fun j => []) (fun j => j ≤ n ∧ ∀ t y, t < j → l[t]? = some y → ¬ y = k) (fun j => n - j) 0 (by kernel_rfl) rfl ⟨Nat.zero_le _, fun t y h => by omega⟩ ?_)))))))))
 rintro j
 rintro ⟨hj, hI⟩
 refine sq_ ?_
 by_cases q4 : ((j : Nat) : Int) < ((n : Nat) : Int)
 ·
  refine qa [(0, .yes)] [0, 1, 7, 8] [(9, .bool true)] ([((j : Nat) : Int) < ((n : Nat) : Int)]) (al1 q4) (ds_ (sq_ (t_ (at_skip (ds_ (sq_ (at_block (sq_ (qa0 [] [0, 1, 7, 8] [(5, .int .i64 (j : Nat))] (ds_ (sq_ ?_)))))))))))
  obtain ⟨b8, o8, rfl⟩ := hsl.pos (i := j) (by omega)
  obtain ⟨x10, hx10⟩ := get_some (l := l) (m := j) (by omega)
  by_cases q12 : (k : Int) = (x10 : Int)
  ·
   refine qa [(3, .at b8 o8 j), (4, .go (outs b8 (o8 + j * 1) [.int .i64 x10])), (5, .yes)] [0, 1, 5, 7, 8] [(16, .bool true)] ([(some ⟨b8, o8, none⟩ : Option Addr) = some ⟨b8, o8, none⟩, (j : Nat) = ((j : Nat) : Int), j < n] ++ (cellsP w b8 (o8 + j * 1) [.int .i64 x10] ++ ([(k : Int) = (x10 : Int)]))) (alA (al2 rfl (al2 rfl (al1 (by omega)))) (alA (rd_pre (hsl.get hx10) _ rfl) (al1 q12))) (ds_ (t_ (sq_ (qa0 [] [] [(4, .int .i64 (j : Nat))] (ds_ (rt ([]) (.int .i64 (j : Nat)) ?_))))))
   exact fun w' hw => ⟨by rw [idxF_hit (fun t y ht hy => decide_eq_false (hI t y ht hy)) hx10 (decide_eq_true q12.symm)], hw.below⟩
  ·
   refine qa [(3, .at b8 o8 j), (4, .go (outs b8 (o8 + j * 1) [.int .i64 x10])), (5, .no)] [0, 1, 5, 7, 8] [(16, .bool false)] ([(some ⟨b8, o8, none⟩ : Option Addr) = some ⟨b8, o8, none⟩, (j : Nat) = ((j : Nat) : Int), j < n] ++ (cellsP w b8 (o8 + j * 1) [.int .i64 x10] ++ ([¬ ((k : Int) = (x10 : Int))]))) (alA (al2 rfl (al2 rfl (al1 (by omega)))) (alA (rd_pre (hsl.get hx10) _ rfl) (al1 q12))) (ds_ (f_ (at_skip (done_block (ds_ (qa [(0, .fit)] [0, 1, 7] [(8, .int .i64 (j + 1 : Nat))] ([Fit .i64 ((j + 1 : Nat))]) (al1 (fit64 (by omega) (by omega))) ?_))))))
   exact dr [0, 1, 7, 8] (j + 1) ⟨by omega, mem_onT hI hx10 (fun h => q12 h.symm)⟩
 ·
  refine qa [(0, .no)] [0, 1, 7, 8] [(9, .bool false)] ([¬ (((j : Nat) : Int) < ((n : Nat) : Int))]) (al1 q4) (ds_ (sq_ (f_ (at_leave _ rfl (ds_ (sq_ (qa0 [] [] [(4, .int .i64 (-1))] (ds_ (rt ([]) (.int .i64 (-1)) ?_)))))))))
  exact fun w' hw => ⟨by rw [idxF_miss (fun t y ht hy => decide_eq_false (hI t y ht hy)) (by omega)], hw.below⟩

set_option maxRecDepth 100000 in
theorem contains_t (p : Option Addr) (n cap : Nat) (l : List Int) (k : Int) (w : World)
 (hsl : Sv w p l) (hn : n = l.length) (hb : n ≤ 1000)
 : Calls Try.prog 15 #[.slice p n cap, .int .i64 k] w fun e w' => e = .returned (.bool (decide (k ∈ l))) ∧ Below w.heap.size w w' := by
 refine enter (Hs.start w) Try.func15 rfl Try.ntmps15 rfl (sq_ (qa0 [] [0, 1] [] (ds_ (sq_ (ao_ (qo0 2 [] [] [(5, .slice p n cap), (6, .int .i64 k)] (cD (.int .i64 (idxF (fun y => decide (y = k)) l)) Try.call39 (fun w hw => index_t p n cap l k w (hsl.kept hw.below) hn (by omega)) ?_)))))))
 by_cases q4 : ((idxF (fun y => decide (y = k)) l) : Int) ≥ (0 : Int)
 ·
  refine qo 2 [(3, .yes)] [] [(4, .bool true)] ([((idxF (fun y => decide (y = k)) l) : Int) ≥ (0 : Int)]) (al1 q4) (on_ (ds_ (rt ([]) (.bool true) ?_)))
  exact fun w' hw => ⟨by rw [idx_no q4], hw.below⟩
 ·
  refine qo 2 [(3, .no)] [] [(4, .bool false)] ([¬ (((idxF (fun y => decide (y = k)) l) : Int) ≥ (0 : Int))]) (al1 q4) (on_ (ds_ (rt ([]) (.bool false) ?_)))
  exact fun w' hw => ⟨by rw [idx_yes q4], hw.below⟩

set_option maxRecDepth 100000 in
theorem samei_t (p : Option Addr) (n cap : Nat) (l : List Int) (p2 : Option Addr) (n2 cap2 : Nat) (l2 : List Int) (w : World)
 (hsl : Sv w p l) (hn : n = l.length) (hb : n ≤ 1000)
 (hsl2 : Sv w p2 l2) (hn2 : n2 = l2.length) (hb2 : n2 ≤ 1000)
 : Calls Try.prog 14 #[.slice p n cap, .slice p2 n2 cap2] w fun e w' => e = .returned (.bool (decide (l = l2))) ∧ Below w.heap.size w w' := by
 refine enter (Hs.start w) Try.func14 rfl Try.ntmps14 rfl (sq_ (qa0 [] [0, 1] [] (ds_ (sq_ (sq_ ?_)))))
 by_cases q3 : ((n : Nat) : Int) ≠ ((n2 : Nat) : Int)
 ·
  refine qa [(4, .yes)] [0, 1] [(10, .bool true)] ([((n : Nat) : Int) ≠ ((n2 : Nat) : Int)]) (al1 q3) (ds_ (t_ (sq_ (qa0 [] [] [(4, .bool false)] (ds_ (rt ([]) (.bool false) ?_))))))
  exact fun w' hw => ⟨by rw [dsame_len (l := l) (l2 := l2) (by omega)], hw.below⟩
 ·
  refine qa [(4, .no)] [0, 1] [(10, .bool false)] ([¬ (((n : Nat) : Int) ≠ ((n2 : Nat) : Int))]) (al1 q3) (ds_ (f_ (at_skip (ds_ (sq_ (sq_ (qa0 [] [0, 1] [(12, .int .i64 (n : Nat)), (13, .int .i64 0)] (ds_ (at_block (at_loop (α := Nat) [0, 1, 12, 13] (fun j => [(0, .slice p n cap), (1, .slice p2 n2 cap2), (12, .int .i64 (n : Nat)), (13, .int .i64 (j : Nat))]) (fun j => []) (fun j => j ≤ n ∧ l.take j = l2.take j) (fun j => n - j) 0 (by kernel_rfl) rfl ⟨Nat.zero_le _, rfl⟩ ?_))))))))))
  rintro j
  rintro ⟨hj, hI⟩
  refine sq_ ?_
  by_cases q9 : ((j : Nat) : Int) < ((n : Nat) : Int)
  ·
   refine qa [(0, .yes)] [0, 1, 12, 13] [(14, .bool true)] ([((j : Nat) : Int) < ((n : Nat) : Int)]) (al1 q9) (ds_ (sq_ (t_ (at_skip (ds_ (sq_ (at_block (sq_ (qa0 [] [0, 1, 12, 13] [(5, .int .i64 (j : Nat))] (ds_ (sq_ ?_)))))))))))
   obtain ⟨b13, o13, rfl⟩ := hsl.pos (i := j) (by omega)
   obtain ⟨x15, hx15⟩ := get_some (l := l) (m := j) (by omega)
   obtain ⟨b17, o17, rfl⟩ := hsl2.pos (i := j) (by omega)
   obtain ⟨x19, hx19⟩ := get_some (l := l2) (m := j) (by omega)
   by_cases q21 : (x15 : Int) ≠ (x19 : Int)
   ·
    refine cq [(2, .at b13 o13 j), (3, .go (outs b13 (o13 + j * 1) [.int .i64 x15])), (6, .at b17 o17 j), (7, .go (outs b17 (o17 + j * 1) [.int .i64 x19])), (8, .yes)] [0, 1, 12, 13] [(24, .bool true)] ([(some ⟨b13, o13, none⟩ : Option Addr) = some ⟨b13, o13, none⟩, (j : Nat) = ((j : Nat) : Int), j < n] ++ (cellsP w b13 (o13 + j * 1) [.int .i64 x15] ++ ([(some ⟨b17, o17, none⟩ : Option Addr) = some ⟨b17, o17, none⟩, (j : Nat) = ((j : Nat) : Int), j < n2] ++ (cellsP w b17 (o17 + j * 1) [.int .i64 x19] ++ ([(x15 : Int) ≠ (x19 : Int)]))))) rfl (by kernel_rfl) (by kernel_rfl) (by kernel_rfl) (alA (al2 rfl (al2 rfl (al1 (by omega)))) (alA (rd_pre (hsl.get hx15) _ rfl) (alA (al2 rfl (al2 rfl (al1 (by omega)))) (alA (rd_pre (hsl2.get hx19) _ rfl) (al1 q21))))) (ds_ (t_ (sq_ (qa0 [] [] [(4, .bool false)] (ds_ (rt ([]) (.bool false) ?_))))))
    exact fun w' hw => ⟨by rw [dsame_no hx15 hx19 (by omega)], hw.below⟩
   ·
    refine cq [(2, .at b13 o13 j), (3, .go (outs b13 (o13 + j * 1) [.int .i64 x15])), (6, .at b17 o17 j), (7, .go (outs b17 (o17 + j * 1) [.int .i64 x19])), (8, .no)] [0, 1, 12, 13] [(24, .bool false)] ([(some ⟨b13, o13, none⟩ : Option Addr) = some ⟨b13, o13, none⟩, (j : Nat) = ((j : Nat) : Int), j < n] ++ (cellsP w b13 (o13 + j * 1) [.int .i64 x15] ++ ([(some ⟨b17, o17, none⟩ : Option Addr) = some ⟨b17, o17, none⟩, (j : Nat) = ((j : Nat) : Int), j < n2] ++ (cellsP w b17 (o17 + j * 1) [.int .i64 x19] ++ ([¬ ((x15 : Int) ≠ (x19 : Int))]))))) rfl (by kernel_rfl) (by kernel_rfl) (by kernel_rfl) (alA (al2 rfl (al2 rfl (al1 (by omega)))) (alA (rd_pre (hsl.get hx15) _ rfl) (alA (al2 rfl (al2 rfl (al1 (by omega)))) (alA (rd_pre (hsl2.get hx19) _ rfl) (al1 q21))))) (ds_ (f_ (at_skip (done_block (ds_ (qa [(0, .fit)] [0, 1, 12] [(13, .int .i64 (j + 1 : Nat))] ([Fit .i64 ((j + 1 : Nat))]) (al1 (fit64 (by omega) (by omega))) ?_))))))
    exact dr [0, 1, 12, 13] (j + 1) ⟨by omega, dsame_on hI hx15 hx19 (by omega)⟩
  ·
   refine qa [(0, .no)] [0, 1, 12, 13] [(14, .bool false)] ([¬ (((j : Nat) : Int) < ((n : Nat) : Int))]) (al1 q9) (ds_ (sq_ (f_ (at_leave _ rfl (ds_ (sq_ (qa0 [] [] [(4, .bool true)] (ds_ (rt ([]) (.bool true) ?_)))))))))
   exact fun w' hw => ⟨by rw [dsame_yes hI (by omega) (by omega)], hw.below⟩
end Go.Proofs.Ytahccegfahghfaa

/-! Which may be choices; few of them. -/
namespace Go.Proofs.Ytahccegfahghfaa
open Go Go.RowKit

set_option maxRecDepth 100000 in
theorem choices_t (q : Option Addr) (m capq : Nat) (al : List IntsA) (w : World)
 (hal : Sv w q al) (hma : m = al.length) (hbm : m ≤ 1000) (hnm : ∀ x ∈ al, x.Reads w) (hm9 : ∀ x ∈ al, x.n ≤ 1000)
 : Calls Try.prog 34 #[.slice q m capq] w fun e w' => e = .returned (.bool (choB (al.map IntsA.l))) ∧ Below w.heap.size w w' := by
 refine enter (Hs.start w) Try.func34 rfl Try.ntmps34 rfl (sq_ (qa0 [] [0] [] (ds_ (sq_ (sq_ (qa0 [] [0] [(7, .slice q m capq), (8, .int .i64 (m : Nat)), (9, .int .i64 0)] (ds_ (at_block (at_loop (α := Nat) [0, 7, 8, 9] (fun j => [(0, .slice q m capq), (7, .slice q m capq), (8, .int .i64 (m : Nat)), (9, .int .i64 (j : Nat))]) (fun j => []) (fun j => j ≤ m ∧ ∀ y ∈ al.take j, rowB y.l = true) (fun j => m - j) 0 (by kernel_rfl) rfl ⟨Nat.zero_le _, all_take0T⟩ ?_)))))))))
 rintro j
 rintro ⟨hj, hI⟩
 refine sq_ ?_
 by_cases q4 : ((j : Nat) : Int) < ((m : Nat) : Int)
 ·
  refine qa [(0, .yes)] [0, 7, 8, 9] [(10, .bool true)] ([((j : Nat) : Int) < ((m : Nat) : Int)]) (al1 q4) (ds_ (sq_ (t_ (at_skip (ds_ (sq_ (at_block (sq_ ?_))))))))
  obtain ⟨b7, o7, rfl⟩ := hal.pos (i := j) (by omega)
  obtain ⟨x9, hx9⟩ := get_some (l := al) (m := j) (by omega)
  obtain ⟨hsx9, hnx9, hcx9, hbx9⟩ := hnm x9 (List.mem_of_getElem? hx9)
  refine qa [(0, .at b7 o7 j), (1, .go (outs b7 (o7 + j * 1) [.slice x9.p x9.n x9.cap]))] [0, 7, 8, 9] [(4, .slice x9.p x9.n x9.cap)] ([(some ⟨b7, o7, none⟩ : Option Addr) = some ⟨b7, o7, none⟩, (j : Nat) = ((j : Nat) : Int), j < m] ++ (cellsP w b7 (o7 + j * 1) [.slice x9.p x9.n x9.cap])) (alA (al2 rfl (al2 rfl (al1 (by omega)))) (rd_pre (hal.get hx9) _ rfl)) (ds_ (sq_ ?_))
  have hm9x9 := hm9 x9 (List.mem_of_getElem? hx9)
  refine ao_ (qo0 1 [] [0, 4, 7, 8, 9] [(14, .slice x9.p x9.n x9.cap)] ?_)
  rcases q12 : List.all x9.l inB with _ | _
  ·
   refine cD (.tuple #[.int .u32 0, .int .i64 2]) Try.call60 (fun w hw => by have := of_t x9.p x9.n x9.cap x9.l w (hsx9.kept hw.below) hnx9 (by omega); rw [(of_no q12).1, (of_no q12).2] at this; exact this) (qo0 5 [] [0, 4, 7, 8, 9] [(5, .int .u32 0), (6, .int .i64 2)] (on_ (ds_ (sq_ (qa0 [] [0, 7, 8, 9] [(26, .bool true)] (ds_ (t_ (sq_ (qa0 [] [] [(2, .bool false)] (ds_ (rt ([]) (.bool false) ?_)))))))))))
   exact fun w' hw => ⟨by rw [cho_bad (mem_row hx9) (row_nall q12)], hw.below⟩
  ·
   refine cD (.tuple #[.int .u32 (setV x9.l), .int .i64 0]) Try.call60 (fun w hw => by have := of_t x9.p x9.n x9.cap x9.l w (hsx9.kept hw.below) hnx9 (by omega); rw [(of_yes q12).1, (of_yes q12).2] at this; exact this) (qo0 5 [] [0, 4, 7, 8, 9] [(5, .int .u32 (setV x9.l)), (6, .int .i64 0)] (on_ (ds_ (sq_ (ao_ (qo0 4 [] [0, 4, 7, 8, 9] [(20, .bool false), (21, .int .u32 (setV x9.l))] (cD (.int .i64 (Lib.pop8 (setV x9.l))) Try.call61 (fun w hw => count_t (setV x9.l) w (set_spec x9.l (all_inB.1 q12)).1 (set_spec x9.l (all_inB.1 q12)).2.1) ?_)))))))
   by_cases q19 : ((Lib.pop8 (setV x9.l)) : Int) ≠ ((x9.n : Nat) : Int)
   ·
    refine qo 4 [(7, .yes)] [0, 7, 8, 9] [(26, .bool true)] ([((Lib.pop8 (setV x9.l)) : Int) ≠ ((x9.n : Nat) : Int)]) (al1 q19) (on_ (ds_ (t_ (sq_ (qa0 [] [] [(2, .bool false)] (ds_ (rt ([]) (.bool false) ?_)))))))
    exact fun w' hw => ⟨by rw [cho_bad (mem_row hx9) (row_pno q12 (by omega))], hw.below⟩
   ·
    refine qo 4 [(7, .no)] [0, 7, 8, 9] [(26, .bool false)] ([¬ (((Lib.pop8 (setV x9.l)) : Int) ≠ ((x9.n : Nat) : Int))]) (al1 q19) (on_ (ds_ (f_ (at_skip (done_block (ds_ (qa [(0, .fit)] [0, 7, 8] [(9, .int .i64 (j + 1 : Nat))] ([Fit .i64 ((j + 1 : Nat))]) (al1 (fit64 (by omega) (by omega))) ?_)))))))
    exact dr [0, 7, 8, 9] (j + 1) ⟨by omega, all_onT hI hx9 (row_pyes q12 (by omega))⟩
 ·
  refine qa [(0, .no)] [0, 7, 8, 9] [(10, .bool false)] ([¬ (((j : Nat) : Int) < ((m : Nat) : Int))]) (al1 q4) (ds_ (sq_ (f_ (at_leave _ rfl (ds_ (sq_ ?_))))))
  by_cases q26 : ((m : Nat) : Int) ≤ (8 : Int)
  ·
   refine qa [(2, .yes)] [] [(2, .bool true)] ([((m : Nat) : Int) ≤ (8 : Int)]) (al1 q26) (ds_ (rt ([]) (.bool true) ?_))
   exact fun w' hw => ⟨by rw [cho_end hI (by omega), decide_eq_true (by omega)], hw.below⟩
  ·
   refine qa [(2, .no)] [] [(2, .bool false)] ([¬ (((m : Nat) : Int) ≤ (8 : Int))]) (al1 q26) (ds_ (rt ([]) (.bool false) ?_))
   exact fun w' hw => ⟨by rw [cho_end hI (by omega), decide_eq_false (by omega)], hw.below⟩

end Go.Proofs.Ytahccegfahghfaa

/-! Paths, step by step; plain. -/
namespace Go.Proofs.Ytahccegfahghfaa
open Go Go.RowKit

section
variable {g : Int → List (Int × Int) → List (Int × Bool) → List (Int × Int) × List (Int × Bool) × Bool} {i c o : Int} {cs l row : List Int} {D : List (Int × Int)} {A : List (Int × Bool)} {rows : List (List Int)} {f j : Nat}
theorem gc_asked (h : (mget A c).getD false = true) : givesC g i (c :: cs) D A = givesC g i cs D A := by rw [givesC, if_pos h]
theorem gc_free (h : (mget A c).getD false = false) (hm : mget D c = none) : givesC g i (c :: cs) D A = (mupd D c i, mupd A c true, true) := by rw [givesC, if_neg (by simp [h]), hm]
theorem gc_yes (h : (mget A c).getD false = false) (hm : mget D c = some o) (hy : (g o D (mupd A c true)).2.2 = true) : givesC g i (c :: cs) D A = (mupd (g o D (mupd A c true)).1 c i, (g o D (mupd A c true)).2.1, true) := by
  rw [givesC, if_neg (by simp [h]), hm]; simp only [hy, if_true]
theorem gc_no (h : (mget A c).getD false = false) (hm : mget D c = some o) (hy : (g o D (mupd A c true)).2.2 = false) : givesC g i (c :: cs) D A = givesC g i cs (g o D (mupd A c true)).1 (g o D (mupd A c true)).2.1 := by
  rw [givesC, if_neg (by simp [h]), hm]; simp only [hy, Bool.false_eq_true, if_false]
theorem gc_nil : givesC g i [] D A = (D, A, false) := by rw [givesC]
theorem drop_at (h : l[j]? = some c) : l.drop j = c :: l.drop (j + 1) := by
  obtain ⟨h1, h2⟩ := List.getElem?_eq_some_iff.1 h
  rw [List.drop_eq_getElem_cons h1, h2]
theorem gv_row (h : rows[i.toNat]? = some row) : givesC (givesV rows f) i row D A = givesV rows (f + 1) i D A := by rw [givesV, h]; rfl
theorem row_at {al : List IntsA} {x : IntsA} {n : Nat} (hrw : al.map IntsA.l = rows) (h : al[n]? = some x) : rows[n]? = some x.l := by rw [← hrw, List.getElem?_map, h]; rfl
theorem some_getD {o : Option Int} (h : o.isSome = true) : o = some (o.getD 0) := by cases o with
  | none => cases h
  | some v => rfl
theorem none_of {o : Option Int} (h : o.isSome = false) : o = none := by cases o with
  | none => rfl
  | some v => cases h
theorem not_asked (hA : WA A) (h : (mget A c).getD false = false) : c ∉ A.map (·.1) := fun hm => by rw [hA.asked.2 hm] at h; cases h
/-- What is known ahead of asking another one. -/
theorem ask_ready {al : List IntsA} {m : Nat} (hrw : al.map IntsA.l = rows) (hma : m = al.length) (hrows : ∀ l ∈ rows, ∀ c ∈ l, 0 ≤ c ∧ c < 8) (hD : WD rows D) (hA : WA A) (hf : 8 < f + 1 + A.length) (hc0 : 0 ≤ c ∧ c < 8) (ha : (mget A c).getD false = false) (hm : mget D c = some o) :
    0 ≤ o ∧ o < m ∧ WA (mupd A c true) ∧ 8 < f + (mupd A c true).length ∧ WD rows (givesV rows f o D (mupd A c true)).1 ∧ WA (givesV rows f o D (mupd A c true)).2.1 ∧ 8 < f + 1 + (givesV rows f o D (mupd A c true)).2.1.length := by
  have h1 := hD.ok _ (mk_some hm)
  obtain ⟨row, hr, _⟩ := h1.2
  have hl := (List.getElem?_eq_some_iff.1 hr).1
  have hlen : rows.length = al.length := by rw [← hrw]; simp
  have hA1 := hA.put hc0.1 hc0.2
  have hl1 := WA.putLen (not_asked hA ha)
  have hG := gives_spec hrows f o row D (mupd A c true) h1.1 hr hD hA1 (by omega)
  have hk := keys_len hA1 hG.sub
  exact ⟨h1.1, by simp only at hl h1; omega, hA1, by omega, hG.wd, hG.wa, by omega⟩
theorem kuhn_next (h : kuhnV rows j = some D) (hy : (givesV rows 9 (j : Int) D []).2.2 = true) : kuhnV rows (j + 1) = some (givesV rows 9 (j : Int) D []).1 := by rw [kuhnV, h]; simp only [hy, if_true]
theorem kuhn_stop (h : kuhnV rows j = some D) (hy : (givesV rows 9 (j : Int) D []).2.2 = false) : kuhnV rows (j + 1) = none := by rw [kuhnV, h]; simp only [hy, Bool.false_eq_true, if_false]
theorem kuhn_dead (h : kuhnV rows j = none) : ∀ d, kuhnV rows (j + d) = none
  | 0 => h
  | d + 1 => by rw [← Nat.add_assoc, kuhnV, kuhn_dead h d]
theorem match_no (h : kuhnV rows j = some D) (hy : (givesV rows 9 (j : Int) D []).2.2 = false) (hj : j < rows.length) : matchV rows = false := by
  have := kuhn_dead (kuhn_stop h hy) (rows.length - (j + 1))
  rw [show j + 1 + (rows.length - (j + 1)) = rows.length by omega] at this
  rw [matchV, this]; rfl
theorem match_all (h : kuhnV rows j = some D) (hj : j = rows.length) : matchV rows = true := by
  subst hj; rw [matchV, h]; rfl
end
end Go.Proofs.Ytahccegfahghfaa

/-! Is there a match: by paths. -/
namespace Go.Proofs.Ytahccegfahghfaa
open Go Go.RowKit

set_option maxRecDepth 100000 in
theorem gives_t (rows : List (List Int)) (q : Option Addr) (m capq : Nat) (al : List IntsA) (hrw : al.map IntsA.l = rows) (hma : m = al.length) (hbm : m ≤ 1000) (hrows : ∀ l ∈ rows, ∀ c ∈ l, 0 ≤ c ∧ c < 8) (w0 : World) (X : List Ob) (g1 g3 g4 gh ga : Nat) (hal : Sv w0 q al) (hnm : ∀ x ∈ al, x.Reads w0) :
 ∀ (f : Nat) (i : Int) (D : List (Int × Int)) (A : List (Int × Bool)) (esD esA : Array MapEntry) (ckD ckA : Nat) (w : World), 0 ≤ i → i < m → WD rows D → WA A → 8 < f + A.length → MapIs .i64 (Value.int .i64) esD D → MapIs .i64 Value.bool esA A → Hs w0 (bx g1 (#[.slice q m capq]) 24 :: bx g3 (#[.map (some gh)]) 84 :: bx g4 (#[.func (.func 62) #[] #[.pointer (some ⟨g1, 0, none⟩), .pointer (some ⟨g3, 0, none⟩), .pointer (some ⟨g4, 0, none⟩)]]) 85 :: (gh, .map esD ckD) :: (ga, .map esA ckA) :: X) w →
 Calls Try.prog 62 #[.int .i64 i, .map (some ga), .pointer (some ⟨g1, 0, none⟩), .pointer (some ⟨g3, 0, none⟩), .pointer (some ⟨g4, 0, none⟩)] w fun e w' => ∃ esD' ckD' esA' ckA', e = .returned (.bool (givesV rows f i D A).2.2) ∧ MapIs .i64 (Value.int .i64) esD' (givesV rows f i D A).1 ∧ MapIs .i64 Value.bool esA' (givesV rows f i D A).2.1 ∧ Hs w0 (bx g1 (#[.slice q m capq]) 24 :: bx g3 (#[.map (some gh)]) 84 :: bx g4 (#[.func (.func 62) #[] #[.pointer (some ⟨g1, 0, none⟩), .pointer (some ⟨g3, 0, none⟩), .pointer (some ⟨g4, 0, none⟩)]]) 85 :: (gh, .map esD' ckD') :: (ga, .map esA' ckA') :: X) w' := by
 intro f
 induction f with
 | zero => exact fun i D A esD esA ckD ckA w _ _ _ hA hf => absurd hA.len (by omega)
 | succ f ih =>
  intro i D A esD esA ckD ckA w hi0 hi1 hWD hWA hfu hmD hmA hH
  refine enter hH Try.func62 rfl Try.ntmps62 rfl (sq_ (qa0 [] [0, 1, 2, 3, 4] [] (ds_ (sq_ (sq_ ?_)))))
  obtain ⟨b3, o3, rfl⟩ := hal.pos (i := (i).toNat) (by omega)
  obtain ⟨x5, hx5⟩ := get_some (l := al) (m := (i).toNat) (by omega)
  obtain ⟨hsx5, hnx5, hcx5, hbx5⟩ := hnm x5 (List.mem_of_getElem? hx5)
  refine qa [(0, .go (owns 0 0 1)), (2, .at b3 o3 ((i).toNat)), (3, .go (outs b3 (o3 + ((i).toNat) * 1) [.slice x5.p x5.n x5.cap]))] [0, 1, 3, 4] [(15, .slice x5.p x5.n x5.cap), (16, .int .i64 (x5.n : Nat)), (17, .int .i64 0)] ([(some ⟨b3, o3, none⟩ : Option Addr) = some ⟨b3, o3, none⟩, i = (((i).toNat : Nat) : Int), (i).toNat < m] ++ (cellsP w0 b3 (o3 + ((i).toNat) * 1) [.slice x5.p x5.n x5.cap])) (alA (al2 rfl (al2 (by omega) (al1 (by omega)))) (rd_pre (hal.get hx5) _ rfl)) (ds_ (at_block ?_))
  have hrow := row_at hrw hx5
  refine at_loop (α := Nat × List (Int × Int) × Array MapEntry × Nat × List (Int × Bool) × Array MapEntry × Nat) [0, 1, 3, 4, 15, 16, 17] (fun ⟨j, Dj, eD, kD, Aj, eA, kA⟩ => [(0, .int .i64 i), (1, .map (some ga)), (3, .pointer (some ⟨g3, 0, none⟩)), (4, .pointer (some ⟨g4, 0, none⟩)), (15, .slice x5.p x5.n x5.cap), (16, .int .i64 (x5.n : Nat)), (17, .int .i64 (j : Nat))]) (fun ⟨j, Dj, eD, kD, Aj, eA, kA⟩ => bx g1 (#[.slice (some ⟨b3, o3, none⟩) m capq]) 24 :: bx g3 (#[.map (some gh)]) 84 :: bx g4 (#[.func (.func 62) #[] #[.pointer (some ⟨g1, 0, none⟩), .pointer (some ⟨g3, 0, none⟩), .pointer (some ⟨g4, 0, none⟩)]]) 85 :: (gh, .map eD kD) :: (ga, .map eA kA) :: X) (fun ⟨j, Dj, eD, kD, Aj, eA, kA⟩ => j ≤ x5.n ∧ WD rows Dj ∧ WA Aj ∧ 8 < f + 1 + Aj.length ∧ givesC (givesV rows f) i (x5.l.drop j) Dj Aj = givesV rows (f + 1) i D A ∧ MapIs .i64 (Value.int .i64) eD Dj ∧ MapIs .i64 Value.bool eA Aj) (fun ⟨j, Dj, eD, kD, Aj, eA, kA⟩ => x5.n - j) (0, D, esD, ckD, A, esA, ckA) (by kernel_rfl) rfl ⟨Nat.zero_le _, hWD, hWA, hfu, by rw [List.drop_zero]; exact gv_row hrow, hmD, hmA⟩ ?_
  rintro ⟨j, Dj, eD, kD, Aj, eA, kA⟩
  rintro ⟨hj, hWDj, hWAj, hfj, hI, hmDj, hmAj⟩
  refine sq_ ?_
  by_cases q8 : ((j : Nat) : Int) < ((x5.n : Nat) : Int)
  ·
   refine qa [(0, .yes)] [0, 1, 3, 4, 15, 16, 17] [(18, .bool true)] ([((j : Nat) : Int) < ((x5.n : Nat) : Int)]) (al1 q8) (ds_ (sq_ (t_ (at_skip (ds_ (sq_ (at_block (sq_ ?_))))))))
   obtain ⟨b11, o11, hbo11⟩ := hsx5.pos (i := j) (by omega)
   have hsv11 := hsx5
   rw [hbo11] at hsv11
   obtain ⟨x13, hx13⟩ := get_some (l := x5.l) (m := j) (by omega)
   refine qa [(0, .at b11 o11 j), (1, .go (outs b11 (o11 + j * 1) [.int .i64 x13]))] [0, 1, 3, 4, 15, 16, 17] [(9, .int .i64 x13)] ([(x5.p : Option Addr) = some ⟨b11, o11, none⟩, (j : Nat) = ((j : Nat) : Int), j < x5.n] ++ (cellsP w0 b11 (o11 + j * 1) [.int .i64 x13])) (alA (al2 hbo11 (al2 rfl (al1 (by omega)))) (rd_pre (hsv11.get hx13) _ rfl)) (ds_ (sq_ (sq_ (ao_ (qo0 2 [] [0, 1, 3, 4, 9, 15, 16, 17] [(21, .map (some ga)), (22, .int .i64 x13)] (ops_lookup (ik := .i64) (enc := Value.bool) (kk := x13) 4 (Value.bool false) (.bool ((mget Aj x13).getD false)) rfl (by kernel_rfl) (by kernel_rfl) (by kernel_rfl) (by kernel_rfl) (⟨3, 4, by kernel_rfl, by kernel_rfl, by kernel_rfl⟩ : mapB Try.prog 33 .i64 (Value.bool false)) rfl hmAj (map_getD _ _ _) (on_ (ds_ ?_))))))))
   rcases q17 : (mget Aj x13).getD false with _ | _
   ·
    refine f_ (at_skip (ds_ (sq_ (ao_ (qo0 2 [] [0, 1, 3, 4, 9, 15, 16, 17] [(24, .map (some ga)), (25, .int .i64 x13)] (ops_update (ik := .i64) (enc := Value.bool) (kk := x13) 4 true (Value.bool false) rfl (by kernel_rfl) (by kernel_rfl) (by kernel_rfl) (by kernel_rfl) (by kernel_rfl) (⟨3, 4, by kernel_rfl, by kernel_rfl, by kernel_rfl⟩ : mapB Try.prog 33 .i64 (Value.bool false)) rfl hmAj (fun es19 ck19 hM19 => on_ (ds_ (sq_ ?_)))))))))
    rcases q21 : (mget Dj x13).isSome with _ | _
    ·
     refine ao_ (qo0 2 [(0, .go (owns 1 0 1))] [0, 1, 3, 4, 9, 15, 16, 17] [(27, .map (some gh)), (28, .int .i64 x13)] (ops_lookup (ik := .i64) (enc := (Value.int .i64)) (kk := x13) 3 ((Value.int .i64) 0) (.tuple #[.int .i64 ((mget Dj x13).getD 0), .bool ((mget Dj x13).isSome)]) rfl (by kernel_rfl) (by kernel_rfl) (by kernel_rfl) (by kernel_rfl) (⟨3, 3, by kernel_rfl, by kernel_rfl, by kernel_rfl⟩ : mapB Try.prog 84 .i64 ((Value.int .i64) 0)) rfl hmDj (by simp only [if_true, map_getD]) (qo 5 [(5, .is ([]) (.bool false))] [0, 1, 3, 4, 9, 15, 16, 17] [(10, .int .i64 ((mget Dj x13).getD 0)), (11, .bool false)] ([Value.bool ((mget Dj x13).isSome) = .bool false]) (al1 (by rw [q21])) (on_ (ds_ (sq_ ?_))))))
     have hmg := none_of q21
     refine qa0 [] [0, 1, 3, 4, 9, 15, 16, 17] [(39, .bool true)] (ds_ (t_ (sq_ (ao_ (qo0 3 [(0, .go (owns 1 0 1))] [] [(40, .map (some gh)), (41, .int .i64 x13), (42, .int .i64 i)] (ops_update (ik := .i64) (enc := (Value.int .i64)) (kk := x13) 3 i ((Value.int .i64) 0) rfl (by kernel_rfl) (by kernel_rfl) (by kernel_rfl) (by kernel_rfl) (by kernel_rfl) (⟨3, 3, by kernel_rfl, by kernel_rfl, by kernel_rfl⟩ : mapB Try.prog 84 .i64 ((Value.int .i64) 0)) rfl hmDj (fun es26 ck26 hM26 => on_ (ds_ (sq_ (qa0 [] [] [(7, .bool true)] (ds_ (rt ([]) (.bool true) ?_))))))))))))
     rw [drop_at hx13, gc_free q17 hmg] at hI
     exact fun w' hw => by rw [← hI]; exact ⟨_, _, _, _, rfl, hM26, hM19, hw⟩
    ·
     refine ao_ (qo0 2 [(0, .go (owns 1 0 1))] [0, 1, 3, 4, 9, 15, 16, 17] [(27, .map (some gh)), (28, .int .i64 x13)] (ops_lookup (ik := .i64) (enc := (Value.int .i64)) (kk := x13) 3 ((Value.int .i64) 0) (.tuple #[.int .i64 ((mget Dj x13).getD 0), .bool ((mget Dj x13).isSome)]) rfl (by kernel_rfl) (by kernel_rfl) (by kernel_rfl) (by kernel_rfl) (⟨3, 3, by kernel_rfl, by kernel_rfl, by kernel_rfl⟩ : mapB Try.prog 84 .i64 ((Value.int .i64) 0)) rfl hmDj (by simp only [if_true, map_getD]) (qo 5 [(5, .is ([]) (.bool true))] [0, 1, 3, 4, 9, 15, 16, 17] [(10, .int .i64 ((mget Dj x13).getD 0)), (11, .bool true)] ([Value.bool ((mget Dj x13).isSome) = .bool true]) (al1 (by rw [q21])) (on_ (ds_ (sq_ ?_))))))
     have hmg := some_getD q21
     have hrd := ask_ready hrw hma hrows hWDj hWAj hfj (hrows x5.l (List.mem_of_getElem? hrow) x13 (List.mem_of_getElem? hx13)) q17 hmg
     refine ao_ (qo0 6 [(3, .go (owns 2 0 1))] [0, 1, 3, 4, 9, 15, 16, 17] [(34, .bool false), (35, .func (.func 62) #[] #[.pointer (some ⟨g1, 0, none⟩), .pointer (some ⟨g3, 0, none⟩), .pointer (some ⟨g4, 0, none⟩)]), (36, .int .i64 ((mget Dj x13).getD 0)), (37, .map (some ga))] (cP (fun v L' => ∃ esD' ckD' esA' ckA', v = .bool (givesV rows f ((mget Dj x13).getD 0) Dj (mupd Aj x13 true)).2.2 ∧ L' = (bx g1 (#[.slice (some ⟨b3, o3, none⟩) m capq]) 24 :: bx g3 (#[.map (some gh)]) 84 :: bx g4 (#[.func (.func 62) #[] #[.pointer (some ⟨g1, 0, none⟩), .pointer (some ⟨g3, 0, none⟩), .pointer (some ⟨g4, 0, none⟩)]]) 85 :: (gh, .map esD' ckD') :: (ga, .map esA' ckA') :: X) ∧ MapIs .i64 (Value.int .i64) esD' (givesV rows f ((mget Dj x13).getD 0) Dj (mupd Aj x13 true)).1 ∧ MapIs .i64 Value.bool esA' (givesV rows f ((mget Dj x13).getD 0) Dj (mupd Aj x13 true)).2.1) Try.call62 (fun w hw => (ih ((mget Dj x13).getD 0) Dj (mupd Aj x13 true) eD es19 kD ck19 w hrd.1 hrd.2.1 hWDj hrd.2.2.1 hrd.2.2.2.1 hmDj hM19 hw).mono fun e w' ⟨a, b, c, d, he, h1, h2, hX⟩ => ⟨_, _, he, ⟨a, b, c, d, rfl, rfl, h1, h2⟩, hX⟩) ?_))
     rintro v32 L32 ⟨e1_32, k1_32, e2_32, k2_32, rfl, rfl, h1_32, h2_32⟩
     refine qo0 1 [] [0, 1, 3, 4, 9, 15, 16, 17] [(39, .bool ((givesV rows f ((mget Dj x13).getD 0) Dj (mupd Aj x13 true)).2.2))] (on_ (ds_ ?_))
     rcases q34 : (givesV rows f ((mget Dj x13).getD 0) Dj (mupd Aj x13 true)).2.2 with _ | _
     ·
      refine f_ (at_skip (done_block (ds_ (qa [(0, .fit)] [0, 1, 3, 4, 15, 16] [(17, .int .i64 (j + 1 : Nat))] ([Fit .i64 ((j + 1 : Nat))]) (al1 (fit64 (by omega) (by omega))) ?_))))
      exact dr [0, 1, 3, 4, 15, 16, 17] (j + 1, ((givesV rows f ((mget Dj x13).getD 0) Dj (mupd Aj x13 true)).1), e1_32, k1_32, ((givesV rows f ((mget Dj x13).getD 0) Dj (mupd Aj x13 true)).2.1), e2_32, k2_32) ⟨by omega, hrd.2.2.2.2.1, hrd.2.2.2.2.2.1, hrd.2.2.2.2.2.2, by rw [drop_at hx13, gc_no q17 hmg q34] at hI; exact hI, h1_32, h2_32⟩
     ·
      refine t_ (sq_ (ao_ (qo0 3 [(0, .go (owns 1 0 1))] [] [(40, .map (some gh)), (41, .int .i64 x13), (42, .int .i64 i)] (ops_update (ik := .i64) (enc := (Value.int .i64)) (kk := x13) 3 i ((Value.int .i64) 0) rfl (by kernel_rfl) (by kernel_rfl) (by kernel_rfl) (by kernel_rfl) (by kernel_rfl) (⟨3, 3, by kernel_rfl, by kernel_rfl, by kernel_rfl⟩ : mapB Try.prog 84 .i64 ((Value.int .i64) 0)) rfl h1_32 (fun es37 ck37 hM37 => on_ (ds_ (sq_ (qa0 [] [] [(7, .bool true)] (ds_ (rt ([]) (.bool true) ?_))))))))))
      rw [drop_at hx13, gc_yes q17 hmg q34] at hI
      exact fun w' hw => by rw [← hI]; exact ⟨_, _, _, _, rfl, hM37, h2_32, hw⟩
   ·
    refine t_ (at_leave _ rfl (ds_ (qa [(0, .fit)] [0, 1, 3, 4, 15, 16] [(17, .int .i64 (j + 1 : Nat))] ([Fit .i64 ((j + 1 : Nat))]) (al1 (fit64 (by omega) (by omega))) ?_)))
    exact dr [0, 1, 3, 4, 15, 16, 17] (j + 1, Dj, eD, kD, Aj, eA, kA) ⟨by omega, hWDj, hWAj, hfj, by rw [drop_at hx13, gc_asked q17] at hI; exact hI, hmDj, hmAj⟩
  ·
   refine qa [(0, .no)] [0, 1, 3, 4, 15, 16, 17] [(18, .bool false)] ([¬ (((j : Nat) : Int) < ((x5.n : Nat) : Int))]) (al1 q8) (ds_ (sq_ (f_ (at_leave _ rfl (ds_ (sq_ (qa0 [] [] [(7, .bool false)] (ds_ (rt ([]) (.bool false) ?_)))))))))
   rw [List.drop_of_length_le (by omega), gc_nil] at hI
   exact fun w' hw => by rw [← hI]; exact ⟨_, _, _, _, rfl, hmDj, hmAj, hw⟩

set_option maxRecDepth 100000 in
theorem matching_t (q : Option Addr) (m capq : Nat) (al : List IntsA) (w : World)
 (hal : Sv w q al) (hma : m = al.length) (hbm : m ≤ 1000) (hnm : ∀ x ∈ al, x.Reads w)
 (hrows : ∀ l ∈ al.map IntsA.l, ∀ c ∈ l, 0 ≤ c ∧ c < 8)
 : Calls Try.prog 35 #[.slice q m capq] w fun e w' => e = .returned (.bool (matchV (al.map IntsA.l))) ∧ Below w.heap.size w w' := by
 refine enter (Hs.start w) Try.func35 rfl Try.ntmps35 rfl (sq_ (ma0 [] [] (fun γ1 => [(1, .pointer (some ⟨γ1 0, 0, none⟩))]) (fun γ1 L => bx (γ1 0) (#[.slice q m capq]) 24 :: L) (fun γ1 => ds_ (sq_ (ma0 [(2, .go (owns 0 0 1))] [1] (fun γ2 => [(3, .pointer (some ⟨γ2 1, 0, none⟩))]) (fun γ2 L => bx (γ2 1) (#[.map (some (γ2 0))]) 84 :: (γ2 0, .map #[] 0) :: L) (fun γ2 => ds_ (sq_ (ma0 [] [1, 3] (fun γ3 => [(4, .pointer (some ⟨γ3 0, 0, none⟩))]) (fun γ3 L => bx (γ3 0) (#[.nilFunc]) 85 :: L) (fun γ3 => ds_ (sq_ (ma0 [(1, .go (owns 0 0 1))] [1, 4] (fun _ => []) (fun _ L => (L.set 0 (bx (γ3 0) (#[.func (.func 62) #[] #[.pointer (some ⟨γ1 0, 0, none⟩), .pointer (some ⟨γ2 1, 0, none⟩), .pointer (some ⟨γ3 0, 0, none⟩)]]) 85))) (fun _ => ds_ (sq_ (sq_ (qa0 [(0, .go (owns 3 0 1))] [4] [(9, .int .i64 (m : Nat)), (10, .int .i64 0)] (ds_ (at_block (At.pick [[bx (γ3 0) (#[.func (.func 62) #[] #[.pointer (some ⟨γ1 0, 0, none⟩), .pointer (some ⟨γ2 1, 0, none⟩), .pointer (some ⟨γ3 0, 0, none⟩)]]) 85], [bx (γ2 1) (#[.map (some (γ2 0))]) 84], [(γ2 0, .map #[] 0)], [bx (γ1 0) (#[.slice q m capq]) 24]] [3, 1, 0, 2] [] ([bx (γ1 0) (#[.slice q m capq]) 24, bx (γ2 1) (#[.map (some (γ2 0))]) 84, bx (γ3 0) (#[.func (.func 62) #[] #[.pointer (some ⟨γ1 0, 0, none⟩), .pointer (some ⟨γ2 1, 0, none⟩), .pointer (some ⟨γ3 0, 0, none⟩)]]) 85, (γ2 0, .map #[] 0)]) (by kernel_rfl) rfl rfl (at_loop (α := Nat × List (Int × Int) × Array MapEntry × Nat) [4, 9, 10] (fun ⟨j, Dj, eD, kD⟩ => [(4, .pointer (some ⟨γ3 0, 0, none⟩)), (9, .int .i64 (m : Nat)), (10, .int .i64 (j : Nat))]) (fun ⟨j, Dj, eD, kD⟩ => [bx (γ1 0) (#[.slice q m capq]) 24, bx (γ2 1) (#[.map (some (γ2 0))]) 84, bx (γ3 0) (#[.func (.func 62) #[] #[.pointer (some ⟨γ1 0, 0, none⟩), .pointer (some ⟨γ2 1, 0, none⟩), .pointer (some ⟨γ3 0, 0, none⟩)]]) 85, (γ2 0, .map eD kD)]) (fun ⟨j, Dj, eD, kD⟩ => j ≤ m ∧ kuhnV (al.map IntsA.l) j = some Dj ∧ MapIs .i64 (Value.int .i64) eD Dj) (fun ⟨j, Dj, eD, kD⟩ => m - j) (0, [], #[], 0) (by kernel_rfl) rfl ⟨Nat.zero_le _, rfl, MapIs.nil⟩ ?_)))))))))))))))))))
 rintro ⟨j, Dj, eD, kD⟩
 rintro ⟨hj, hK, hmDj⟩
 refine sq_ ?_
 by_cases q7 : ((j : Nat) : Int) < ((m : Nat) : Int)
 ·
  refine qa [(0, .yes)] [4, 9, 10] [(11, .bool true)] ([((j : Nat) : Int) < ((m : Nat) : Int)]) (al1 q7) (ds_ (sq_ (t_ (at_skip (ds_ (sq_ (at_block (sq_ (qa0 [] [4, 9, 10] [(5, .int .i64 (j : Nat))] (ds_ (sq_ (ao_ (mo0 3 [(0, .go (owns 2 0 1))] [4, 9, 10] (fun γ10 => [(13, .func (.func 62) #[] #[.pointer (some ⟨γ1 0, 0, none⟩), .pointer (some ⟨γ2 1, 0, none⟩), .pointer (some ⟨γ3 0, 0, none⟩)]), (14, .int .i64 (j : Nat)), (15, .map (some (γ10 0)))]) (fun γ10 L => (γ10 0, .map #[] 0) :: L) (fun γ10 => Ops.pick [[(γ10 0, .map #[] 0)], [bx (γ1 0) (#[.slice q m capq]) 24], [bx (γ2 1) (#[.map (some (γ2 0))]) 84], [bx (γ3 0) (#[.func (.func 62) #[] #[.pointer (some ⟨γ1 0, 0, none⟩), .pointer (some ⟨γ2 1, 0, none⟩), .pointer (some ⟨γ3 0, 0, none⟩)]]) 85], [(γ2 0, .map eD kD)]] [1, 2, 3, 4, 0] [] ([bx (γ1 0) (#[.slice q m capq]) 24, bx (γ2 1) (#[.map (some (γ2 0))]) 84, bx (γ3 0) (#[.func (.func 62) #[] #[.pointer (some ⟨γ1 0, 0, none⟩), .pointer (some ⟨γ2 1, 0, none⟩), .pointer (some ⟨γ3 0, 0, none⟩)]]) 85, (γ2 0, .map eD kD), (γ10 0, .map #[] 0)]) (by kernel_rfl) rfl rfl (cP (fun v L' => ∃ esD' ckD' esA' ckA', v = .bool (givesV (al.map IntsA.l) 9 ((j : Nat) : Int) Dj []).2.2 ∧ L' = ([bx (γ1 0) (#[.slice q m capq]) 24, bx (γ2 1) (#[.map (some (γ2 0))]) 84, bx (γ3 0) (#[.func (.func 62) #[] #[.pointer (some ⟨γ1 0, 0, none⟩), .pointer (some ⟨γ2 1, 0, none⟩), .pointer (some ⟨γ3 0, 0, none⟩)]]) 85, (γ2 0, .map esD' ckD'), (γ10 0, .map esA' ckA')]) ∧ MapIs .i64 (Value.int .i64) esD' (givesV (al.map IntsA.l) 9 ((j : Nat) : Int) Dj []).1 ∧ MapIs .i64 Value.bool esA' (givesV (al.map IntsA.l) 9 ((j : Nat) : Int) Dj []).2.1) Try.call62 (fun w hw => (gives_t (al.map IntsA.l) q m capq al rfl hma hbm hrows _ [] (γ1 0) (γ2 1) (γ3 0) (γ2 0) (γ10 0) hal hnm 9 ((j : Nat) : Int) Dj [] eD #[] kD 0 w (by omega) (by omega) (kuhn_inv hrows j _ (by rw [List.length_map]; omega) hK).1 wa_nil (by decide) hmDj MapIs.nil hw).mono fun e w' ⟨a, b, c, d, he, h1, h2, hX⟩ => ⟨_, _, he, ⟨a, b, c, d, rfl, rfl, h1, h2⟩, hX⟩) ?_)))))))))))))))
  rintro v11 L11 ⟨e1_11, k1_11, e2_11, k2_11, rfl, rfl, h1_11, h2_11⟩
  rcases q13 : (givesV (al.map IntsA.l) 9 ((j : Nat) : Int) Dj []).2.2 with _ | _
  ·
   refine qo0 1 [] [4, 9, 10] [(17, .bool true)] (on_ (ds_ (t_ (sq_ (qa0 [] [] [(2, .bool false)] (ds_ (rt ([]) (.bool false) ?_)))))))
   exact fun w' hw => ⟨by rw [match_no hK q13 (by rw [List.length_map]; omega)], hw.below⟩
  ·
   refine qo0 1 [] [4, 9, 10] [(17, .bool false)] (on_ (ds_ (f_ (at_skip (done_block (ds_ (qa [(0, .fit)] [4, 9] [(10, .int .i64 (j + 1 : Nat))] ([Fit .i64 ((j + 1 : Nat))]) (al1 (fit64 (by omega) (by omega))) (Done.drop (L' := [bx (γ1 0) (#[.slice q m capq]) 24, bx (γ2 1) (#[.map (some (γ2 0))]) 84, bx (γ3 0) (#[.func (.func 62) #[] #[.pointer (some ⟨γ1 0, 0, none⟩), .pointer (some ⟨γ2 1, 0, none⟩), .pointer (some ⟨γ3 0, 0, none⟩)]]) 85, (γ2 0, .map e1_11 k1_11)]) ?_ (List.Sublist.cons_cons _ (List.Sublist.cons_cons _ (List.Sublist.cons_cons _ (List.Sublist.cons_cons _ (List.Sublist.cons _ (List.Sublist.refl _))))))))))))))
   exact dr [4, 9, 10] (j + 1, ((givesV (al.map IntsA.l) 9 ((j : Nat) : Int) Dj []).1), e1_11, k1_11) ⟨by omega, kuhn_next hK q13, h1_11⟩
 ·
  refine qa [(0, .no)] [4, 9, 10] [(11, .bool false)] ([¬ (((j : Nat) : Int) < ((m : Nat) : Int))]) (al1 q7) (ds_ (sq_ (f_ (at_leave _ rfl (ds_ (sq_ (qa0 [] [] [(2, .bool true)] (ds_ (rt ([]) (.bool true) ?_)))))))))
  exact fun w' hw => ⟨by rw [match_all hK (by rw [List.length_map]; omega)], hw.below⟩
end Go.Proofs.Ytahccegfahghfaa

/-! The first match, step by step; plain. -/
namespace Go.Proofs.Ytahccegfahghfaa
open Go Go.RowKit

section
variable {g : List Int → List Int × Bool} {rows L : List (List Int)} {t cs row ol : List Int} {c : Int} {i j k : Nat}
theorem pk_in (h : decide (c ∈ t) = true) : pickL i (c :: cs) L t = pickL i cs L t := by rw [pickL, if_pos h]
theorem pk_yes (h : decide (c ∈ t) = false) (hy : matchV (L.set i [c]) = true) : pickL i (c :: cs) L t = (L.set i [c], t ++ [c]) := by rw [pickL, if_neg (by simp [h]), if_pos hy]
theorem pk_no (h : decide (c ∈ t) = false) (hy : matchV (L.set i [c]) = false) : pickL i (c :: cs) L t = pickL i cs (L.set i [c]) t := by rw [pickL, if_neg (by simp [h]), if_neg (by simp [hy])]
theorem pk_nil : pickL i [] L t = (L, t) := by rw [pickL]
theorem greed_row (h : rows[i]? = some row) (hg : greedV rows i = (L, t)) : pickL i row L t = greedV rows (i + 1) := by rw [greedV, h, hg]; rfl
theorem rows_set (hr : ∀ l ∈ L, ∀ c ∈ l, 0 ≤ c ∧ c < 8) (hc : 0 ≤ c ∧ c < 8) : ∀ l ∈ L.set i [c], ∀ c ∈ l, 0 ≤ c ∧ c < 8 := fun l hl x hx => by
  rcases List.mem_or_eq_of_mem_set hl with h | h
  · exact hr l h x hx
  · subst h; simp only [List.mem_singleton] at hx; subst hx; exact hc
/-- What a match answers. -/
def matchA (rows : List (List Int)) : List Int × Bool := if choB rows = true ∧ matchV rows = true then ((greedV rows rows.length).2, true) else ([], false)
theorem ma_bad (h : choB rows = false) : matchA rows = ([], false) := if_neg (by simp [h])
theorem ma_no (h : matchV rows = false) : matchA rows = ([], false) := if_neg (by simp [h])
theorem ma_yes (h : choB rows = true) (hm : matchV rows = true) : matchA rows = ((greedV rows rows.length).2, true) := if_pos ⟨h, hm⟩
/-- Rows of which some are one's own. -/
def InnP (T : TypeId) (w0 : World) (Yi : List Ob) (ll : List IntsA) : Prop := ∀ x ∈ ll, x.Reads w0 ∨ ∃ Y, List.Sublist Y Yi ∧ SlO T Y x.p x.n x.cap x.l
variable {T : TypeId} {w w0 : World} {Y Yi Lb : List Ob} {ll : List IntsA} {y : IntsA}
theorem InnP.start (h : ∀ x ∈ ll, x.Reads w0) : InnP T w0 [] ll := fun x hx => .inl (h x hx)
theorem InnP.set (h : InnP T w0 Yi ll) (hy : SlO T Y y.p y.n y.cap y.l) : InnP T w0 (Y ++ Yi) (ll.set i y) := fun x hx => by
  rcases List.mem_or_eq_of_mem_set hx with e | e
  · exact (h x e).imp id fun ⟨Z, h1, h2⟩ => ⟨Z, h1.trans (List.sublist_append_right _ _), h2⟩
  · subst e; exact .inr ⟨Y, List.sublist_append_left _ _, hy⟩
theorem InnP.reads (h : InnP T w0 Yi ll) (hw : Hs w0 Lb w) (hs : List.Sublist Yi Lb) : ∀ x ∈ ll, x.Reads w := fun x hx => by
  rcases h x hx with e | ⟨Z, h1, h2⟩
  · exact e.kept hw.below
  · have hf := h2.facts
    exact ⟨h2.sub hw (h1.trans hs), hf.1, hf.2.1, hf.2.2⟩
end
end Go.Proofs.Ytahccegfahghfaa

/-! The first match. -/
namespace Go.Proofs.Ytahccegfahghfaa
open Go Go.RowKit

set_option maxRecDepth 100000 in
theorem clonerr_t (p : Option Addr) (n cap : Nat) (l : List IntsA) (w : World)
 (hsl : Sv w p l) (hn : n = l.length) (hb : n ≤ 1000)
 : Calls Try.prog 36 #[.slice p n cap] w fun e w' => ∃ q capq Y, e = .returned (.slice q n capq) ∧ SlO 25 Y q n capq l ∧ Below w.heap.size w w' ∧ Hs w Y w' := by
 refine enter (Hs.start w) Try.func36 rfl Try.ntmps36 rfl (sq_ (qa0 [] [0] [] (ds_ (sq_ (sq_ ?_)))))
 rcases p with _ | a3
 ·
  refine qa0 [] [0] [(4, .bool true)] (ds_ (t_ (sq_ (qa0 [] [] [(2, .slice none 0 0)] (ds_ (rt ([]) (.slice none 0 0) ?_))))))
  exact fun w' hw => ⟨none, 0, [], by rw [hn, hsl.none]; rfl, by rw [hn, hsl.none]; exact SlO.nil, hw.below, hw.sub (List.nil_sublist _)⟩
 ·
  refine qa0 [] [0] [(4, .bool false)] (ds_ (f_ (at_skip (ds_ (sq_ (ao_ (mo0 2 [] [] (fun γ7 => [(5, .slice (some ⟨γ7 0, 0, none⟩) 0 0), (6, .slice (some a3) n cap)]) (fun γ7 L => bx (γ7 0) (#[]) 25 :: L) (fun γ7 => ops_append (α := IntsA) [] ([bx (γ7 0) (#[]) 25]) ([]) (mvE rfl) rfl (by kernel_rfl) (by kernel_rfl) (p := (some ⟨γ7 0, 0, none⟩)) (n := 0) (cap := 0) (m := n) (yv := .slice (some a3) n cap) (by kernel_rfl) (by kernel_rfl) (T := 25) (by_ := 24) (by kernel_rfl) ([]) l (SlO.lit (by rfl) (by rfl) (by simp [maxLen])) (fun w hw => src_svn Try.underlying24 (hsl.kept hw.below) hn) hn (by have hmx : maxLen = 9223372036854775807 := rfl; omega) (by have hmx : maxLen = 9223372036854775807 := rfl; omega) (fun Y8 p8 cap8 hO8 => qo0 1 [] [] [(2, .slice p8 (0 + n) cap8)] (on_ (ds_ (rt ([]) (.slice p8 (0 + n) cap8) ?_))))))))))))
  exact fun w' hw => ⟨_, _, _, by rw [Nat.zero_add], by simpa using hO8, hw.below, ((hw.tailN 0).sub (List.sublist_append_left Y8 ([])))⟩

set_option maxRecDepth 100000 in
theorem cloneints_t (p : Option Addr) (n cap : Nat) (l : List Int) (w : World)
 (hsl : Sv w p l) (hn : n = l.length) (hb : n ≤ 1000)
 : Calls Try.prog 44 #[.slice p n cap] w fun e w' => ∃ q capq Y, e = .returned (.slice q n capq) ∧ SlO 3 Y q n capq l ∧ Below w.heap.size w w' ∧ Hs w Y w' := by
 refine enter (Hs.start w) Try.func44 rfl Try.ntmps44 rfl (sq_ (qa0 [] [0] [] (ds_ (sq_ (sq_ ?_)))))
 rcases p with _ | a3
 ·
  refine qa0 [] [0] [(4, .bool true)] (ds_ (t_ (sq_ (qa0 [] [] [(2, .slice none 0 0)] (ds_ (rt ([]) (.slice none 0 0) ?_))))))
  exact fun w' hw => ⟨none, 0, [], by rw [hn, hsl.none]; rfl, by rw [hn, hsl.none]; exact SlO.nil, hw.below, hw.sub (List.nil_sublist _)⟩
 ·
  refine qa0 [] [0] [(4, .bool false)] (ds_ (f_ (at_skip (ds_ (sq_ (ao_ (mo0 2 [] [] (fun γ7 => [(5, .slice (some ⟨γ7 0, 0, none⟩) 0 0), (6, .slice (some a3) n cap)]) (fun γ7 L => bx (γ7 0) (#[]) 3 :: L) (fun γ7 => ops_append (α := Int) [] ([bx (γ7 0) (#[]) 3]) ([]) (mvE rfl) rfl (by kernel_rfl) (by kernel_rfl) (p := (some ⟨γ7 0, 0, none⟩)) (n := 0) (cap := 0) (m := n) (yv := .slice (some a3) n cap) (by kernel_rfl) (by kernel_rfl) (T := 3) (by_ := 8) (by kernel_rfl) ([]) l (SlO.lit (by rfl) (by rfl) (by simp [maxLen])) (fun w hw => src_svn Try.underlying25 (hsl.kept hw.below) hn) hn (by have hmx : maxLen = 9223372036854775807 := rfl; omega) (by have hmx : maxLen = 9223372036854775807 := rfl; omega) (fun Y8 p8 cap8 hO8 => qo0 1 [] [] [(2, .slice p8 (0 + n) cap8)] (on_ (ds_ (rt ([]) (.slice p8 (0 + n) cap8) ?_))))))))))))
  exact fun w' hw => ⟨_, _, _, by rw [Nat.zero_add], by simpa using hO8, hw.below, ((hw.tailN 0).sub (List.sublist_append_left Y8 ([])))⟩

set_option maxRecDepth 100000 in
theorem match_t (q : Option Addr) (m capq : Nat) (al : List IntsA) (w : World)
 (hal : Sv w q al) (hma : m = al.length) (hbm : m ≤ 1000) (hnm : ∀ x ∈ al, x.Reads w) (hm9 : ∀ x ∈ al, x.n ≤ 1000)
 : Calls Try.prog 10 #[.slice q m capq] w fun e w' => ∃ q' m' c' Y, e = .returned (.tuple #[.slice q' m' c', .bool (matchA (al.map IntsA.l)).2]) ∧ SlO 3 Y q' m' c' (matchA (al.map IntsA.l)).1 ∧ Below w.heap.size w w' ∧ Hs w Y w' := by
 refine enter (Hs.start w) Try.func10 rfl Try.ntmps10 rfl (sq_ (qa0 [] [0] [] (ds_ (sq_ (sq_ ?_)))))
 rcases q2 : choB (al.map IntsA.l) with _ | _
 ·
  refine ao_ (qo0 1 [] [0] [(10, .slice q m capq)] (cD (.bool false) Try.call34 (fun w hw => by have := choices_t q m capq al w (hal.kept hw.below) hma (by omega) (fun x hx => (hnm x hx).kept hw.below) hm9; rw [q2] at this; exact this) (qo0 6 [] [0] [(17, .bool true)] (on_ (ds_ (t_ (sq_ (qa0 [] [] [(2, .slice none 0 0), (3, .bool false)] (ds_ (rt ([]) (.tuple #[.slice none 0 0, .bool false]) ?_))))))))))
  exact fun w' hw => by rw [ma_bad q2]; exact ⟨none, 0, 0, [], rfl, SlO.nil, hw.below, hw.sub (List.nil_sublist _)⟩
 ·
  have hrw := (cho_rows q2).1
  have hm8 := (cho_rows q2).2.1
  rw [List.length_map] at hm8
  refine ao_ (qo0 1 [] [0] [(10, .slice q m capq)] (cD (.bool true) Try.call34 (fun w hw => by have := choices_t q m capq al w (hal.kept hw.below) hma (by omega) (fun x hx => (hnm x hx).kept hw.below) hm9; rw [q2] at this; exact this) (qo0 3 [] [0] [(13, .bool false), (14, .slice q m capq)] ?_)))
  rcases q8 : matchV (al.map IntsA.l) with _ | _
  ·
   refine cD (.bool false) Try.call35 (fun w hw => by have := matching_t q m capq al w (hal.kept hw.below) hma (by omega) (fun x hx => (hnm x hx).kept hw.below) hrw; rw [q8] at this; exact this) (qo0 2 [] [0] [(17, .bool true)] (on_ (ds_ (t_ (sq_ (qa0 [] [] [(2, .slice none 0 0), (3, .bool false)] (ds_ (rt ([]) (.tuple #[.slice none 0 0, .bool false]) ?_))))))))
   exact fun w' hw => by rw [ma_no q8]; exact ⟨none, 0, 0, [], rfl, SlO.nil, hw.below, hw.sub (List.nil_sublist _)⟩
  ·
   refine cD (.bool true) Try.call35 (fun w hw => by have := matching_t q m capq al w (hal.kept hw.below) hma (by omega) (fun x hx => (hnm x hx).kept hw.below) hrw; rw [q8] at this; exact this) (qo0 2 [] [0] [(17, .bool false)] (on_ (ds_ (f_ (at_skip (ds_ (sq_ (ao_ (qo0 1 [] [0] [(18, .slice q m capq)] (cP (fun v L' => ∃ q_ c_ Y_, v = .slice q_ m c_ ∧ L' = List.take 0 ([]) ++ (Y_ ++ List.drop 0 ([])) ∧ SlO 25 Y_ q_ m c_ al) Try.call36 (fun w hw => (clonerr_t q m capq al w (hal.kept hw.below) hma (by omega)).mono fun e w' ⟨q_, c_, Y_, he, hO, hb, hY⟩ => ⟨_, _, he, ⟨q_, c_, Y_, rfl, rfl, hO⟩, hw.join hb hY 0⟩) ?_))))))))))
   rintro v13 L13 ⟨q13, cq13, Y13, rfl, rfl, hO13⟩
   refine qo0 1 [] [0] [(4, .slice q13 m cq13)] (on_ (ds_ (sq_ (qa0 [] [0, 4] [(5, .slice none 0 0)] (ds_ (sq_ (sq_ (qa0 [] [4, 5] [(20, .slice q m capq), (21, .int .i64 (m : Nat)), (22, .int .i64 0)] (ds_ (at_block (at_loop (α := Nat × List IntsA × List Ob × Option Addr × Nat × List Int × List Ob × Option Addr × Nat × Nat × List Ob) [4, 5, 20, 21, 22] (fun ⟨i, ll, Yl, pl, cl, ol, Yo, po, no, co, Yi⟩ => [(4, .slice pl m cl), (5, .slice po no co), (20, .slice q m capq), (21, .int .i64 (m : Nat)), (22, .int .i64 (i : Nat))]) (fun ⟨i, ll, Yl, pl, cl, ol, Yo, po, no, co, Yi⟩ => (Yl ++ (Yo ++ (Yi ++ [])))) (fun ⟨i, ll, Yl, pl, cl, ol, Yo, po, no, co, Yi⟩ => i ≤ m ∧ SlO 25 Yl pl m cl ll ∧ SlO 3 Yo po no co ol ∧ InnP 3 w Yi ll ∧ (∀ l ∈ ll.map IntsA.l, ∀ c ∈ l, 0 ≤ c ∧ c < 8) ∧ no ≤ i ∧ greedV (al.map IntsA.l) i = (ll.map IntsA.l, ol)) (fun ⟨i, ll, Yl, pl, cl, ol, Yo, po, no, co, Yi⟩ => m - i) (0, al, Y13, q13, cq13, [], [], none, 0, 0, []) (by kernel_rfl) rfl ⟨Nat.zero_le _, hO13, SlO.nil, InnP.start hnm, hrw, Nat.le_refl _, rfl⟩ ?_)))))))))))
   rintro ⟨i, ll, Yl, pl, cl, ol, Yo, po, no, co, Yi⟩
   rintro ⟨hi, hL, hO, hP, hLr, hno, hG⟩
   have hll := hL.len
   have hlo := hO.len
   refine sq_ ?_
   by_cases q18 : ((i : Nat) : Int) < ((m : Nat) : Int)
   ·
    refine qa [(0, .yes)] [4, 5, 20, 21, 22] [(23, .bool true)] ([((i : Nat) : Int) < ((m : Nat) : Int)]) (al1 q18) (ds_ (sq_ (t_ (at_skip (ds_ (sq_ (at_block (sq_ ?_))))))))
    obtain ⟨b21, o21, rfl⟩ := hal.pos (i := i) (by omega)
    obtain ⟨x23, hx23⟩ := get_some (l := al) (m := i) (by omega)
    obtain ⟨hsx23, hnx23, hcx23, hbx23⟩ := hnm x23 (List.mem_of_getElem? hx23)
    refine qa [(1, .at b21 o21 i), (2, .go (outs b21 (o21 + i * 1) [.slice x23.p x23.n x23.cap]))] [4, 5, 20, 21, 22] [(6, .int .i64 (i : Nat)), (7, .slice x23.p x23.n x23.cap)] ([(some ⟨b21, o21, none⟩ : Option Addr) = some ⟨b21, o21, none⟩, (i : Nat) = ((i : Nat) : Int), i < m] ++ (cellsP w b21 (o21 + i * 1) [.slice x23.p x23.n x23.cap])) (alA (al2 rfl (al2 rfl (al1 (by omega)))) (rd_pre (hal.get hx23) _ rfl)) (ds_ (sq_ (qa0 [] [4, 5, 6, 20, 21, 22] [(27, .slice x23.p x23.n x23.cap), (28, .int .i64 (x23.n : Nat)), (29, .int .i64 0)] (ds_ (at_block ?_)))))
    have hrow := row_at (rows := (al.map IntsA.l)) rfl hx23
    have hm9x := hm9 x23 (List.mem_of_getElem? hx23)
    refine at_loop (α := Nat × List IntsA × List Ob × Option Addr × Nat × List Ob) [4, 5, 6, 20, 21, 22, 27, 28, 29] (fun ⟨j, lm, Ym, pm, cm, Yj⟩ => [(4, .slice pm m cm), (5, .slice po no co), (6, .int .i64 (i : Nat)), (20, .slice (some ⟨b21, o21, none⟩) m capq), (21, .int .i64 (m : Nat)), (22, .int .i64 (i : Nat)), (27, .slice x23.p x23.n x23.cap), (28, .int .i64 (x23.n : Nat)), (29, .int .i64 (j : Nat))]) (fun ⟨j, lm, Ym, pm, cm, Yj⟩ => (Ym ++ (Yo ++ (Yj ++ [])))) (fun ⟨j, lm, Ym, pm, cm, Yj⟩ => j ≤ x23.n ∧ SlO 25 Ym pm m cm lm ∧ InnP 3 w Yj lm ∧ (∀ l ∈ lm.map IntsA.l, ∀ c ∈ l, 0 ≤ c ∧ c < 8) ∧ pickL i (x23.l.drop j) (lm.map IntsA.l) ol = greedV (al.map IntsA.l) (i + 1)) (fun ⟨j, lm, Ym, pm, cm, Yj⟩ => x23.n - j) (0, ll, Yl, pl, cl, Yi) (by kernel_rfl) rfl ⟨Nat.zero_le _, hL, hP, hLr, by rw [List.drop_zero]; exact greed_row hrow hG⟩ ?_
    rintro ⟨j, lm, Ym, pm, cm, Yj⟩
    rintro ⟨hj, hM, hQ, hMr, hK⟩
    have hlm := hM.len
    refine sq_ ?_
    by_cases q27 : ((j : Nat) : Int) < ((x23.n : Nat) : Int)
    ·
     refine qa [(0, .yes)] [4, 5, 6, 20, 21, 22, 27, 28, 29] [(30, .bool true)] ([((j : Nat) : Int) < ((x23.n : Nat) : Int)]) (al1 q27) (ds_ (sq_ (t_ (at_skip (ds_ (sq_ (at_block (sq_ ?_))))))))
     obtain ⟨b30, o30, hbo30⟩ := hsx23.pos (i := j) (by omega)
     have hsv30 := hsx23
     rw [hbo30] at hsv30
     obtain ⟨x32, hx32⟩ := get_some (l := x23.l) (m := j) (by omega)
     refine qa [(0, .at b30 o30 j), (1, .go (outs b30 (o30 + j * 1) [.int .i64 x32]))] [4, 5, 6, 20, 21, 22, 27, 28, 29] [(9, .int .i64 x32)] ([(x23.p : Option Addr) = some ⟨b30, o30, none⟩, (j : Nat) = ((j : Nat) : Int), j < x23.n] ++ (cellsP w b30 (o30 + j * 1) [.int .i64 x32])) (alA (al2 hbo30 (al2 rfl (al1 (by omega)))) (rd_pre (hsv30.get hx32) _ rfl)) (ds_ (sq_ (sq_ (ao_ (qo0 2 [] [4, 5, 6, 9, 20, 21, 22, 27, 28, 29] [(33, .slice po no co), (34, .int .i64 x32)] ?_)))))
     rcases q35 : decide (x32 ∈ ol) with _ | _
     ·
      refine cD (.bool false) Try.call15 (fun w hw => by have := contains_t po no co ol x32 w (hO.atN (A := (Ym)) hw) hO.len (by omega); rw [q35] at this; exact this) (on_ (ds_ (f_ (at_skip (ds_ (sq_ ?_))))))
      have hln38 := hM.len
      obtain ⟨g38, cs38, rfl, rfl, hOw38⟩ := hM.rowOf (i := i) (by omega)
      obtain ⟨x40, hx40⟩ := get_some (l := lm) (m := i) (by omega)
      refine ma [(4, .at g38 0 i), (5, .go (ownps 1 (0 + i * 1) [undef]))] [4, 5, 6, 9, 20, 21, 22, 27, 28, 29] (fun γ41 => []) (fun γ41 L => bx (γ41 0) (#[.int .i64 x32]) 3 :: (L.set 0 (bx g38 ((cs38).setIfInBounds (0 + i * 1) (.slice (some ⟨γ41 0, 0, none⟩) 1 1)) 25))) (fun γ41 => [(some ⟨g38, 0, none⟩ : Option Addr) = some ⟨g38, 0, none⟩, (i : Nat) = ((i : Nat) : Int), i < m] ++ ([0 + i * 1 < (cs38).size])) (fun γ41 => (alA (al2 rfl (al2 rfl (al1 (by omega)))) (al1 (hOw38.room hM.len hx40 (f := 0) (by decide))))) (fun γ41 => ds_ (sq_ ?_))
      have hQ2 := hQ.set (i := i) (y := (⟨(some ⟨γ41 0, 0, none⟩), 1, 1, [x32]⟩ : IntsA)) (SlO.lit (by rfl) (by rfl) (by simp [maxLen]))
      have hst : List.map IntsA.l (lm.set i (⟨(some ⟨γ41 0, 0, none⟩), 1, 1, [x32]⟩ : IntsA)) = (lm.map IntsA.l).set i [x32] := by rw [List.map_set]
      have hMr2 : ∀ l ∈ List.map IntsA.l (lm.set i (⟨(some ⟨γ41 0, 0, none⟩), 1, 1, [x32]⟩ : IntsA)), ∀ c ∈ l, 0 ≤ c ∧ c < 8 := by rw [hst]; exact rows_set hMr (hrw x23.l (List.mem_of_getElem? hrow) x32 (List.mem_of_getElem? hx32))
      refine ao_ (qo0 1 [] [4, 5, 6, 9, 20, 21, 22, 27, 28, 29] [(41, .slice (some ⟨g38, 0, none⟩) m cm)] ?_)
      rcases q43 : matchV ((lm.set i (⟨(some ⟨γ41 0, 0, none⟩), 1, 1, [x32]⟩ : IntsA)).map IntsA.l) with _ | _
      ·
       refine cD (.bool false) Try.call35 (fun w hw => by have := matching_t (some ⟨g38, 0, none⟩) m cm (lm.set i (⟨(some ⟨γ41 0, 0, none⟩), 1, 1, [x32]⟩ : IntsA)) w ((SlO.ofOwn (hOw38.put (x' := (⟨(some ⟨γ41 0, 0, none⟩), 1, 1, [x32]⟩ : IntsA)) hM.len hx40 (f := 0) (by decide) rfl) (len_set hM.len)).atN (A := [_]) hw) (len_set hM.len) (by omega) (hQ2.reads hw (List.Sublist.cons_cons _ (List.Sublist.cons _ ((List.sublist_append_left Yj _).trans (List.sublist_append_right Yo _))))) hMr2; rw [q43] at this; exact this) (on_ (ds_ (f_ (at_skip (done_block (ds_ (qa [(0, .fit)] [4, 5, 6, 20, 21, 22, 27, 28] [(29, .int .i64 (j + 1 : Nat))] ([Fit .i64 ((j + 1 : Nat))]) (al1 (fit64 (by omega) (by omega))) (Done.pick [[bx (γ41 0) (#[.int .i64 x32]) 3], [bx g38 ((cs38).setIfInBounds (0 + i * 1) (.slice (some ⟨γ41 0, 0, none⟩) 1 1)) 25], Yo, Yj] [1, 2, 0, 3] [] (([bx g38 ((cs38).setIfInBounds (0 + i * 1) (.slice (some ⟨γ41 0, 0, none⟩) 1 1)) 25] ++ (Yo ++ ([bx (γ41 0) (#[.int .i64 x32]) 3] ++ (Yj ++ []))))) (by kernel_rfl) rfl rfl ?_))))))))
       exact dr [4, 5, 6, 20, 21, 22, 27, 28, 29] (j + 1, (lm.set i (⟨(some ⟨γ41 0, 0, none⟩), 1, 1, [x32]⟩ : IntsA)), [bx g38 ((cs38).setIfInBounds (0 + i * 1) (.slice (some ⟨γ41 0, 0, none⟩) 1 1)) 25], (some ⟨g38, 0, none⟩), cm, ([bx (γ41 0) (#[.int .i64 x32]) 3] ++ Yj)) ⟨by omega, (SlO.ofOwn (hOw38.put (x' := (⟨(some ⟨γ41 0, 0, none⟩), 1, 1, [x32]⟩ : IntsA)) hM.len hx40 (f := 0) (by decide) rfl) (len_set hM.len)), hQ2, hMr2, by rw [drop_at hx32] at hK; rw [hst] at q43; rw [pk_no q35 q43] at hK; rw [hst]; exact hK⟩
      ·
       refine cD (.bool true) Try.call35 (fun w hw => by have := matching_t (some ⟨g38, 0, none⟩) m cm (lm.set i (⟨(some ⟨γ41 0, 0, none⟩), 1, 1, [x32]⟩ : IntsA)) w ((SlO.ofOwn (hOw38.put (x' := (⟨(some ⟨γ41 0, 0, none⟩), 1, 1, [x32]⟩ : IntsA)) hM.len hx40 (f := 0) (by decide) rfl) (len_set hM.len)).atN (A := [_]) hw) (len_set hM.len) (by omega) (hQ2.reads hw (List.Sublist.cons_cons _ (List.Sublist.cons _ ((List.sublist_append_left Yj _).trans (List.sublist_append_right Yo _))))) hMr2; rw [q43] at this; exact this) (on_ (ds_ (t_ (sq_ (ao_ (mo0 3 [] [4, 20, 21, 22] (fun γ47 => [(43, .slice po no co), (45, .slice (some ⟨γ47 0, 0, none⟩) 1 1)]) (fun γ47 L => bx (γ47 0) (#[.int .i64 x32]) 3 :: L) (fun γ47 => ops_append (α := Int) [bx (γ47 0) (#[.int .i64 x32]) 3, bx (γ41 0) (#[.int .i64 x32]) 3, bx g38 ((cs38).setIfInBounds (0 + i * 1) (.slice (some ⟨γ41 0, 0, none⟩) 1 1)) 25] Yo (Yj ++ []) (.refl _) rfl (by kernel_rfl) (by kernel_rfl) (p := po) (n := no) (cap := co) (m := 1) (yv := .slice (some ⟨γ47 0, 0, none⟩) 1 1) (by kernel_rfl) (by kernel_rfl) (T := 3) (by_ := 8) (by kernel_rfl) ol ([x32]) hO (fun w hw => src_svn Try.underlying25 (sv_row (hw.row 0 rfl) (by rfl)) (by rfl)) (by rfl) (by have hmx : maxLen = 9223372036854775807 := rfl; omega) (by have hmx : maxLen = 9223372036854775807 := rfl; omega) (fun Y48 p48 cap48 hO48 => qo0 1 [] [4, 20, 21, 22] [(5, .slice p48 (no + 1) cap48)] (on_ (ds_ (at_leave _ rfl (done_block (ds_ (qa [(0, .fit)] [4, 5, 20, 21] [(22, .int .i64 (i + 1 : Nat))] ([Fit .i64 ((i + 1 : Nat))]) (al1 (fit64 (by omega) (by omega))) (Done.pick [[bx (γ47 0) (#[.int .i64 x32]) 3], [bx (γ41 0) (#[.int .i64 x32]) 3], [bx g38 ((cs38).setIfInBounds (0 + i * 1) (.slice (some ⟨γ41 0, 0, none⟩) 1 1)) 25], Y48, Yj] [2, 3, 1, 4] [0] (([bx g38 ((cs38).setIfInBounds (0 + i * 1) (.slice (some ⟨γ41 0, 0, none⟩) 1 1)) 25] ++ (Y48 ++ ([bx (γ41 0) (#[.int .i64 x32]) 3] ++ (Yj ++ []))))) (by kernel_rfl) rfl rfl ?_)))))))))))))))
       rw [hst] at q43
       exact dr [4, 5, 20, 21, 22] (i + 1, (lm.set i (⟨(some ⟨γ41 0, 0, none⟩), 1, 1, [x32]⟩ : IntsA)), ([bx g38 ((cs38).setIfInBounds (0 + i * 1) (.slice (some ⟨γ41 0, 0, none⟩) 1 1)) 25]), (some ⟨g38, 0, none⟩), cm, (ol ++ [x32]), Y48, p48, (no + 1), cap48, ([bx (γ41 0) (#[.int .i64 x32]) 3] ++ Yj)) ⟨by omega, (SlO.ofOwn (hOw38.put (x' := (⟨(some ⟨γ41 0, 0, none⟩), 1, 1, [x32]⟩ : IntsA)) hM.len hx40 (f := 0) (by decide) rfl) (len_set hM.len)), hO48, hQ2, hMr2, by omega, by rw [hst, ← hK, drop_at hx32, pk_yes q35 q43]⟩
     ·
      refine cD (.bool true) Try.call15 (fun w hw => by have := contains_t po no co ol x32 w (hO.atN (A := (Ym)) hw) hO.len (by omega); rw [q35] at this; exact this) (on_ (ds_ (t_ (at_leave _ rfl (ds_ (qa [(0, .fit)] [4, 5, 6, 20, 21, 22, 27, 28] [(29, .int .i64 (j + 1 : Nat))] ([Fit .i64 ((j + 1 : Nat))]) (al1 (fit64 (by omega) (by omega))) ?_))))))
      exact dr [4, 5, 6, 20, 21, 22, 27, 28, 29] (j + 1, lm, Ym, pm, cm, Yj) ⟨by omega, hM, hQ, hMr, by rw [drop_at hx32, pk_in q35] at hK; exact hK⟩
    ·
     refine qa [(0, .no)] [4, 5, 6, 20, 21, 22, 27, 28, 29] [(30, .bool false)] ([¬ (((j : Nat) : Int) < ((x23.n : Nat) : Int))]) (al1 q27) (ds_ (sq_ (f_ (at_leave _ rfl (done_block (ds_ (qa [(0, .fit)] [4, 5, 20, 21] [(22, .int .i64 (i + 1 : Nat))] ([Fit .i64 ((i + 1 : Nat))]) (al1 (fit64 (by omega) (by omega))) ?_)))))))
     exact dr [4, 5, 20, 21, 22] (i + 1, lm, Ym, pm, cm, ol, Yo, po, no, co, Yj) ⟨by omega, hM, hO, hQ, hMr, by omega, by rw [← hK, List.drop_of_length_le (by omega), pk_nil]⟩
   ·
    refine qa [(0, .no)] [4, 5, 20, 21, 22] [(23, .bool false)] ([¬ (((i : Nat) : Int) < ((m : Nat) : Int))]) (al1 q18) (ds_ (sq_ (f_ (at_leave _ rfl (ds_ (sq_ (qa0 [] [] [(2, .slice po no co), (3, .bool true)] (ds_ (rt ([]) (.tuple #[.slice po no co, .bool true]) ?_)))))))))
    obtain rfl : i = m := by omega
    exact fun w' hw => by rw [ma_yes q2 q8, List.length_map, ← hma, hG]; exact ⟨_, _, _, _, rfl, hO, hw.below, one_tail14 (Hs.pick [Yl, Yo, Yi] [1] [0, 2] (by kernel_rfl) hw)⟩
end Go.Proofs.Ytahccegfahghfaa

/-! The document's first match. -/
namespace Go.Proofs.Ytahccegfahghfaa
open Go Go.RowKit
theorem SlO.as14 {α : Type} [Enc α] {T : TypeId} {Y : List Ob} {p : Option Addr} {n cap : Nat} {l l' : List α} (h : SlO T Y p n cap l) (e : l = l') : SlO T Y p n cap l' := e ▸ h

end Go.Proofs.Ytahccegfahghfaa

/-! Gangs; plain. -/
namespace Go.Proofs.Ytahccegfahghfaa
open Go Go.RowKit

/-- A gang as an element: its members lie in a row of their own. -/
structure GngA where
  id : Int
  p : Option Addr
  n : Nat
  cap : Nat
  l : List Int
def GngA.enc (x : GngA) : List Value := [.int .i64 x.id, .slice x.p x.n x.cap]
instance : Enc GngA := ⟨GngA.enc, 2, fun _ => rfl, fun x v h => by simp [GngA.enc] at h; rcases h with rfl | rfl <;> rfl, by decide⟩
def GngA.row (x : GngA) : IntsA := ⟨x.p, x.n, x.cap, x.l⟩
/-- A gang: its number, its members. -/
def GngA.val (x : GngA) : Int × List Int := (x.id, x.l)
def GngA.Reads (w : World) (x : GngA) : Prop := x.row.Reads w
abbrev Gs := List (Int × List Int)
def upB : Int → List Int → Bool
  | _, [] => true
  | a, n :: t => decide (a < n ∧ n ≤ 16) && upB n t
def mayB (l : List Int) : Bool := upB 0 l && decide (2 ≤ l.length ∧ l.length ≤ 8)
def idsB : Int → List Int → Bool
  | _, [] => true
  | a, n :: t => decide (a < n ∧ n ≤ 8) && idsB n t
def memL (gs : Gs) : List Int := gs.flatMap (·.2)
def gangB (gs : Gs) : Bool := idsB 0 (gs.map (·.1)) && gs.all (fun g => mayB g.2) && decide (memL gs).Nodup
def metM (l : List Int) : List (Int × Bool) := l.foldl (fun D n => mupd D n true) []
section
variable {l t : List Int} {a n k : Int} {gs : Gs} {g : Int × List Int} {i j : Nat} {x : GngA} {al : List GngA}
theorem met_on : metM (l ++ [n]) = mupd (metM l) n true := by simp [metM]
theorem met_get : (mget (metM l) n).getD false = decide (n ∈ l) := by
  refine set_ind (fun l => (mget (metM l) n).getD false = decide (n ∈ l)) (by simp [metM, mget]) (fun l r ih => ?_) l
  rw [met_on]
  by_cases e : n = r
  · subst e; rw [mu_get]; simp
  · rw [mu_get_ne e, ih]; simp [e]
/-- The last one of those that rise. -/
def lastV (a : Int) (l : List Int) : Int := (l.getLast?).getD a
theorem last_on14 : lastV a (l ++ [n]) = n := by simp [lastV]
theorem last_cons {b : Int} : lastV a (b :: l) = lastV b l := by unfold lastV; rw [List.getLast?_cons]; rfl
theorem up_app : ∀ {l : List Int} {a : Int}, upB a (l ++ [n]) = (upB a l && decide (lastV a l < n ∧ n ≤ 16))
  | [], a => by simp only [List.nil_append, upB, lastV, List.getLast?_nil, Option.getD_none, Bool.and_true, Bool.true_and]; exact decide_eq_decide.2 Iff.rfl
  | b :: l, a => by
    simp only [List.cons_append, upB]
    rw [up_app, Bool.and_assoc, last_cons]
theorem ids_app : ∀ {l : List Int} {a : Int}, idsB a (l ++ [n]) = (idsB a l && decide (lastV a l < n ∧ n ≤ 8))
  | [], a => by simp only [List.nil_append, idsB, lastV, List.getLast?_nil, Option.getD_none, Bool.and_true, Bool.true_and]; exact decide_eq_decide.2 Iff.rfl
  | b :: l, a => by
    simp only [List.cons_append, idsB]
    rw [ids_app, Bool.and_assoc, last_cons]
theorem up_onT (h : upB 0 (l.take j) = true) (hx : l[j]? = some n) (e : lastV 0 (l.take j) < n ∧ n ≤ 16) : upB 0 (l.take (j + 1)) = true := by
  rw [take_one hx, up_app, h, decide_eq_true e]; rfl
theorem last_onT (hx : l[j]? = some n) : lastV a (l.take (j + 1)) = n := by rw [take_one hx, last_on14]
theorem up_pre : ∀ {l t : List Int} {a : Int}, upB a (l ++ t) = true → upB a l = true
  | [], _, _, _ => rfl
  | b :: l, t, a, h => by
    simp only [List.cons_append, upB, Bool.and_eq_true] at h ⊢
    exact ⟨h.1, up_pre h.2⟩
theorem ids_pre : ∀ {l t : List Int} {a : Int}, idsB a (l ++ t) = true → idsB a l = true
  | [], _, _, _ => rfl
  | b :: l, t, a, h => by
    simp only [List.cons_append, idsB, Bool.and_eq_true] at h ⊢
    exact ⟨h.1, ids_pre h.2⟩
theorem up_bad (hx : l[j]? = some n) (e : ¬ (lastV 0 (l.take j) < n ∧ n ≤ 16)) : mayB l = false := by
  cases h : mayB l with
  | false => rfl
  | true =>
    simp only [mayB, Bool.and_eq_true] at h
    have h1 : upB 0 (l.take (j + 1)) = true := up_pre (t := l.drop (j + 1)) (by rw [List.take_append_drop]; exact h.1)
    rw [take_one hx, up_app, Bool.and_eq_true, decide_eq_true_eq] at h1
    exact absurd h1.2 e
theorem may_end (h : upB 0 (l.take j) = true) (hj : l.length ≤ j) : mayB l = decide (2 ≤ l.length ∧ l.length ≤ 8) := by
  rw [List.take_of_length_le hj] at h
  rw [mayB, h]; rfl
theorem may_yes (h : upB 0 (l.take j) = true) (hj : l.length ≤ j) (e : 2 ≤ l.length ∧ l.length ≤ 8) : mayB l = true := by rw [may_end h hj]; exact decide_eq_true e
theorem may_no (h : upB 0 (l.take j) = true) (hj : l.length ≤ j) (e : ¬ (2 ≤ l.length ∧ l.length ≤ 8)) : mayB l = false := by rw [may_end h hj]; exact decide_eq_false e
theorem may_len (h : mayB l = true) : 2 ≤ l.length ∧ l.length ≤ 8 := by
  simp only [mayB, Bool.and_eq_true, decide_eq_true_eq] at h
  exact h.2
theorem gang_pre (h : gangB gs = true) (j : Nat) : idsB 0 ((gs.take j).map (·.1)) = true ∧ (∀ g ∈ gs, mayB g.2 = true) ∧ (memL gs).Nodup := by
  simp only [gangB, Bool.and_eq_true, List.all_eq_true, decide_eq_true_eq] at h
  refine ⟨ids_pre (t := (gs.drop j).map (·.1)) ?_, h.1.2, h.2⟩
  rw [← List.map_append, List.take_append_drop]
  exact h.1.1
theorem gang_ids (hx : gs[j]? = some g) (e : ¬ (lastV 0 ((gs.take j).map (·.1)) < g.1 ∧ g.1 ≤ 8)) : gangB gs = false := by
  cases h : gangB gs with
  | false => rfl
  | true =>
    have := (gang_pre h (j + 1)).1
    rw [take_one hx, List.map_append, List.map_cons, List.map_nil, ids_app, Bool.and_eq_true, decide_eq_true_eq] at this
    exact absurd this.2 e
theorem gang_may (hx : gs[j]? = some g) (e : mayB g.2 = false) : gangB gs = false := by
  cases h : gangB gs with
  | false => rfl
  | true => have := (gang_pre h 0).2.1 g (List.mem_of_getElem? hx); rw [e] at this; cases this
theorem memL_take (hx : gs[j]? = some g) : memL gs = memL (gs.take j) ++ (g.2 ++ memL (gs.drop (j + 1))) := by
  have h1 : gs = gs.take j ++ g :: gs.drop (j + 1) := by
    obtain ⟨hl, he⟩ := List.getElem?_eq_some_iff.1 hx
    rw [← he, ← List.drop_eq_getElem_cons hl, List.take_append_drop]
  conv => lhs; rw [h1]
  simp [memL]
theorem gang_twice (hx : gs[j]? = some g) (hn : g.2[i]? = some n) (e : decide (n ∈ memL (gs.take j) ++ g.2.take i) = true) : gangB gs = false := by
  cases h : gangB gs with
  | false => rfl
  | true =>
    have hd := (gang_pre h 0).2.2
    rw [memL_take hx] at hd
    have hm := of_decide_eq_true e
    obtain ⟨h1, h2, h3⟩ := List.nodup_append.1 hd
    obtain ⟨h4, _, _⟩ := List.nodup_append.1 h2
    rcases List.mem_append.1 hm with e1 | e1
    · exact absurd rfl (h3 n e1 n (List.mem_append_left _ (List.mem_of_getElem? hn)))
    · obtain ⟨k, hk⟩ := List.mem_iff_getElem?.1 e1
      rw [List.getElem?_take] at hk
      split at hk
      · rename_i hki
        obtain ⟨l1, e1⟩ := List.getElem?_eq_some_iff.1 hk
        obtain ⟨l2, e2⟩ := List.getElem?_eq_some_iff.1 hn
        have := (List.getElem_inj h4).1 (e1.trans e2.symm)
        omega
      · cases hk
theorem memL_onT (hx : gs[j]? = some g) : memL (gs.take (j + 1)) = memL (gs.take j) ++ g.2 := by rw [take_one hx]; simp [memL]
theorem ids_onT (h : idsB 0 ((gs.take j).map (·.1)) = true) (hx : gs[j]? = some g) (e : lastV 0 ((gs.take j).map (·.1)) < g.1 ∧ g.1 ≤ 8) : idsB 0 ((gs.take (j + 1)).map (·.1)) = true := by
  rw [take_one hx, List.map_append, List.map_cons, List.map_nil, ids_app, h, decide_eq_true e]; rfl
theorem lastid_onT (hx : gs[j]? = some g) : lastV a ((gs.take (j + 1)).map (·.1)) = g.1 := by rw [take_one hx, List.map_append, List.map_cons, List.map_nil, last_on14]
theorem gang_end (h1 : idsB 0 ((gs.take j).map (·.1)) = true) (h2 : ∀ g ∈ gs.take j, mayB g.2 = true) (h3 : (memL (gs.take j)).Nodup) (hj : gs.length ≤ j) : gangB gs = true := by
  rw [List.take_of_length_le hj] at h1 h2 h3
  rw [gangB, h1, List.all_eq_true.2 h2, decide_eq_true h3]; rfl
theorem nodup_more {l : List Int} (h : l.Nodup) (e : decide (n ∈ l) = false) : (l ++ [n]).Nodup := by
  rw [List.nodup_append]
  exact ⟨h, by simp, fun a ha b hb e2 => by simp at hb; subst hb; subst e2; exact of_decide_eq_false e ha⟩
theorem val_at (hx : al[j]? = some x) : (al.map GngA.val)[j]? = some (x.id, x.l) := by rw [List.getElem?_map, hx]; rfl
theorem val_take : (al.map GngA.val).take j = (al.take j).map GngA.val := List.map_take.symm
end
end Go.Proofs.Ytahccegfahghfaa

/-! Which gangs may be. -/
namespace Go.Proofs.Ytahccegfahghfaa
open Go Go.RowKit

set_option maxRecDepth 100000 in
theorem may_t (p : Option Addr) (n cap : Nat) (l : List Int) (w : World)
 (hsl : Sv w p l) (hn : n = l.length) (hb : n ≤ 1000)
 : Calls Try.prog 41 #[.slice p n cap] w fun e w' => e = .returned (.bool (mayB l)) ∧ Below w.heap.size w w' := by
 refine enter (Hs.start w) Try.func41 rfl Try.ntmps41 rfl (sq_ (qa0 [] [0] [] (ds_ (sq_ (qa0 [] [0] [(3, .int .i64 0)] (ds_ (sq_ (sq_ (qa0 [] [0, 3] [(6, .slice p n cap), (7, .int .i64 (n : Nat)), (8, .int .i64 0)] (ds_ (at_block (at_loop (α := Nat × Int) [0, 3, 6, 7, 8] (fun ⟨j, c⟩ => [(0, .slice p n cap), (3, .int .i64 c), (6, .slice p n cap), (7, .int .i64 (n : Nat)), (8, .int .i64 (j : Nat))]) (fun ⟨j, c⟩ => []) (fun ⟨j, c⟩ => j ≤ n ∧ c = lastV 0 (l.take j) ∧ upB 0 (l.take j) = true) (fun ⟨j, c⟩ => n - j) (0, 0) (by kernel_rfl) rfl ⟨Nat.zero_le _, rfl, rfl⟩ ?_))))))))))))
 rintro ⟨j, c⟩
 rintro ⟨hj, hc, hI⟩
 refine sq_ ?_
 by_cases q5 : ((j : Nat) : Int) < ((n : Nat) : Int)
 ·
  refine qa [(0, .yes)] [0, 3, 6, 7, 8] [(9, .bool true)] ([((j : Nat) : Int) < ((n : Nat) : Int)]) (al1 q5) (ds_ (sq_ (t_ (at_skip (ds_ (sq_ (at_block (sq_ ?_))))))))
  obtain ⟨b8, o8, rfl⟩ := hsl.pos (i := j) (by omega)
  obtain ⟨x10, hx10⟩ := get_some (l := l) (m := j) (by omega)
  refine qa [(0, .at b8 o8 j), (1, .go (outs b8 (o8 + j * 1) [.int .i64 x10]))] [0, 3, 6, 7, 8] [(5, .int .i64 x10)] ([(some ⟨b8, o8, none⟩ : Option Addr) = some ⟨b8, o8, none⟩, (j : Nat) = ((j : Nat) : Int), j < n] ++ (cellsP w b8 (o8 + j * 1) [.int .i64 x10])) (alA (al2 rfl (al2 rfl (al1 (by omega)))) (rd_pre (hsl.get hx10) _ rfl)) (ds_ (sq_ (sq_ ?_)))
  by_cases q13 : (x10 : Int) ≤ (c : Int)
  ·
   refine qa [(2, .yes)] [0, 5, 6, 7, 8] [(18, .bool true)] ([(x10 : Int) ≤ (c : Int)]) (al1 q13) (ds_ (t_ (sq_ (qa0 [] [] [(2, .bool false)] (ds_ (rt ([]) (.bool false) ?_))))))
   exact fun w' hw => ⟨by rw [up_bad hx10 (by rw [← hc]; omega)], hw.below⟩
  ·
   by_cases q17 : (x10 : Int) > (16 : Int)
   ·
    refine qa [(2, .no), (5, .yes)] [0, 5, 6, 7, 8] [(18, .bool true)] ([¬ ((x10 : Int) ≤ (c : Int))] ++ ([(x10 : Int) > (16 : Int)])) (alA (al1 q13) (al1 q17)) (ds_ (t_ (sq_ (qa0 [] [] [(2, .bool false)] (ds_ (rt ([]) (.bool false) ?_))))))
    exact fun w' hw => ⟨by rw [up_bad hx10 (by rw [← hc]; omega)], hw.below⟩
   ·
    refine qa [(2, .no), (5, .no)] [0, 5, 6, 7, 8] [(18, .bool false)] ([¬ ((x10 : Int) ≤ (c : Int))] ++ ([¬ ((x10 : Int) > (16 : Int))])) (alA (al1 q13) (al1 q17)) (ds_ (f_ (at_skip (ds_ (qa0 [] [0, 6, 7, 8] [(3, .int .i64 x10)] (done_block (ds_ (qa [(0, .fit)] [0, 3, 6, 7] [(8, .int .i64 (j + 1 : Nat))] ([Fit .i64 ((j + 1 : Nat))]) (al1 (fit64 (by omega) (by omega))) ?_))))))))
    exact dr [0, 3, 6, 7, 8] (j + 1, x10) ⟨by omega, (last_onT hx10).symm, up_onT hI hx10 (by rw [← hc]; omega)⟩
 ·
  refine qa [(0, .no)] [0, 3, 6, 7, 8] [(9, .bool false)] ([¬ (((j : Nat) : Int) < ((n : Nat) : Int))]) (al1 q5) (ds_ (sq_ (f_ (at_leave _ rfl (ds_ (sq_ ?_))))))
  by_cases q25 : ((n : Nat) : Int) ≥ (2 : Int)
  ·
   by_cases q27 : ((n : Nat) : Int) ≤ (8 : Int)
   ·
    refine qa [(2, .yes), (6, .yes)] [] [(2, .bool true)] ([((n : Nat) : Int) ≥ (2 : Int)] ++ ([((n : Nat) : Int) ≤ (8 : Int)])) (alA (al1 q25) (al1 q27)) (ds_ (rt ([]) (.bool true) ?_))
    exact fun w' hw => ⟨by rw [may_yes hI (by omega) (by omega)], hw.below⟩
   ·
    refine qa [(2, .yes), (6, .no)] [] [(2, .bool false)] ([((n : Nat) : Int) ≥ (2 : Int)] ++ ([¬ (((n : Nat) : Int) ≤ (8 : Int))])) (alA (al1 q25) (al1 q27)) (ds_ (rt ([]) (.bool false) ?_))
    exact fun w' hw => ⟨by rw [may_no hI (by omega) (by omega)], hw.below⟩
  ·
   refine qa [(2, .no)] [] [(2, .bool false)] ([¬ (((n : Nat) : Int) ≥ (2 : Int))]) (al1 q25) (ds_ (rt ([]) (.bool false) ?_))
   exact fun w' hw => ⟨by rw [may_no hI (by omega) (by omega)], hw.below⟩

set_option maxRecDepth 100000 in
theorem gcheck_t (q : Option Addr) (m capq : Nat) (al : List GngA) (w : World)
 (hal : Sv w q al) (hma : m = al.length) (hbm : m ≤ 1000) (hnm : ∀ x ∈ al, x.Reads w) (hm9 : ∀ x ∈ al, x.n ≤ 1000)
 : Calls Try.prog 18 #[.agg #[.slice q m capq]] w fun e w' => e = .returned (.int .i64 (if gangB (al.map GngA.val) = true then 0 else 240)) ∧ Below w.heap.size w w' := by
 refine enter (Hs.start w) Try.func18 rfl Try.ntmps18 rfl (sq_ (ma0 [] [] (fun γ1 => [(1, .pointer (some ⟨γ1 0, 0, none⟩))]) (fun γ1 L => bx (γ1 0) (#[.slice q m capq]) 38 :: L) (fun γ1 => ds_ (sq_ (ma0 [] [1] (fun γ2 => [(3, .map (some (γ2 0)))]) (fun γ2 L => (γ2 0, .map #[] 0) :: L) (fun γ2 => ds_ (sq_ (qa0 [] [1, 3] [(4, .int .i64 0)] (ds_ (sq_ (sq_ (qa0 [(1, .go (owns 1 0 1))] [3, 4] [(11, .slice q m capq), (12, .int .i64 (m : Nat)), (13, .int .i64 0)] (ds_ (at_block (At.pick [[(γ2 0, .map #[] 0)], [bx (γ1 0) (#[.slice q m capq]) 38]] [0] [1] ([(γ2 0, .map #[] 0)]) (by kernel_rfl) rfl rfl (at_loop (α := Nat × Int × Array MapEntry × Nat) [3, 4, 11, 12, 13] (fun ⟨j, c, eD, kD⟩ => [(3, .map (some (γ2 0))), (4, .int .i64 c), (11, .slice q m capq), (12, .int .i64 (m : Nat)), (13, .int .i64 (j : Nat))]) (fun ⟨j, c, eD, kD⟩ => [(γ2 0, .map eD kD)]) (fun ⟨j, c, eD, kD⟩ => j ≤ m ∧ c = lastV 0 (((al.map GngA.val).take j).map (·.1)) ∧ idsB 0 (((al.map GngA.val).take j).map (·.1)) = true ∧ (∀ g ∈ (al.map GngA.val).take j, mayB g.2 = true) ∧ (memL ((al.map GngA.val).take j)).Nodup ∧ MapIs .i64 Value.bool eD (metM (memL ((al.map GngA.val).take j)))) (fun ⟨j, c, eD, kD⟩ => m - j) (0, 0, #[], 0) (by kernel_rfl) rfl ⟨Nat.zero_le _, rfl, rfl, all_take0T, List.nodup_nil, MapIs.nil⟩ ?_))))))))))))))))
 rintro ⟨j, c, eD, kD⟩
 rintro ⟨hj, hc, hI, hA, hN, hmD⟩
 refine sq_ ?_
 by_cases q6 : ((j : Nat) : Int) < ((m : Nat) : Int)
 ·
  refine qa [(0, .yes)] [3, 4, 11, 12, 13] [(14, .bool true)] ([((j : Nat) : Int) < ((m : Nat) : Int)]) (al1 q6) (ds_ (sq_ (t_ (at_skip (ds_ (sq_ (at_block (sq_ ?_))))))))
  obtain ⟨b9, o9, rfl⟩ := hal.pos (i := j) (by omega)
  obtain ⟨x11, hx11⟩ := get_some (l := al) (m := j) (by omega)
  have hsx11 : Sv w x11.p x11.l := (hnm x11 (List.mem_of_getElem? hx11)).sv
  have hnx11 : x11.n = x11.l.length := (hnm x11 (List.mem_of_getElem? hx11)).hn
  have hm9x11 := hm9 x11 (List.mem_of_getElem? hx11)
  refine ma [(0, .at b9 o9 j), (1, .go (outs b9 (o9 + j * 2) [.int .i64 x11.id, .slice x11.p x11.n x11.cap])), (3, .go (owns 0 0 2))] [3, 4, 11, 12, 13] (fun γ12 => [(6, .pointer (some ⟨γ12 0, 0, none⟩))]) (fun γ12 L => bx (γ12 0) (#[.int .i64 x11.id, .slice x11.p x11.n x11.cap]) 46 :: L) (fun γ12 => [(some ⟨b9, o9, none⟩ : Option Addr) = some ⟨b9, o9, none⟩, (j : Nat) = ((j : Nat) : Int), j < m] ++ (cellsP w b9 (o9 + j * 2) [.int .i64 x11.id, .slice x11.p x11.n x11.cap])) (fun γ12 => (alA (al2 rfl (al2 rfl (al1 (by omega)))) (rd_pre (hal.get hx11) _ rfl))) (fun γ12 => ds_ (sq_ (sq_ ?_)))
  by_cases q14 : (x11.id : Int) ≤ (c : Int)
  ·
   refine qa [(1, .go (owns 0 0 1)), (3, .yes)] [3, 6, 11, 12, 13] [(31, .bool true)] ([(x11.id : Int) ≤ (c : Int)]) (al1 q14) (ds_ (t_ (sq_ (qa0 [] [] [(2, .int .i64 240)] (ds_ (rt ([]) (.int .i64 240) ?_))))))
   exact fun w' hw => ⟨by rw [gang_ids (val_at hx11) (by rw [← hc]; show ¬ (c < x11.id ∧ x11.id ≤ 8); omega)]; rfl, hw.below⟩
  ·
   by_cases q18 : (x11.id : Int) > (8 : Int)
   ·
    refine qa [(1, .go (owns 0 0 1)), (3, .no), (6, .go (owns 0 0 1)), (7, .yes)] [3, 6, 11, 12, 13] [(31, .bool true)] ([¬ ((x11.id : Int) ≤ (c : Int))] ++ ([(x11.id : Int) > (8 : Int)])) (alA (al1 q14) (al1 q18)) (ds_ (t_ (sq_ (qa0 [] [] [(2, .int .i64 240)] (ds_ (rt ([]) (.int .i64 240) ?_))))))
    exact fun w' hw => ⟨by rw [gang_ids (val_at hx11) (by rw [← hc]; show ¬ (c < x11.id ∧ x11.id ≤ 8); omega)]; rfl, hw.below⟩
   ·
    refine ao_ (qo 12 [(1, .go (owns 0 0 1)), (3, .no), (6, .go (owns 0 0 1)), (7, .no), (11, .go (owns 0 1 1))] [3, 6, 11, 12, 13] [(26, .bool false), (28, .slice x11.p x11.n x11.cap)] ([¬ ((x11.id : Int) ≤ (c : Int))] ++ ([¬ ((x11.id : Int) > (8 : Int))])) (alA (al1 q14) (al1 q18)) ?_)
    rcases q22 : mayB x11.l with _ | _
    ·
     refine cD (.bool false) Try.call41 (fun w hw => by have := may_t x11.p x11.n x11.cap x11.l w (hsx11.kept hw.below) hnx11 (by omega); rw [q22] at this; exact this) (qo0 2 [] [3, 6, 11, 12, 13] [(31, .bool true)] (on_ (ds_ (t_ (sq_ (qa0 [] [] [(2, .int .i64 240)] (ds_ (rt ([]) (.int .i64 240) ?_))))))))
     exact fun w' hw => ⟨by rw [gang_may (val_at hx11) q22]; rfl, hw.below⟩
    ·
     refine cD (.bool true) Try.call41 (fun w hw => by have := may_t x11.p x11.n x11.cap x11.l w (hsx11.kept hw.below) hnx11 (by omega); rw [q22] at this; exact this) (qo0 2 [] [3, 6, 11, 12, 13] [(31, .bool false)] (on_ (ds_ (f_ (at_skip (ds_ (sq_ (qa0 [(1, .go (owns 0 0 1))] [3, 6, 11, 12, 13] [(4, .int .i64 x11.id)] (ds_ (sq_ (qa0 [(1, .go (owns 0 1 1))] [3, 4, 11, 12, 13] [(35, .slice x11.p x11.n x11.cap), (36, .int .i64 (x11.n : Nat)), (37, .int .i64 0)] (ds_ (at_block (At.pick [[bx (γ12 0) (#[.int .i64 x11.id, .slice x11.p x11.n x11.cap]) 46], [(γ2 0, .map eD kD)]] [1] [0] ([(γ2 0, .map eD kD)]) (by kernel_rfl) rfl rfl (at_loop (α := Nat × Array MapEntry × Nat) [3, 4, 11, 12, 13, 35, 36, 37] (fun ⟨i, eI, kI⟩ => [(3, .map (some (γ2 0))), (4, .int .i64 x11.id), (11, .slice (some ⟨b9, o9, none⟩) m capq), (12, .int .i64 (m : Nat)), (13, .int .i64 (j : Nat)), (35, .slice x11.p x11.n x11.cap), (36, .int .i64 (x11.n : Nat)), (37, .int .i64 (i : Nat))]) (fun ⟨i, eI, kI⟩ => [(γ2 0, .map eI kI)]) (fun ⟨i, eI, kI⟩ => i ≤ x11.n ∧ (memL ((al.map GngA.val).take j) ++ x11.l.take i).Nodup ∧ MapIs .i64 Value.bool eI (metM (memL ((al.map GngA.val).take j) ++ x11.l.take i))) (fun ⟨i, eI, kI⟩ => x11.n - i) (0, eD, kD) (by kernel_rfl) rfl ⟨Nat.zero_le _, by rw [List.take_zero, List.append_nil]; exact hN, by rw [List.take_zero, List.append_nil]; exact hmD⟩ ?_)))))))))))))))
     rintro ⟨i, eI, kI⟩
     rintro ⟨hi, hN2, hmI⟩
     refine sq_ ?_
     by_cases q29 : ((i : Nat) : Int) < ((x11.n : Nat) : Int)
     ·
      refine qa [(0, .yes)] [3, 4, 11, 12, 13, 35, 36, 37] [(38, .bool true)] ([((i : Nat) : Int) < ((x11.n : Nat) : Int)]) (al1 q29) (ds_ (sq_ (t_ (at_skip (ds_ (sq_ (at_block (sq_ ?_))))))))
      obtain ⟨b32, o32, hbo32⟩ := hsx11.pos (i := i) (by omega)
      have hsv32 := hsx11
      rw [hbo32] at hsv32
      obtain ⟨x34, hx34⟩ := get_some (l := x11.l) (m := i) (by omega)
      refine qa [(0, .at b32 o32 i), (1, .go (outs b32 (o32 + i * 1) [.int .i64 x34]))] [3, 4, 11, 12, 13, 35, 36, 37] [(8, .int .i64 x34)] ([(x11.p : Option Addr) = some ⟨b32, o32, none⟩, (i : Nat) = ((i : Nat) : Int), i < x11.n] ++ (cellsP w b32 (o32 + i * 1) [.int .i64 x34])) (alA (al2 hbo32 (al2 rfl (al1 (by omega)))) (rd_pre (hsv32.get hx34) _ rfl)) (ds_ (sq_ (sq_ (ao_ (qo0 2 [] [3, 4, 8, 11, 12, 13, 35, 36, 37] [(41, .map (some (γ2 0))), (42, .int .i64 x34)] (ops_lookup (ik := .i64) (enc := Value.bool) (kk := x34) 0 (Value.bool false) (.bool ((mget (metM (memL ((al.map GngA.val).take j) ++ x11.l.take i)) x34).getD false)) rfl (by kernel_rfl) (by kernel_rfl) (by kernel_rfl) (by kernel_rfl) (⟨3, 4, by kernel_rfl, by kernel_rfl, by kernel_rfl⟩ : mapB Try.prog 33 .i64 (Value.bool false)) rfl hmI (map_getD _ _ _) (on_ (ds_ ?_))))))))
      rcases q38 : (mget (metM (memL ((al.map GngA.val).take j) ++ x11.l.take i)) x34).getD false with _ | _
      ·
       refine f_ (at_skip (ds_ (ao_ (qo0 2 [] [3, 4, 11, 12, 13, 35, 36, 37] [(44, .map (some (γ2 0))), (45, .int .i64 x34)] (ops_update (ik := .i64) (enc := Value.bool) (kk := x34) 0 true (Value.bool false) rfl (by kernel_rfl) (by kernel_rfl) (by kernel_rfl) (by kernel_rfl) (by kernel_rfl) (⟨3, 4, by kernel_rfl, by kernel_rfl, by kernel_rfl⟩ : mapB Try.prog 33 .i64 (Value.bool false)) rfl hmI (fun es40 ck40 hM40 => on_ (done_block (ds_ (qa [(0, .fit)] [3, 4, 11, 12, 13, 35, 36] [(37, .int .i64 (i + 1 : Nat))] ([Fit .i64 ((i + 1 : Nat))]) (al1 (fit64 (by omega) (by omega))) ?_)))))))))
       exact dr [3, 4, 11, 12, 13, 35, 36, 37] (i + 1, es40, ck40) ⟨by omega, by rw [take_one hx34, ← List.append_assoc]; exact nodup_more hN2 (by rw [← met_get]; exact q38), by rw [take_one hx34, ← List.append_assoc, met_on]; exact hM40⟩
      ·
       refine t_ (sq_ (qa0 [] [] [(2, .int .i64 240)] (ds_ (rt ([]) (.int .i64 240) ?_))))
       exact fun w' hw => ⟨by rw [gang_twice (val_at hx11) hx34 (by rw [← met_get]; exact q38)]; rfl, hw.below⟩
     ·
      refine qa [(0, .no)] [3, 4, 11, 12, 13, 35, 36, 37] [(38, .bool false)] ([¬ (((i : Nat) : Int) < ((x11.n : Nat) : Int))]) (al1 q29) (ds_ (sq_ (f_ (at_leave _ rfl (done_block (ds_ (qa [(0, .fit)] [3, 4, 11, 12] [(13, .int .i64 (j + 1 : Nat))] ([Fit .i64 ((j + 1 : Nat))]) (al1 (fit64 (by omega) (by omega))) ?_)))))))
      rw [show x11.l.take i = x11.l from List.take_of_length_le (by omega)] at hN2 hmI
      exact dr [3, 4, 11, 12, 13] (j + 1, x11.id, eI, kI) ⟨by omega, (lastid_onT (val_at hx11)).symm, ids_onT hI (val_at hx11) (by rw [← hc]; show c < x11.id ∧ x11.id ≤ 8; omega), all_onT hA (val_at hx11) q22, by rw [memL_onT (val_at hx11)]; exact hN2, by rw [memL_onT (val_at hx11)]; exact hmI⟩
 ·
  refine qa [(0, .no)] [3, 4, 11, 12, 13] [(14, .bool false)] ([¬ (((j : Nat) : Int) < ((m : Nat) : Int))]) (al1 q6) (ds_ (sq_ (f_ (at_leave _ rfl (ds_ (sq_ (qa0 [] [] [(2, .int .i64 0)] (ds_ (rt ([]) (.int .i64 0) ?_)))))))))
  exact fun w' hw => ⟨by rw [gang_end hI hA hN (by rw [List.length_map]; omega)]; rfl, hw.below⟩
end Go.Proofs.Ytahccegfahghfaa

/-! Where a virtual CPU's gang is. -/
namespace Go.Proofs.Ytahccegfahghfaa
open Go Go.RowKit

/-- The virtual CPU is in this gang. -/
def hasG (k : Int) (x : GngA) : Bool := decide (k ∈ x.l)
/-- It is in one of these. -/
def inG (al : List GngA) (k : Int) : Bool := decide (0 ≤ idxF (hasG k) al)
theorem any_none {α : Type} {l : List α} {pd : α → Bool} (h : ∀ x ∈ l, pd x = false) : l.any pd = false := List.any_eq_false.2 fun x hx => by rw [h x hx]; exact Bool.false_ne_true
theorem rd_one14 {w : World} {g : Nat} {v : Value} {T : TypeId} {f : Nat × Nat} (h : w.heap[g]? = some (.cells #[v] T f)) : Rd w g (0 + 0 * 1) [v] := fun j u hj => by
  match j, hj with
  | 0, hj => rw [show (⟨g, 0 + 0 * 1 + 0, none⟩ : Addr) = ⟨g, 0, none⟩ from rfl, cell_own h]; simpa using hj

set_option maxRecDepth 100000 in
theorem place1_t (x : GngA) (g : Nat) (k : Int) (w : World)
    (hk : Rd w g (0 + 0 * 1) [.int .i64 k]) (hsx : Sv w x.p x.l) (hnx : x.n = x.l.length) (hm9x : x.n ≤ 1000)
    : Calls Try.prog 64 #[.agg #[.int .i64 x.id, .slice x.p x.n x.cap], .pointer (some ⟨g, 0 + 0 * 1, none⟩)] w fun e w' => e = .returned (.bool (hasG k x)) ∧ Below w.heap.size w w' := by
  refine enter (Hs.start w) Try.func64 rfl Try.ntmps64 rfl (sq_ (ma0 [] [1] (fun γ1 => [(2, .pointer (some ⟨γ1 0, 0, none⟩))]) (fun γ1 L => bx (γ1 0) (#[.int .i64 x.id, .slice x.p x.n x.cap]) 46 :: L) (fun γ1 => ds_ (sq_ (ao_ (qo 3 [(1, .go (owns 0 1 1)), (2, .go (outs g (0 + 0 * 1) [.int .i64 k]))] [] [(5, .slice x.p x.n x.cap), (6, .int .i64 k)] (cellsP w g (0 + 0 * 1) [.int .i64 k]) (rd_pre hk _ rfl) ?_))))))
  rcases q3 : decide (k ∈ x.l) with _ | _
  ·
    refine cD (.bool false) Try.call15 (fun w hw => by have := contains_t x.p x.n x.cap x.l k w (hsx.kept hw.below) hnx (by omega); rw [q3] at this; exact this) (qo0 1 [] [] [(3, .bool false)] (on_ (ds_ (rt ([]) (.bool false) ?_))))
    exact fun w' hw => ⟨by rw [show hasG k x = false from q3], hw.below⟩
  ·
    refine cD (.bool true) Try.call15 (fun w hw => by have := contains_t x.p x.n x.cap x.l k w (hsx.kept hw.below) hnx (by omega); rw [q3] at this; exact this) (qo0 1 [] [] [(3, .bool true)] (on_ (ds_ (rt ([]) (.bool true) ?_))))
    exact fun w' hw => ⟨by rw [show hasG k x = true from q3], hw.below⟩

set_option maxRecDepth 100000 in
theorem gindexf_t (w0 : World) (X : List Ob) (pg : FuncId) (pcb : Array Value) (pd : GngA → Bool) (p : Option Addr) (n cap : Nat) (l : List GngA) (w : World)
    (he : ∀ args w, (callFunc pg args).run Try.prog w = .ok (.enter pg args) w)
    (hX : Hs w0 X w) (hsl : Sv w p l) (hn : n = l.length) (hb : n ≤ 4611686018427387903)
    (hc : ∀ x ∈ l, ∀ w', Hs w0 X w' → Calls Try.prog pg (#[.agg #[.int .i64 x.id, .slice x.p x.n x.cap]] ++ pcb) w' fun e w1 => e = .returned (.bool (pd x)) ∧ Below w'.heap.size w' w1)
    : Calls Try.prog 63 #[.slice p n cap, .func (.func pg) #[] pcb] w fun e w' => e = .returned (.int .i64 (idxF pd l)) ∧ Below w.heap.size w w' := by
  refine enter (Hs.start w) Try.func63 rfl Try.ntmps63 rfl (sq_ (qa0 [] [0, 1] [] (ds_ (sq_ (sq_ (qa0 [] [0, 1] [(7, .int .i64 (n : Nat)), (8, .int .i64 0)] (ds_ (at_block (at_loop (α := Nat) [0, 1, 7, 8] (fun j => [(0, .slice p n cap), (1, .func (.func pg) #[] pcb), (7, .int .i64 (n : Nat)), (8, .int .i64 (j : Nat))]) (fun j => []) (fun j => j ≤ n ∧ ∀ (t : Nat) (y : GngA), t < j → l[t]? = some y → pd y = false) (fun j => n - j) 0 (by kernel_rfl) rfl ⟨Nat.zero_le _, fun t y h => by omega⟩ ?_)))))))))
  rintro j
  rintro ⟨hj, hI⟩
  refine sq_ ?_
  by_cases q4 : ((j : Nat) : Int) < ((n : Nat) : Int)
  ·
    refine qa [(0, .yes)] [0, 1, 7, 8] [(9, .bool true)] ([((j : Nat) : Int) < ((n : Nat) : Int)]) (al1 q4) (ds_ (sq_ (t_ (at_skip (ds_ (sq_ (at_block (sq_ (qa0 [] [0, 1, 7, 8] [(5, .int .i64 (j : Nat))] (ds_ (sq_ ?_)))))))))))
    obtain ⟨b8, o8, rfl⟩ := hsl.pos (i := j) (by omega)
    obtain ⟨x10, hx10⟩ := get_some (l := l) (m := j) (by omega)
    refine ao_ (qo 5 [(3, .at b8 o8 j), (4, .go (outs b8 (o8 + j * 2) [.int .i64 x10.id, .slice x10.p x10.n x10.cap]))] [0, 1, 5, 7, 8] [(11, .func (.func pg) #[] pcb), (15, .agg #[.int .i64 x10.id, .slice x10.p x10.n x10.cap])] ([(some ⟨b8, o8, none⟩ : Option Addr) = some ⟨b8, o8, none⟩, (j : Nat) = ((j : Nat) : Int), j < n] ++ (cellsP w b8 (o8 + j * 2) [.int .i64 x10.id, .slice x10.p x10.n x10.cap])) (alA (al2 rfl (al2 rfl (al1 (by omega)))) (rd_pre (hsl.get hx10) _ rfl)) ?_)
    rcases q12 : pd x10 with _ | _
    ·
      refine cD (.bool false) he (fun w hw => by have := hc x10 (List.mem_of_getElem? hx10) w (hX.kept hw.below); rw [q12] at this; exact this) (on_ (ds_ (f_ (at_skip (done_block (ds_ (qa [(0, .fit)] [0, 1, 7] [(8, .int .i64 (j + 1 : Nat))] ([Fit .i64 ((j + 1 : Nat))]) (al1 (fit64 (by omega) (by omega))) ?_)))))))
      exact done_round [0, 1, 7, 8] (j + 1) (by kernel_rfl) rfl ⟨by omega, fun t y ht e => by
          by_cases htj : t = j
          · subst htj; rw [hx10] at e; cases e; exact q12
          · exact hI t y (by omega) e⟩ (by first | omega | (simp only; omega))
    ·
      refine cD (.bool true) he (fun w hw => by have := hc x10 (List.mem_of_getElem? hx10) w (hX.kept hw.below); rw [q12] at this; exact this) (on_ (ds_ (t_ (sq_ (qa0 [] [] [(4, .int .i64 (j : Nat))] (ds_ (rt ([]) (.int .i64 (j : Nat)) ?_)))))))
      exact fun w' hw => ⟨by rw [idxF_hit hI hx10 q12], hw.below⟩
  ·
    refine qa [(0, .no)] [0, 1, 7, 8] [(9, .bool false)] ([¬ (((j : Nat) : Int) < ((n : Nat) : Int))]) (al1 q4) (ds_ (sq_ (f_ (at_leave _ rfl (ds_ (sq_ (qa0 [] [] [(4, .int .i64 (-1))] (ds_ (rt ([]) (.int .i64 (-1)) ?_)))))))))
    exact fun w' hw => ⟨by rw [idxF_miss hI (by omega)], hw.below⟩

set_option maxRecDepth 100000 in
theorem place_t (q : Option Addr) (m capq : Nat) (al : List GngA) (k : Int) (w : World)
    (hal : Sv w q al) (hma : m = al.length) (hbm : m ≤ 1000) (hnm : ∀ x ∈ al, x.Reads w) (hm9 : ∀ x ∈ al, x.n ≤ 1000)
    : Calls Try.prog 45 #[.agg #[.slice q m capq], .int .i64 k] w fun e w' => e = .returned (.int .i64 (idxF (hasG k) al)) ∧ Below w.heap.size w w' := by
  refine enter (Hs.start w) Try.func45 rfl Try.ntmps45 rfl (sq_ (ma0 [] [] (fun γ1 => [(2, .pointer (some ⟨γ1 0, 0, none⟩)), (3, .pointer (some ⟨γ1 1, 0, none⟩))]) (fun γ1 L => bx (γ1 1) (#[.int .i64 k]) 3 :: bx (γ1 0) (#[.slice q m capq]) 38 :: L) (fun γ1 => ds_ (sq_ (ao_ (qo0 3 [(1, .go (owns 1 0 1))] [] [(6, .slice q m capq), (7, .func (.func 64) #[] #[.pointer (some ⟨γ1 1, 0, none⟩)])] (cD (.int .i64 (idxF (hasG k) al)) Try.call63 (fun w hw => gindexf_t _ _ 64 #[.pointer (some ⟨γ1 1, 0, none⟩)] (hasG k) q m capq al w (fun args w => Try.call64 args w) hw (hal.kept hw.below) hma (by omega) (fun x hx w' hX => place1_t x (γ1 1) k w' (rd_one14 (hX.row 0 rfl)) ((hnm x hx).kept hX.below).sv (hnm x hx).hn (hm9 x hx))) (qo0 1 [] [] [(4, .int .i64 (idxF (hasG k) al))] (on_ (ds_ (rt ([]) (.int .i64 (idxF (hasG k) al)) ?_)))))))))))
  exact fun w' hw => ⟨rfl, hw.below⟩

set_option maxRecDepth 100000 in
theorem iindexf_t (w0 : World) (X : List Ob) (pg : FuncId) (pcb : Array Value) (pd : Int → Bool) (p : Option Addr) (n cap : Nat) (l : List Int) (w : World)
    (he : ∀ args w, (callFunc pg args).run Try.prog w = .ok (.enter pg args) w)
    (hX : Hs w0 X w) (hsl : Sv w p l) (hn : n = l.length) (hb : n ≤ 4611686018427387903)
    (hc : ∀ x ∈ l, ∀ w', Hs w0 X w' → Calls Try.prog pg (#[.int .i64 x] ++ pcb) w' fun e w1 => e = .returned (.bool (pd x)) ∧ Below w'.heap.size w' w1)
    : Calls Try.prog 68 #[.slice p n cap, .func (.func pg) #[] pcb] w fun e w' => e = .returned (.int .i64 (idxF pd l)) ∧ Below w.heap.size w w' := by
  refine enter (Hs.start w) Try.func68 rfl Try.ntmps68 rfl (sq_ (qa0 [] [0, 1] [] (ds_ (sq_ (sq_ (qa0 [] [0, 1] [(7, .int .i64 (n : Nat)), (8, .int .i64 0)] (ds_ (at_block (at_loop (α := Nat) [0, 1, 7, 8] (fun j => [(0, .slice p n cap), (1, .func (.func pg) #[] pcb), (7, .int .i64 (n : Nat)), (8, .int .i64 (j : Nat))]) (fun j => []) (fun j => j ≤ n ∧ ∀ (t : Nat) (y : Int), t < j → l[t]? = some y → pd y = false) (fun j => n - j) 0 (by kernel_rfl) rfl ⟨Nat.zero_le _, fun t y h => by omega⟩ ?_)))))))))
  rintro j
  rintro ⟨hj, hI⟩
  refine sq_ ?_
  by_cases q4 : ((j : Nat) : Int) < ((n : Nat) : Int)
  ·
    refine qa [(0, .yes)] [0, 1, 7, 8] [(9, .bool true)] ([((j : Nat) : Int) < ((n : Nat) : Int)]) (al1 q4) (ds_ (sq_ (t_ (at_skip (ds_ (sq_ (at_block (sq_ (qa0 [] [0, 1, 7, 8] [(5, .int .i64 (j : Nat))] (ds_ (sq_ ?_)))))))))))
    obtain ⟨b8, o8, rfl⟩ := hsl.pos (i := j) (by omega)
    obtain ⟨x10, hx10⟩ := get_some (l := l) (m := j) (by omega)
    refine ao_ (qo 5 [(3, .at b8 o8 j), (4, .go (outs b8 (o8 + j * 1) [.int .i64 x10]))] [0, 1, 5, 7, 8] [(11, .func (.func pg) #[] pcb), (15, .int .i64 x10)] ([(some ⟨b8, o8, none⟩ : Option Addr) = some ⟨b8, o8, none⟩, (j : Nat) = ((j : Nat) : Int), j < n] ++ (cellsP w b8 (o8 + j * 1) [.int .i64 x10])) (alA (al2 rfl (al2 rfl (al1 (by omega)))) (rd_pre (hsl.get hx10) _ rfl)) ?_)
    rcases q12 : pd x10 with _ | _
    ·
      refine cD (.bool false) he (fun w hw => by have := hc x10 (List.mem_of_getElem? hx10) w (hX.kept hw.below); rw [q12] at this; exact this) (on_ (ds_ (f_ (at_skip (done_block (ds_ (qa [(0, .fit)] [0, 1, 7] [(8, .int .i64 (j + 1 : Nat))] ([Fit .i64 ((j + 1 : Nat))]) (al1 (fit64 (by omega) (by omega))) ?_)))))))
      exact done_round [0, 1, 7, 8] (j + 1) (by kernel_rfl) rfl ⟨by omega, fun t y ht e => by
          by_cases htj : t = j
          · subst htj; rw [hx10] at e; cases e; exact q12
          · exact hI t y (by omega) e⟩ (by first | omega | (simp only; omega))
    ·
      refine cD (.bool true) he (fun w hw => by have := hc x10 (List.mem_of_getElem? hx10) w (hX.kept hw.below); rw [q12] at this; exact this) (on_ (ds_ (t_ (sq_ (qa0 [] [] [(4, .int .i64 (j : Nat))] (ds_ (rt ([]) (.int .i64 (j : Nat)) ?_)))))))
      exact fun w' hw => ⟨by rw [idxF_hit hI hx10 q12], hw.below⟩
  ·
    refine qa [(0, .no)] [0, 1, 7, 8] [(9, .bool false)] ([¬ (((j : Nat) : Int) < ((n : Nat) : Int))]) (al1 q4) (ds_ (sq_ (f_ (at_leave _ rfl (ds_ (sq_ (qa0 [] [] [(4, .int .i64 (-1))] (ds_ (rt ([]) (.int .i64 (-1)) ?_)))))))))
    exact fun w' hw => ⟨by rw [idxF_miss hI (by omega)], hw.below⟩

set_option maxRecDepth 100000 in
theorem containsf_t (w0 : World) (X : List Ob) (pg : FuncId) (pcb : Array Value) (pd : Int → Bool) (p : Option Addr) (n cap : Nat) (l : List Int) (w : World)
    (he : ∀ args w, (callFunc pg args).run Try.prog w = .ok (.enter pg args) w)
    (hX : Hs w0 X w)
    (hsl : Sv w p l) (hn : n = l.length) (hb : n ≤ 1000)
    (hc : ∀ x ∈ l, ∀ w', Hs w0 X w' → Calls Try.prog pg (#[.int .i64 x] ++ pcb) w' fun e w1 => e = .returned (.bool (pd x)) ∧ Below w'.heap.size w' w1)
    : Calls Try.prog 52 #[.slice p n cap, .func (.func pg) #[] pcb] w fun e w' => e = .returned (.bool (l.any pd)) ∧ Below w.heap.size w w' := by
  refine enter (Hs.start w) Try.func52 rfl Try.ntmps52 rfl (sq_ (qa0 [] [0, 1] [] (ds_ (sq_ (ao_ (qo0 2 [] [] [(5, .slice p n cap), (6, .func (.func pg) #[] pcb)] ?_))))))
  rcases idxF_cases pd l with ⟨hix, hnone⟩ | ⟨i0, x0, hix, hx0, hp0, hlow⟩
  ·
    refine cD (.int .i64 (-1)) Try.call68 (fun w hw => by have := iindexf_t w0 X pg pcb pd p n cap l w he (hX.kept hw.below) (hsl.kept hw.below) hn (by omega) hc; rw [hix] at this; exact this) (qo0 2 [] [] [(4, .bool false)] (on_ (ds_ (rt ([]) (.bool false) ?_))))
    exact fun w' hw => ⟨by rw [any_none hnone], hw.below⟩
  ·
    refine cD (.int .i64 (i0 : Nat)) Try.call68 (fun w hw => by have := iindexf_t w0 X pg pcb pd p n cap l w he (hX.kept hw.below) (hsl.kept hw.below) hn (by omega) hc; rw [hix] at this; exact this) (qo 2 [(3, .yes)] [] [(4, .bool true)] ([((i0 : Nat) : Int) ≥ (0 : Int)]) (al1 (by omega)) (on_ (ds_ (rt ([]) (.bool true) ?_))))
    exact fun w' hw => ⟨by rw [List.any_eq_true.2 ⟨x0, List.mem_of_getElem? hx0, hp0⟩], hw.below⟩

set_option maxRecDepth 100000 in
theorem form11_t (q : Option Addr) (m capq : Nat) (al : List GngA) (g3 gb : Nat) (k : Int) (w : World)
    (hal : Sv w q al) (hma : m = al.length) (hbm : m ≤ 1000) (hnm : ∀ x ∈ al, x.Reads w) (hm9 : ∀ x ∈ al, x.n ≤ 1000)
    (h3 : Rd w g3 (0 + 0 * 1) [.pointer (some ⟨gb, 0 + 0 * 1, none⟩)]) (h2 : Rd w gb (0 + 0 * 1) [.slice q m capq])
    : Calls Try.prog 53 #[.int .i64 k, .pointer (some ⟨g3, 0 + 0 * 1, none⟩)] w fun e w' => e = .returned (.bool (inG al k)) ∧ Below w.heap.size w w' := by
  refine enter (Hs.start w) Try.func53 rfl Try.ntmps53 rfl (sq_ (qa0 [] [0, 1] [] (ds_ (sq_ (ao_ (qo 4 [(0, .go (outs g3 (0 + 0 * 1) [.pointer (some ⟨gb, 0 + 0 * 1, none⟩)])), (2, .go (outs gb (0 + 0 * 1) [.slice q m capq]))] [] [(6, .agg #[.slice q m capq]), (7, .int .i64 k)] (cellsP w g3 (0 + 0 * 1) [.pointer (some ⟨gb, 0 + 0 * 1, none⟩)] ++ (cellsP w gb (0 + 0 * 1) [.slice q m capq])) (alA (rd_pre h3 _ rfl) (rd_pre h2 _ rfl)) (cD (.int .i64 (idxF (hasG k) al)) Try.call45 (fun w hw => place_t q m capq al k w (hal.kept hw.below) hma (by omega) (fun x hx => (hnm x hx).kept hw.below) hm9) ?_)))))))
  by_cases q4 : ((idxF (hasG k) al) : Int) ≥ (0 : Int)
  ·
    refine qo 2 [(5, .yes)] [] [(3, .bool true)] ([((idxF (hasG k) al) : Int) ≥ (0 : Int)]) (al1 q4) (on_ (ds_ (rt ([]) (.bool true) ?_)))
    exact fun w' hw => ⟨by rw [show inG al k = true from decide_eq_true (by omega)], hw.below⟩
  ·
    refine qo 2 [(5, .no)] [] [(3, .bool false)] ([¬ (((idxF (hasG k) al) : Int) ≥ (0 : Int))]) (al1 q4) (on_ (ds_ (rt ([]) (.bool false) ?_)))
    exact fun w' hw => ⟨by rw [show inG al k = false from decide_eq_false (by omega)], hw.below⟩
end Go.Proofs.Ytahccegfahghfaa

/-! Gangs with members of their own; plain. -/
namespace Go.Proofs.Ytahccegfahghfaa
open Go Go.RowKit
/-- Gangs whose members lie in blocks of one's own. -/
def GotG (T : TypeId) (Yi : List Ob) (bl : List GngA) : Prop := GotR T Yi (bl.map GngA.row)
section
variable {T : TypeId} {w w0 : World} {Y Yi Y2 YX A L : List Ob} {b : Ob} {al bl : List GngA} {x y : GngA} {j : Nat}
theorem GotG.nil : GotG T [] [] := GotR.nil
theorem GotG.reads (h : GotG T Yi bl) (hw : Hs w0 L w) (hs : List.Sublist Yi L) : ∀ x ∈ bl, x.Reads w := fun _ hx => GotR.reads h hw hs _ (List.mem_map_of_mem hx)
theorem wt_get (h : bl.drop j = al.drop j) (hx : bl[j]? = some x) : al[j]? = some x := by
  have h1 : (bl.drop j)[0]? = some x := by rw [List.getElem?_drop]; exact hx
  rw [h, List.getElem?_drop] at h1
  exact h1
theorem wt_own (h : GotR T Yi ((bl.take j).map GngA.row)) (hx : bl[j]? = some x) (hy : SlO T Y y.p y.n y.cap y.l) : GotR T (Yi ++ Y) (((bl.set j y).take (j + 1)).map GngA.row) := by
  have hl := (List.getElem?_eq_some_iff.1 hx).1
  have e : (bl.set j y)[j]? = some y := List.getElem?_set_self hl
  rw [take_one e, List.take_set_of_le (Nat.le_refl j), List.map_append]
  exact GotR.snoc (x := y.row) h hy
theorem wt_drop (h : bl.drop j = al.drop j) : (bl.set j y).drop (j + 1) = al.drop (j + 1) := by
  have e : ∀ l : List GngA, l.drop (j + 1) = (l.drop j).drop 1 := fun l => by rw [List.drop_drop]
  rw [List.drop_set_of_lt (show j < j + 1 from Nat.lt_succ_self j), e bl, e al, h]
theorem wt_val (hx : bl[j]? = some x) (h : bl.map GngA.val = al.map GngA.val) (e : y.val = x.val) : (bl.set j y).map GngA.val = al.map GngA.val := by
  rw [List.map_set, e, ← h]
  apply List.ext_getElem?
  intro i
  by_cases hi : j = i
  · subst hi
    rw [List.getElem?_set_self (by rw [List.length_map]; exact (List.getElem?_eq_some_iff.1 hx).1), List.getElem?_map, hx]; rfl
  · rw [List.getElem?_set_ne hi]
theorem wt_in (h : Hs w0 (b :: (A ++ (Y ++ (Yi ++ (YX ++ []))))) w) : Hs w0 (b :: (Y ++ (Yi ++ (YX ++ A)))) w := by
  refine h.perm (.cons _ ?_)
  rw [List.append_nil, show Y ++ (Yi ++ (YX ++ A)) = (Y ++ (Yi ++ YX)) ++ A from by simp only [List.append_assoc]]
  exact List.perm_append_comm
theorem wt_out (h : Hs w0 (b :: (Y ++ (Yi ++ (YX ++ A)))) w) : Hs w0 (b :: (A ++ (Y ++ (Yi ++ (YX ++ []))))) w := by
  refine h.perm (.cons _ ?_)
  rw [List.append_nil, show Y ++ (Yi ++ (YX ++ A)) = (Y ++ (Yi ++ YX)) ++ A from by simp only [List.append_assoc]]
  exact List.perm_append_comm
theorem wt_tail (h : Hs w0 (Y ++ (Yi ++ (YX ++ []))) w) : Hs w0 (Y ++ (Yi ++ YX)) w := by rwa [List.append_nil] at h
end
end Go.Proofs.Ytahccegfahghfaa

/-! Gangs: slices.Clone, Insert. -/
namespace Go.Proofs.Ytahccegfahghfaa
open Go Go.RowKit

set_option maxRecDepth 100000 in
theorem gclone_t (p : Option Addr) (n cap : Nat) (l : List GngA) (w : World)
    (hsl : Sv w p l) (hn : n = l.length) (hb : n ≤ 1000)
    : Calls Try.prog 67 #[.slice p n cap] w fun e w' => ∃ q capq Y, e = .returned (.slice q n capq) ∧ SlO 46 Y q n capq l ∧ Below w.heap.size w w' ∧ Hs w Y w' := by
  refine enter (Hs.start w) Try.func67 rfl Try.ntmps67 rfl (sq_ (qa0 [] [0] [] (ds_ (sq_ (sq_ ?_)))))
  rcases p with _ | a3
  ·
    refine qa0 [] [0] [(4, .bool true)] (ds_ (t_ (sq_ (qa0 [] [] [(2, .slice none 0 0)] (ds_ (rt ([]) (.slice none 0 0) ?_))))))
    exact fun w' hw => ⟨none, 0, [], by rw [hn, hsl.none]; rfl, by rw [hn, hsl.none]; exact SlO.nil, hw.below, hw.sub (List.nil_sublist _)⟩
  ·
    refine qa0 [] [0] [(4, .bool false)] (ds_ (f_ (at_skip (ds_ (sq_ (ao_ (mo0 2 [] [] (fun γ7 => [(5, .slice (some ⟨γ7 0, 0, none⟩) 0 0), (6, .slice (some a3) n cap)]) (fun γ7 L => bx (γ7 0) (#[]) 46 :: L) (fun γ7 => ops_append (α := GngA) [] ([bx (γ7 0) (#[]) 46]) ([]) (mvE rfl) rfl (by kernel_rfl) (by kernel_rfl) (p := (some ⟨γ7 0, 0, none⟩)) (n := 0) (cap := 0) (m := n) (yv := .slice (some a3) n cap) (by kernel_rfl) (by kernel_rfl) (T := 46) (by_ := 32) (by kernel_rfl) ([]) l (SlO.lit (by rfl) (by rfl) (by simp [maxLen])) (fun w hw => src_svn Try.underlying36 (hsl.kept hw.below) hn) hn (by have hmx : maxLen = 9223372036854775807 := rfl; omega) (by have hmx : maxLen = 9223372036854775807 := rfl; omega) (fun Y8 p8 cap8 hO8 => qo0 1 [] [] [(2, .slice p8 (0 + n) cap8)] (on_ (ds_ (rt ([]) (.slice p8 (0 + n) cap8) ?_))))))))))))
    exact fun w' hw => ⟨_, _, _, by rw [Nat.zero_add], by simpa using hO8, hw.below, ((hw.tailN 0).sub (List.sublist_append_left Y8 ([])))⟩
set_option maxRecDepth 100000 in
theorem overlaps_findG : Extern.find Try.f69 = some (Extern.SlicesOverlaps.overlaps Try.f69.params Try.f69.resultTypes) := by kernel_rfl
set_option maxRecDepth 100000 in
theorem overlaps_nextG : Extern.findNext Try.f69 = none := by kernel_rfl
theorem overlaps_noG {w : World} {g1 o1 g2 o2 m n c1 c2 : Nat} {cs1 cs2 : Array Value} {T1 T2 : TypeId} (h1 : w.heap[g1]? = some (.cells cs1 T1 (0, 0))) (h2 : w.heap[g2]? = some (.cells cs2 T2 (0, 0))) (hne : g1 ≠ g2) :
    (callFunc 69 #[.slice (some ⟨g1, o1, none⟩) m c1, .slice (some ⟨g2, o2, none⟩) n c2]).run Try.prog w = .ok (.value (.bool false)) w := by
  have hf := Try.func69
  have hn : (Try.f69.name == "runtime.NumGoroutine") = false := by kernel_rfl
  have hb : Try.f69.body.isNone = true := by kernel_rfl
  have hp : Try.f69.params[0]? = some 36 := by kernel_rfl
  have hu := Try.underlying36
  obtain ⟨ht', inf, z', hi, hz', _, hks, hby⟩ := elemB_spec (show elemB Try.prog 36 46 2 32 = true by kernel_rfl)
  have hs : inf.size = 2 := by omega
  have s1 : w.shape? g1 = some (T1, cs1.size) := by simp [World.shape?, h1]
  have s2 : w.shape? g2 = some (T2, cs2.size) := by simp [World.shape?, h2]
  have f1 : ∀ j, w.frozen? ⟨g1, j, none⟩ = false := fun j => froz_own h1 j
  have f2 : ∀ j, w.frozen? ⟨g2, j, none⟩ = false := fun j => froz_own h2 j
  have run1 : ∀ args, (callFunc 69 args).run Try.prog w = ((Extern.SlicesOverlaps.overlaps Try.f69.params Try.f69.resultTypes args).run Try.prog w).andThen fun v w' => .ok (.value v) w' := fun args => by
    simp only [callFunc, Sem.run_bind, run_program, Result.andThen_ok, hf, hn, hb, overlaps_nextG, overlaps_findG]
    simp [mark, Sem.run, Sem.run_bind]
  rw [run1]
  have hne' : (g1 == g2) = false := by simpa using hne
  have hs' : (do let i ← typeInfo 46; pure i.size : Sem Nat).run Try.prog w = .ok 2 w := by simp [typeInfo, hi, hs]
  delta Extern.SlicesOverlaps.overlaps
  conv => lhs; arg 1; arg 2; whnf
  have hu' : Try.prog.underlying (Try.f69.params[0]'(by decide)) = some (.slice 46) := by kernel_rfl
  have sb : ∀ (α β : Type) (x : Sem α) (f : α → Sem β) (P : Program) (w : World), (x.bind f).run P w = (x.run P w).andThen fun a w' => (f a).run P w' := fun α β x f P w => Sem.run_bind' P x f w
  by_cases hm : m = 0 ∨ n = 0 ∨ inf.size = 0
  · simp [Sem.run, sb, hu', sizeOf, typeInfo, hi, hm]
  · simp [Sem.run, sb, hu', sizeOf, typeInfo, hi, hm, bne, hne', hne, noView, viewAt, mayBeOne, stringish, shape, frozen, s1, s2, f1, f2]

set_option maxRecDepth 100000 in
theorem ginsert_t (w0 : World) (X Y : List Ob) (p : Option Addr) (n cap : Nat) (l : List GngA) (i gv : Nat) (cv : Array Value) (m : Nat) (vl : List GngA) (w : World)
    (hH : Hs w0 (bx gv cv 46 :: (Y ++ X)) w) (hO : SlO 46 Y p n cap l) (hcv : cv.toList = vl.flatMap Enc.enc) (hm : m = vl.length) (hm0 : 0 < m) (hi : i ≤ n) (hb : n ≤ 1000) (hmb : m ≤ 1000)
    : Calls Try.prog 54 #[.slice p n cap, .int .i64 (i : Nat), .slice (some ⟨gv, 0, none⟩) m m] w fun e w' => ∃ q capq Y', e = .returned (.slice q (n + m) capq) ∧ SlO 46 Y' q (n + m) capq (l.take i ++ vl ++ l.drop i) ∧ Hs w0 (Y' ++ X) w' := by
  have hn := hO.len
  refine enter hH Try.func54 rfl Try.ntmps54 rfl (sq_ (qa0 [] [0, 1, 2] [] (ds_ (sq_ (qa [(2, .sl (.slice (if cap = i then p else p.map (·.add (i * 2))) (n - i) (cap - i)))] [0, 1, 2] [] ([SlRun Try.prog 36 (.slice p n cap) (some (.int .i64 (i : Nat))) none none (.slice (if cap = i then p else p.map (·.add (i * 2))) (n - i) (cap - i))]) (al1 (slE_cut (P := Try.prog) (T := 36) (e := 46) (k := 2) (by_ := 32) (by kernel_rfl) hi)) (ds_ (sq_ (qa0 [] [0, 1, 2] [(7, .int .i64 (m : Nat))] (ds_ (sq_ (sq_ (qa [(1, .no)] [0, 1, 2, 7] [(16, .bool false)] ([¬ (((m : Nat) : Int) = (0 : Int))]) (al1 (by omega)) (ds_ (f_ (at_skip (ds_ (sq_ (qa0 [] [0, 1, 2, 7] [(8, .int .i64 (n : Nat))] (ds_ (sq_ (sq_ ?_)))))))))))))))))))))
  by_cases q7 : ((i : Nat) : Int) = ((n : Nat) : Int)
  ·
    refine qa [(2, .yes)] [0, 1, 2, 7, 8] [(22, .bool true)] ([((i : Nat) : Int) = ((n : Nat) : Int)]) (al1 q7) (ds_ (t_ (sq_ (ao_ (qo0 2 [] [] [(23, .slice p n cap), (24, .slice (some ⟨gv, 0, none⟩) m m)] (ops_append (α := GngA) [bx gv cv 46] Y X (.refl _) rfl (by kernel_rfl) (by kernel_rfl) (p := p) (n := n) (cap := cap) (m := m) (yv := .slice (some ⟨gv, 0, none⟩) m m) (by kernel_rfl) (by kernel_rfl) (T := 46) (by_ := 32) (by kernel_rfl) l vl hO (fun w hw => src_svn Try.underlying36 (sv_row (hw.row 0 rfl) hcv) hm) hm (by have hmx : maxLen = 9223372036854775807 := rfl; omega) (by have hmx : maxLen = 9223372036854775807 := rfl; omega) (fun Y10 p10 cap10 hO10 => qo0 1 [] [] [(6, .slice p10 (n + m) cap10)] (on_ (ds_ (rt ([]) (.slice p10 (n + m) cap10) ?_))))))))))
    exact fun w' hw => ⟨_, _, _, rfl, by rw [show i = l.length by omega, List.take_length, List.drop_length, List.append_nil]; exact hO10, hw.tailN 1⟩
  ·
    refine qa [(2, .no)] [0, 1, 2, 7, 8] [(22, .bool false)] ([¬ (((i : Nat) : Int) = ((n : Nat) : Int))]) (al1 q7) (ds_ (f_ (at_skip (ds_ (sq_ (sq_ ?_))))))
    obtain ⟨g, cs, rfl, rfl, hOw⟩ := hO.rowOf (i := i) (by omega)
    have hcap := hOw.le
    have hcs := hOw.csz
    have hmax := hOw.max
    by_cases q15 : ((n + m : Nat) : Int) > ((cap : Nat) : Int)
    ·
      refine qa [(2, .fit), (5, .yes)] [0, 1, 2, 7, 8] [(31, .bool true)] ([Fit .i64 ((n + m : Nat))] ++ ([((n + m : Nat) : Int) > ((cap : Nat) : Int)])) (alA (al1 (fit64 (by omega) (by omega))) (al1 q15)) (ds_ (t_ (sq_ (ao_ (qo 8 [(2, .sl (.slice (some ⟨g, 0, none⟩) i cap)), (5, .fit), (7, .is [] (.int .i64 (n + m - i : Nat)))] [0, 1, 2, 7] [(34, .slice (some ⟨g, 0, none⟩) i cap), (39, .int .i64 (n + m - i : Nat))] ([SlRun Try.prog 36 (.slice (some ⟨g, 0, none⟩) n cap) none (some (.int .i64 (i : Nat))) none (.slice (some ⟨g, 0, none⟩) i cap)] ++ ([Fit .i64 ((n + m : Nat))] ++ ([Value.int .i64 (IntKind.i64.wrap ((((n + m : Nat)) : Int) - ((i : Nat) : Int))) = .int .i64 (n + m - i : Nat)]))) (alA (al1 (slE_hi (P := Try.prog) (T := 36) (e := 46) (k := 2) (by_ := 32) (by kernel_rfl) (h := i) (by omega))) (alA (al1 (fit64 (by omega) (by omega))) (al1 (by rw [wrap_fit (fit64 (by omega) (by omega))]; congr 1; omega)))) (ops_appendZ rfl (by kernel_rfl) (by kernel_rfl) (p := some ⟨g, 0, none⟩) (m := i) (cap := cap) (n := n + m - i) ((cs.toList.drop 0).take (i * 2)) (by kernel_rfl) (by kernel_rfl) (T := 46) (ks := 2) (by_ := 32) (by kernel_rfl) Try.underlying3 (by decide) (olds_len hcs (by omega)) (fun w hw => first_row (hw.row 1 rfl) (by rw [hcs, Nat.zero_add]; exact Nat.mul_le_mul_right _ (by omega))) (by omega) (by omega) (by simp only [maxLen]; omega) (by omega) (fun g2 c2 cap2 hc2 hle2 hmax2 hpre2 => qo0 1 [] [0, 1, 2, 7] [(9, .slice (some ⟨g2, 0, none⟩) (i + (n + m - i)) cap2)] (on_ (ds_ (sq_ (ao_ (qo 4 [(2, .sl (.slice (some ⟨g2, 0 + i * 2, none⟩) (i + (n + m - i) - i) (cap2 - i)))] [0, 1, 7, 9] [(43, .slice (some ⟨g2, 0 + i * 2, none⟩) (i + (n + m - i) - i) (cap2 - i)), (44, .slice (some ⟨gv, 0, none⟩) m m)] ([SlRun Try.prog 36 (.slice (some ⟨g2, 0, none⟩) (i + (n + m - i)) cap2) (some (.int .i64 (i : Nat))) none none (.slice (some ⟨g2, 0 + i * 2, none⟩) (i + (n + m - i) - i) (cap2 - i))]) (al1 (slE_lo (P := Try.prog) (T := 36) (e := 46) (k := 2) (by_ := 32) (by kernel_rfl) (lo := i) (by omega) (by omega))) (ops_copy 0 rfl (by kernel_rfl) (by kernel_rfl) (g := g2) (of := (0 + i * 2)) (dn := (i + (n + m - i) - i)) (dc := (cap2 - i)) (m := m) (cnt := m) (c := c2) (yv := (.slice (some ⟨gv, 0, none⟩) m m)) (vl.flatMap Enc.enc) (by kernel_rfl) (by kernel_rfl) (T := 46) (ks := 2) (by_ := 32) (by kernel_rfl) (T' := 46) (by kernel_rfl) len_slice (by omega) (fun w hw => by have := first_sv (P := Try.prog) (w := w) (p := some ⟨gv, 0, none⟩) (m := m) (cap := m) (cnt := m) (sv_row (hw.row 1 rfl) hcv) (by omega); rw [List.take_of_length_le (by omega)] at this; exact this) (by rw [flat_len, ← hm]; exact mul_room (c := cap2) (by omega) hc2) (flat_one vl) ?_)))))))))))))
      refine on_ (ds_ (sq_ (at_calmTo (f := 1) 8 rfl (by kernel_rfl) (by kernel_rfl) (by kernel_rfl) (by kernel_rfl) (by kernel_rfl) (by kernel_rfl) ?_)))
      refine cm 8 [(3, .fit), (4, .sl (.slice (some ⟨g2, 0 + (i + m) * 2, none⟩) (i + (n + m - i) - (i + m)) (cap2 - (i + m)))), (7, .sl (.slice (some ⟨g, 0 + i * 2, none⟩) (n - i) (cap - i)))] [9] [(50, .slice (some ⟨g2, 0 + (i + m) * 2, none⟩) (i + (n + m - i) - (i + m)) (cap2 - (i + m))), (53, .slice (some ⟨g, 0 + i * 2, none⟩) (n - i) (cap - i))] ([Fit .i64 ((i + m : Nat))] ++ ([SlRun Try.prog 36 (.slice (some ⟨g2, 0, none⟩) (i + (n + m - i)) cap2) (some (.int .i64 (i + m : Nat))) none none (.slice (some ⟨g2, 0 + (i + m) * 2, none⟩) (i + (n + m - i) - (i + m)) (cap2 - (i + m)))] ++ ([SlRun Try.prog 36 (.slice (some ⟨g, 0, none⟩) n cap) (some (.int .i64 (i : Nat))) none none (.slice (some ⟨g, 0 + i * 2, none⟩) (n - i) (cap - i))]))) (by kernel_rfl) rfl (alA (al1 (fit64 (by omega) (by omega))) (alA (al1 (slE_lo (P := Try.prog) (T := 36) (e := 46) (k := 2) (by_ := 32) (by kernel_rfl) (lo := i + m) (by omega) (by omega))) (al1 (slE_lo (P := Try.prog) (T := 36) (e := 46) (k := 2) (by_ := 32) (by kernel_rfl) (lo := i) (by omega) (by omega))))) ?_
      refine calm_nil' ?_
      refine done_pre (li' := #[true, true, true, true, true, true, true, true, false]) (by kernel_rfl) ?_
      refine a1 8 rfl ?_
      refine ops_copy 0 rfl (by kernel_rfl) (by kernel_rfl) (g := g2) (of := (0 + (i + m) * 2)) (dn := (i + (n + m - i) - (i + m))) (dc := (cap2 - (i + m))) (m := (n - i)) (cnt := (n - i)) (c := (sets c2 (0 + i * 2) (vl.flatMap Enc.enc))) (yv := (.slice (some ⟨g, 0 + i * 2, none⟩) (n - i) (cap - i))) ((cs.toList.drop (0 + i * 2)).take ((n - i) * 2)) (by kernel_rfl) (by kernel_rfl) (T := 46) (ks := 2) (by_ := 32) (by kernel_rfl) (T' := 46) (by kernel_rfl) len_slice (by omega) (fun w hw => first_row (hw.row 2 rfl) (row_room hOw (by omega))) (by rw [sets_size]; exact copy_room (c := cap2) hOw (by omega) (by omega) hc2) (row_one hOw (by omega)) ?_
      refine od_ ?_
      refine any_nil (by kernel_rfl) ?_
      refine ds_ (sq_ (qa0 [] [] [(6, .slice (some ⟨g2, 0, none⟩) (i + (n + m - i)) cap2)] (ds_ (rt ([]) (.slice (some ⟨g2, 0, none⟩) (i + (n + m - i)) cap2) ?_))))
      exact fun w' hw => ⟨some ⟨g2, 0, none⟩, cap2, [_], by rw [show i + (n + m - i) = n + m by omega], .inr ⟨_, _, rfl, rfl, by simp; omega, ins_grow hOw (by omega) hm (by omega) hc2 (by omega) hmax2 hpre2⟩, hw.sub (.cons_cons _ (.cons _ (.cons _ (.refl _))))⟩
    ·
      refine qa [(2, .fit), (5, .no)] [0, 1, 2, 7, 8] [(31, .bool false)] ([Fit .i64 ((n + m : Nat))] ++ ([¬ (((n + m : Nat) : Int) > ((cap : Nat) : Int))])) (alA (al1 (fit64 (by omega) (by omega))) (al1 q15)) (ds_ (f_ (at_skip (ds_ (sq_ (qa [(3, .fit), (4, .sl (.slice (some ⟨g, 0, none⟩) (n + m) cap))] [1, 2, 7, 8] [(0, .slice (some ⟨g, 0, none⟩) (n + m) cap)] ([Fit .i64 ((n + m : Nat))] ++ ([SlRun Try.prog 36 (.slice (some ⟨g, 0, none⟩) n cap) none (some (.int .i64 (n + m : Nat))) none (.slice (some ⟨g, 0, none⟩) (n + m) cap)])) (alA (al1 (fit64 (by omega) (by omega))) (al1 (slE_hi (P := Try.prog) (T := 36) (e := 46) (k := 2) (by_ := 32) (by kernel_rfl) (h := n + m) (by omega)))) (ds_ (sq_ (sq_ (ao_ (qo 6 [(4, .fit), (5, .sl (.slice (some ⟨g, 0 + (i + m) * 2, none⟩) (n + m - (i + m)) (cap - (i + m))))] [0, 1, 2, 7, 8] [(61, .slice (some ⟨gv, 0, none⟩) m m), (66, .slice (some ⟨g, 0 + (i + m) * 2, none⟩) (n + m - (i + m)) (cap - (i + m)))] ([Fit .i64 ((i + m : Nat))] ++ ([SlRun Try.prog 36 (.slice (some ⟨g, 0, none⟩) (n + m) cap) (some (.int .i64 (i + m : Nat))) none none (.slice (some ⟨g, 0 + (i + m) * 2, none⟩) (n + m - (i + m)) (cap - (i + m)))])) (alA (al1 (fit64 (by omega) (by omega))) (al1 (slE_lo (P := Try.prog) (T := 36) (e := 46) (k := 2) (by_ := 32) (by kernel_rfl) (lo := i + m) (by omega) (by omega)))) (ops_ext (f := 69) (args := #[.slice (some ⟨gv, 0, none⟩) m m, .slice (some ⟨g, 0 + (i + m) * 2, none⟩) (n + m - (i + m)) (cap - (i + m))]) (.bool false) (by kernel_rfl) (by kernel_rfl) (by kernel_rfl) (fun w hw => overlaps_noG (hw.row 0 rfl) (hw.row 1 rfl) (apart_two hw (a := 0) (b := 1) rfl rfl (by decide))) (qo0 1 [] [0, 1, 2, 7, 8] [(68, .bool true)] (on_ (ds_ (t_ (sq_ (at_calmTo (f := 1) 8 rfl (by kernel_rfl) (by kernel_rfl) (by kernel_rfl) (by kernel_rfl) (by kernel_rfl) (by kernel_rfl) ?_))))))))))))))))))
      refine cm 8 [(3, .fit), (4, .sl (.slice (some ⟨g, 0 + (i + m) * 2, none⟩) (n + m - (i + m)) (cap - (i + m)))), (7, .sl (.slice (some ⟨g, 0 + i * 2, none⟩) (n + m - i) (cap - i)))] [0, 1, 2] [(73, .slice (some ⟨g, 0 + (i + m) * 2, none⟩) (n + m - (i + m)) (cap - (i + m))), (76, .slice (some ⟨g, 0 + i * 2, none⟩) (n + m - i) (cap - i))] ([Fit .i64 ((i + m : Nat))] ++ ([SlRun Try.prog 36 (.slice (some ⟨g, 0, none⟩) (n + m) cap) (some (.int .i64 (i + m : Nat))) none none (.slice (some ⟨g, 0 + (i + m) * 2, none⟩) (n + m - (i + m)) (cap - (i + m)))] ++ ([SlRun Try.prog 36 (.slice (some ⟨g, 0, none⟩) (n + m) cap) (some (.int .i64 (i : Nat))) none none (.slice (some ⟨g, 0 + i * 2, none⟩) (n + m - i) (cap - i))]))) (by kernel_rfl) rfl (alA (al1 (fit64 (by omega) (by omega))) (alA (al1 (slE_lo (P := Try.prog) (T := 36) (e := 46) (k := 2) (by_ := 32) (by kernel_rfl) (lo := i + m) (by omega) (by omega))) (al1 (slE_lo (P := Try.prog) (T := 36) (e := 46) (k := 2) (by_ := 32) (by kernel_rfl) (lo := i) (by omega) (by omega))))) ?_
      refine calm_nil' ?_
      refine done_pre (li' := #[true, true, true, true, true, true, true, true, false]) (by kernel_rfl) ?_
      refine a1 8 rfl ?_
      refine ops_copy 1 rfl (by kernel_rfl) (by kernel_rfl) (g := g) (of := (0 + (i + m) * 2)) (dn := (n + m - (i + m))) (dc := (cap - (i + m))) (m := (n + m - i)) (cnt := (n - i)) (c := cs) (yv := (.slice (some ⟨g, 0 + i * 2, none⟩) (n + m - i) (cap - i))) ((cs.toList.drop (0 + i * 2)).take ((n - i) * 2)) (by kernel_rfl) (by kernel_rfl) (T := 46) (ks := 2) (by_ := 32) (by kernel_rfl) (T' := 46) (by kernel_rfl) len_slice (by omega) (fun w hw => first_row (hw.row 1 rfl) (row_room hOw (by omega))) (copy_room (c := cap) hOw (by omega) (by omega) hcs) (row_one hOw (by omega)) ?_
      refine od_ ?_
      refine any_nil (by kernel_rfl) ?_
      refine ds_ (sq_ (ao_ (qo 4 [(2, .sl (.slice (some ⟨g, 0 + i * 2, none⟩) (n + m - i) (cap - i)))] [0] [(80, .slice (some ⟨g, 0 + i * 2, none⟩) (n + m - i) (cap - i)), (81, .slice (some ⟨gv, 0, none⟩) m m)] ([SlRun Try.prog 36 (.slice (some ⟨g, 0, none⟩) (n + m) cap) (some (.int .i64 (i : Nat))) none none (.slice (some ⟨g, 0 + i * 2, none⟩) (n + m - i) (cap - i))]) (al1 (slE_lo (P := Try.prog) (T := 36) (e := 46) (k := 2) (by_ := 32) (by kernel_rfl) (lo := i) (by omega) (by omega))) (ops_copy 1 rfl (by kernel_rfl) (by kernel_rfl) (g := g) (of := (0 + i * 2)) (dn := (n + m - i)) (dc := (cap - i)) (m := m) (cnt := m) (c := (sets cs (0 + (i + m) * 2) ((cs.toList.drop (0 + i * 2)).take ((n - i) * 2)))) (yv := (.slice (some ⟨gv, 0, none⟩) m m)) (vl.flatMap Enc.enc) (by kernel_rfl) (by kernel_rfl) (T := 46) (ks := 2) (by_ := 32) (by kernel_rfl) (T' := 46) (by kernel_rfl) len_slice (by omega) (fun w hw => by have := first_sv (P := Try.prog) (w := w) (p := some ⟨gv, 0, none⟩) (m := m) (cap := m) (cnt := m) (sv_row (hw.row 0 rfl) hcv) (by omega); rw [List.take_of_length_le (by omega)] at this; exact this) (by rw [flat_len, ← hm, sets_size]; exact mul_room (c := cap) (by omega) hcs) (flat_one vl) (on_ (ds_ (sq_ (qa0 [] [] [(6, .slice (some ⟨g, 0, none⟩) (n + m) cap)] (ds_ (rt ([]) (.slice (some ⟨g, 0, none⟩) (n + m) cap) ?_))))))))))
      exact fun w' hw => ⟨_, _, [_], rfl, .inr ⟨_, _, rfl, rfl, by simp; omega, ins_room hOw (by omega) hm (by omega) (by omega)⟩, hw.sub (.cons _ (.refl _))⟩
end Go.Proofs.Ytahccegfahghfaa

/-! Gangs: what changes a copy. -/
namespace Go.Proofs.Ytahccegfahghfaa
open Go Go.RowKit

set_option maxRecDepth 100000 in
theorem with_t (w0 : World) (YX : List Ob) (pg : FuncId) (pcb : Array Value) (P : Int → Gs → List Ob → Prop) (q : Option Addr) (m capq : Nat) (al : List GngA) (w : World)
 (he : ∀ args w, (callFunc pg args).run Try.prog w = .ok (.enter pg args) w) (hH : Hs w0 YX w) (hal : Sv w0 q al) (hma : m = al.length) (hbm : m ≤ 1000) (hnm : ∀ x ∈ al, x.Reads w0) (hm9 : ∀ x ∈ al, x.n ≤ 1000)
 (hc : gangB (al.map GngA.val) = true → ∀ (gb : Nat) (q' : Option Addr) (c' : Nat) (Y Yi R : List Ob) (bl : List GngA) (w' : World), SlO 46 Y q' m c' bl → GotG 3 Yi bl → bl.map GngA.val = (al.map GngA.val) → Hs w0 (bx gb #[.slice q' m c'] 38 :: (Y ++ (Yi ++ (YX ++ R)))) w' →
  Calls Try.prog pg (#[.pointer (some ⟨gb, 0, none⟩)] ++ pcb) w' fun e w'' => ∃ er q2 n2 c2 Y2 Yi2 bl2 YX2, e = .returned (.int .i64 er) ∧ P er (bl2.map GngA.val) YX2 ∧ SlO 46 Y2 q2 n2 c2 bl2 ∧ GotG 3 Yi2 bl2 ∧ Hs w0 (bx gb #[.slice q2 n2 c2] 38 :: (Y2 ++ (Yi2 ++ (YX2 ++ R)))) w'')
 : Calls Try.prog 50 #[.agg #[.slice q m capq], .func (.func pg) #[] pcb] w fun e w' => ∃ er q2 n2 c2 Y2 Yi2 bl2 YX2, e = .returned (.tuple #[.agg #[.slice q2 n2 c2], .int .i64 er]) ∧ SlO 46 Y2 q2 n2 c2 bl2 ∧ GotG 3 Yi2 bl2 ∧ Hs w0 (Y2 ++ (Yi2 ++ YX2)) w' ∧
  ((gangB (al.map GngA.val) = false ∧ er = 240 ∧ bl2 = [] ∧ YX2 = YX) ∨ (gangB (al.map GngA.val) = true ∧ er ≠ 0 ∧ bl2 = [] ∧ ∃ gs, P er gs YX2) ∨ (gangB (al.map GngA.val) = true ∧ er = 0 ∧ P 0 (bl2.map GngA.val) YX2)) := by
 rw [show YX = YX ++ [] from (List.append_nil _).symm] at hH
 refine enter hH Try.func50 rfl Try.ntmps50 rfl (sq_ (ma0 [] [1] (fun γ1 => [(2, .pointer (some ⟨γ1 0, 0, none⟩)), (4, .pointer (some ⟨γ1 1, 0, none⟩))]) (fun γ1 L => bx (γ1 1) (#[.slice none 0 0]) 38 :: bx (γ1 0) (#[.slice q m capq]) 38 :: L) (fun γ1 => ds_ (sq_ (sq_ (ao_ (qo0 1 [(0, .go (owns 1 0 1))] [1, 2, 4] [(10, .agg #[.slice q m capq])] ?_)))))))
 rcases q3 : gangB (al.map GngA.val) with _ | _
 ·
  refine cD (.int .i64 240) Try.call18 (fun w hw => by have := gcheck_t q m capq al w (hal.kept hw.below) hma (by omega) (fun x hx => (hnm x hx).kept hw.below) hm9; rw [q3] at this; exact this) (qo0 1 [] [1, 2, 4] [(6, .int .i64 240)] (on_ (ds_ (sq_ (qa0 [] [1, 2, 4, 6] [(13, .bool true)] (ds_ (t_ (sq_ (qa0 [(2, .go (owns 0 0 1))] [4] [(5, .int .i64 240)] (ds_ (rt (owns 0 0 1) (.tuple #[.agg #[.slice none 0 0], .int .i64 240]) ?_)))))))))))
  exact fun w' hw => ⟨_, none, 0, 0, [], [], [], YX, rfl, SlO.nil, GotG.nil, one_tail14 (Hs.pick [[bx (γ1 1) (#[.slice none 0 0]) 38], [bx (γ1 0) (#[.slice q m capq]) 38], YX] [2] [0, 1] (by kernel_rfl) hw), .inl ⟨(by first | assumption | rfl), rfl, rfl, rfl⟩⟩
 ·
  refine cD (.int .i64 0) Try.call18 (fun w hw => by have := gcheck_t q m capq al w (hal.kept hw.below) hma (by omega) (fun x hx => (hnm x hx).kept hw.below) hm9; rw [q3] at this; exact this) (qo0 1 [] [1, 2, 4] [(6, .int .i64 0)] (on_ (ds_ (sq_ (qa0 [] [1, 2, 4, 6] [(13, .bool false)] (ds_ (f_ (at_skip (ds_ (sq_ (ao_ (qo0 2 [(1, .go (owns 1 0 1))] [1, 4] [(17, .slice q m capq)] (cP (fun v L' => ∃ q_ c_ Y_, v = .slice q_ m c_ ∧ L' = List.take 2 (bx (γ1 1) (#[.slice none 0 0]) 38 :: bx (γ1 0) (#[.slice q m capq]) 38 :: (YX ++ [])) ++ (Y_ ++ List.drop 2 (bx (γ1 1) (#[.slice none 0 0]) 38 :: bx (γ1 0) (#[.slice q m capq]) 38 :: (YX ++ []))) ∧ SlO 46 Y_ q_ m c_ al) Try.call67 (fun w hw => (gclone_t q m capq al w (hal.kept hw.below) hma (by omega)).mono fun e w' ⟨q_, c_, Y_, he, hO, hb, hY⟩ => ⟨_, _, he, ⟨q_, c_, Y_, rfl, rfl, hO⟩, hw.join hb hY 2⟩) ?_)))))))))))))
  rintro v10 L10 ⟨q10, cq10, Y10, rfl, rfl, hO10⟩
  refine mo0 3 [(5, .go (owns 0 0 1))] [1, 4] (fun γ11 => [(7, .pointer (some ⟨γ11 0, 0, none⟩))]) (fun γ11 L => bx (γ11 0) (#[.slice q10 m cq10]) 38 :: L) (fun γ11 => on_ (ds_ (sq_ (sq_ (qa0 [(1, .go (owns 0 0 1))] [1, 4, 7] [(22, .int .i64 (m : Nat)), (23, .int .i64 0)] (ds_ (at_block (At.pick [[bx (γ11 0) (#[.slice q10 m cq10]) 38], [bx (γ1 1) (#[.slice none 0 0]) 38], [bx (γ1 0) (#[.slice q m capq]) 38], Y10, YX] [0, 1, 2, 3, 4] [] (bx (γ11 0) (#[.slice q10 m cq10]) 38 :: bx (γ1 1) (#[.slice none 0 0]) 38 :: bx (γ1 0) (#[.slice q m capq]) 38 :: (Y10 ++ (YX ++ []))) (by kernel_rfl) rfl rfl (at_loop (α := Nat × List GngA × List Ob × Option Addr × Nat × List Ob) [1, 4, 7, 22, 23] (fun ⟨j, bl, Yg, pq, cq, Yi⟩ => [(1, .func (.func pg) #[] pcb), (4, .pointer (some ⟨γ1 1, 0, none⟩)), (7, .pointer (some ⟨γ11 0, 0, none⟩)), (22, .int .i64 (m : Nat)), (23, .int .i64 (j : Nat))]) (fun ⟨j, bl, Yg, pq, cq, Yi⟩ => bx (γ11 0) (#[.slice pq m cq]) 38 :: bx (γ1 1) (#[.slice none 0 0]) 38 :: bx (γ1 0) (#[.slice q m capq]) 38 :: (Yg ++ (Yi ++ (YX ++ [])))) (fun ⟨j, bl, Yg, pq, cq, Yi⟩ => j ≤ m ∧ SlO 46 Yg pq m cq bl ∧ GotR 3 Yi ((bl.take j).map GngA.row) ∧ bl.drop j = al.drop j ∧ bl.map GngA.val = (al.map GngA.val)) (fun ⟨j, bl, Yg, pq, cq, Yi⟩ => m - j) (0, al, Y10, q10, cq10, []) (by kernel_rfl) rfl ⟨Nat.zero_le _, hO10, GotR.nil, rfl, rfl⟩ ?_)))))))))
  rintro ⟨j, bl, Yg, pq, cq, Yi⟩
  rintro ⟨hj, hO, hG, hD, hV⟩
  have hlb := hO.len
  refine sq_ ?_
  by_cases q14 : ((j : Nat) : Int) < ((m : Nat) : Int)
  ·
   refine qa [(0, .yes)] [1, 4, 7, 22, 23] [(24, .bool true)] ([((j : Nat) : Int) < ((m : Nat) : Int)]) (al1 q14) (ds_ (sq_ (t_ (at_skip (ds_ (sq_ (at_block (sq_ (qa0 [] [1, 4, 7, 22, 23] [(8, .int .i64 (j : Nat))] (ds_ ?_))))))))))
   have hln18 := hO.len
   obtain ⟨g18, cs18, rfl, rfl, hOw18⟩ := hO.rowOf (i := j) (by omega)
   obtain ⟨x20, hx20⟩ := get_some (l := bl) (m := j) (by omega)
   have halx20 := wt_get hD hx20
   have hsx20 : Sv w0 x20.p x20.l := (hnm x20 (List.mem_of_getElem? halx20)).sv
   have hnx20 : x20.n = x20.l.length := (hnm x20 (List.mem_of_getElem? halx20)).hn
   have hm9x20 := hm9 x20 (List.mem_of_getElem? halx20)
   refine at_any (by kernel_rfl) ?_
   refine tk (m := 9) [0, 2, 3, 5] [] [1, 4, 7, 22, 23] [(26, .pointer (some ⟨γ11 0, 0, none⟩)), (28, .int .i64 (j : Nat)), (29, .pointer (some ⟨γ11 0, 0, none⟩)), (31, .int .i64 (j : Nat))] ([]) #[true, false, true, true, false, true, false, false, false, false, false, false, false] al0 ?_
   refine any_cutX (V := (List Ob) × (Nat) × (Option Addr)) (fun ⟨Y204, cq204, q204⟩ => SlO 3 Y204 q204 x20.n cq204 x20.l) 0 #[true, true, true, true, true, true, true, true, true, true, true, true, true] (fun ⟨Y204, cq204, q204⟩ => [(1, .func (.func pg) #[] pcb), (4, .pointer (some ⟨γ1 1, 0, none⟩)), (7, .pointer (some ⟨γ11 0, 0, none⟩)), (22, .int .i64 (m : Nat)), (23, .int .i64 (j : Nat))]) (fun ⟨Y204, cq204, q204⟩ => bx (γ11 0) (#[.slice (some ⟨g18, 0, none⟩) m cq]) 38 :: bx (γ1 1) (#[.slice none 0 0]) 38 :: bx (γ1 0) (#[.slice q m capq]) 38 :: bx g18 ((cs18).setIfInBounds (0 + j * 2 + 1) (.slice q204 x20.n cq204)) 46 :: (Y204 ++ (Yi ++ (YX ++ [])))) ?_ (fun hmx8 => ?_)
   rotate_left
   ·
    refine any_cutX (V := (List Ob) × (Nat) × (Option Addr)) (fun ⟨Y204, cq204, q204⟩ => SlO 3 Y204 q204 x20.n cq204 x20.l) 1 #[true, true, true, true, true, true, true, true, true, true, true, true, false] (fun ⟨Y204, cq204, q204⟩ => [(1, .func (.func pg) #[] pcb), (4, .pointer (some ⟨γ1 1, 0, none⟩)), (7, .pointer (some ⟨γ11 0, 0, none⟩)), (22, .int .i64 (m : Nat)), (23, .int .i64 (j : Nat)), (35, .slice q204 x20.n cq204), (37, .pointer (some ⟨g18, 0 + j * 2 + 1, none⟩))]) (fun ⟨Y204, cq204, q204⟩ => bx (γ11 0) (#[.slice (some ⟨g18, 0, none⟩) m cq]) 38 :: bx (γ1 1) (#[.slice none 0 0]) 38 :: bx (γ1 0) (#[.slice q m capq]) 38 :: bx g18 cs18 46 :: (Y204 ++ (Yi ++ (YX ++ [])))) ?_ (fun hmx7 => ?_)
    ·
     rintro ⟨Y204, cq204, q204⟩ hO204
     refine a1 12 rfl ?_
     refine mo 1 [(12, .go (ownps 3 (0 + j * 2 + 1) [undef]))] [1, 4, 7, 22, 23] (fun _ => []) (fun _ L => (L.set 3 (bx g18 ((cs18).setIfInBounds (0 + j * 2 + 1) (.slice q204 x20.n cq204)) 46))) (fun _ => [0 + j * 2 + 1 < (cs18).size]) (fun _ => (al1 (hOw18.room hO.len hx20 (f := 1) (by decide)))) (fun _ => ?_)
     refine od_ ?_
     exact wk (hmx8 (Y204, cq204, q204) hO204) [1, 4, 7, 22, 23] [[_], [_], [_], [_], _, _, _] [0, 1, 2, 3, 4, 5, 6] rfl rfl
    refine any_cutX (V := (List Ob) × (Nat) × (Option Addr)) (fun ⟨Y204, cq204, q204⟩ => SlO 3 Y204 q204 x20.n cq204 x20.l) 4 #[true, false, true, true, true, true, true, true, true, true, false, false, false] (fun ⟨Y204, cq204, q204⟩ => [(1, .func (.func pg) #[] pcb), (4, .pointer (some ⟨γ1 1, 0, none⟩)), (7, .pointer (some ⟨γ11 0, 0, none⟩)), (22, .int .i64 (m : Nat)), (23, .int .i64 (j : Nat)), (26, .pointer (some ⟨γ11 0, 0, none⟩)), (28, .int .i64 (j : Nat)), (35, .slice q204 x20.n cq204)]) (fun ⟨Y204, cq204, q204⟩ => bx (γ11 0) (#[.slice (some ⟨g18, 0, none⟩) m cq]) 38 :: bx (γ1 1) (#[.slice none 0 0]) 38 :: bx (γ1 0) (#[.slice q m capq]) 38 :: bx g18 cs18 46 :: (Y204 ++ (Yi ++ (YX ++ [])))) ?_ (fun hmx6 => ?_)
    ·
     rintro ⟨Y204, cq204, q204⟩ hO204
     refine a1 1 rfl ?_
     refine qo0 1 [(1, .go (owns 0 0 1))] [1, 4, 7, 22, 23, 28, 35] [(27, .slice (some ⟨g18, 0, none⟩) m cq)] ?_
     refine od_ ?_
     refine tk (m := 1) [10, 11] [(10, .at g18 0 j)] [1, 4, 7, 22, 23, 35] [(37, .pointer (some ⟨g18, 0 + j * 2 + 1, none⟩))] ([(some ⟨g18, 0, none⟩ : Option Addr) = some ⟨g18, 0, none⟩, (j : Nat) = ((j : Nat) : Int), j < m]) #[true, true, true, true, true, true, true, true, true, true, true, true, false] (al2 rfl (al2 rfl (al1 (by omega)))) ?_
     exact wk (hmx7 (Y204, cq204, q204) hO204) [1, 4, 7, 22, 23, 35, 37] [[_], [_], [_], [_], _, _, _] [0, 1, 2, 3, 4, 5, 6] rfl rfl
    refine any_cutX (V := Unit) (fun _ => True) 4 #[true, true, true, true, true, true, true, true, true, false, false, false, false] (fun _ => [(1, .func (.func pg) #[] pcb), (4, .pointer (some ⟨γ1 1, 0, none⟩)), (7, .pointer (some ⟨γ11 0, 0, none⟩)), (22, .int .i64 (m : Nat)), (23, .int .i64 (j : Nat)), (27, .slice (some ⟨g18, 0, none⟩) m cq), (28, .int .i64 (j : Nat)), (34, .slice x20.p x20.n x20.cap)]) (fun _ => bx (γ11 0) (#[.slice (some ⟨g18, 0, none⟩) m cq]) 38 :: bx (γ1 1) (#[.slice none 0 0]) 38 :: bx (γ1 0) (#[.slice q m capq]) 38 :: bx g18 cs18 46 :: (Yi ++ (YX ++ []))) ?_ (fun hmx5 => ?_)
    ·
     rintro _ _
     refine a1 9 rfl ?_
     refine cP (fun v L' => ∃ q_ c_ Y_, v = .slice q_ x20.n c_ ∧ L' = List.take 4 (bx (γ11 0) (#[.slice (some ⟨g18, 0, none⟩) m cq]) 38 :: bx (γ1 1) (#[.slice none 0 0]) 38 :: bx (γ1 0) (#[.slice q m capq]) 38 :: bx g18 cs18 46 :: (Yi ++ (YX ++ []))) ++ (Y_ ++ List.drop 4 (bx (γ11 0) (#[.slice (some ⟨g18, 0, none⟩) m cq]) 38 :: bx (γ1 1) (#[.slice none 0 0]) 38 :: bx (γ1 0) (#[.slice q m capq]) 38 :: bx g18 cs18 46 :: (Yi ++ (YX ++ [])))) ∧ SlO 3 Y_ q_ x20.n c_ x20.l) Try.call44 (fun w hw => (cloneints_t x20.p x20.n x20.cap x20.l w (hsx20.kept hw.below) hnx20 (by omega)).mono fun e w' ⟨q_, c_, Y_, he, hO, hb, hY⟩ => ⟨_, _, he, ⟨q_, c_, Y_, rfl, rfl, hO⟩, hw.join hb hY 4⟩) ?_
     rintro v204 L204 ⟨q204, cq204, Y204, rfl, rfl, hO204⟩
     refine od_ ?_
     refine tk (m := 1) [10, 11] [(10, .at g18 0 j)] [1, 4, 7, 22, 23, 35] [(37, .pointer (some ⟨g18, 0 + j * 2 + 1, none⟩))] ([(some ⟨g18, 0, none⟩ : Option Addr) = some ⟨g18, 0, none⟩, (j : Nat) = ((j : Nat) : Int), j < m]) #[true, true, true, true, true, true, true, true, true, true, true, true, false] (al2 rfl (al2 rfl (al1 (by omega)))) ?_
     exact wk (hmx7 (Y204, cq204, q204) hO204) [1, 4, 7, 22, 23, 35, 37] [[_], [_], [_], [_], _, _, _] [0, 1, 2, 3, 4, 5, 6] rfl rfl
    refine any_cutX (V := Unit) (fun _ => True) 5 #[true, false, true, true, true, true, true, true, true, false, false, false, false] (fun _ => [(1, .func (.func pg) #[] pcb), (4, .pointer (some ⟨γ1 1, 0, none⟩)), (7, .pointer (some ⟨γ11 0, 0, none⟩)), (22, .int .i64 (m : Nat)), (23, .int .i64 (j : Nat)), (26, .pointer (some ⟨γ11 0, 0, none⟩)), (28, .int .i64 (j : Nat)), (34, .slice x20.p x20.n x20.cap)]) (fun _ => bx (γ11 0) (#[.slice (some ⟨g18, 0, none⟩) m cq]) 38 :: bx (γ1 1) (#[.slice none 0 0]) 38 :: bx (γ1 0) (#[.slice q m capq]) 38 :: bx g18 cs18 46 :: (Yi ++ (YX ++ []))) ?_ (fun hmx4 => ?_)
    ·
     rintro _ _
     refine any_fork [1, 9] (by kernel_rfl) (by simp) (each_cons _ rfl ?_ (each_cons _ rfl ?_ (each_nil)))
     ·
      refine qo0 1 [(1, .go (owns 0 0 1))] [1, 4, 7, 22, 23, 28, 34] [(27, .slice (some ⟨g18, 0, none⟩) m cq)] ?_
      refine od_ ?_
      exact wk (hmx5 () trivial) [1, 4, 7, 22, 23, 27, 28, 34] [[_], [_], [_], [_], _, _] [0, 1, 2, 3, 4, 5] rfl rfl
     ·
      refine cP (fun v L' => ∃ q_ c_ Y_, v = .slice q_ x20.n c_ ∧ L' = List.take 4 (bx (γ11 0) (#[.slice (some ⟨g18, 0, none⟩) m cq]) 38 :: bx (γ1 1) (#[.slice none 0 0]) 38 :: bx (γ1 0) (#[.slice q m capq]) 38 :: bx g18 cs18 46 :: (Yi ++ (YX ++ []))) ++ (Y_ ++ List.drop 4 (bx (γ11 0) (#[.slice (some ⟨g18, 0, none⟩) m cq]) 38 :: bx (γ1 1) (#[.slice none 0 0]) 38 :: bx (γ1 0) (#[.slice q m capq]) 38 :: bx g18 cs18 46 :: (Yi ++ (YX ++ [])))) ∧ SlO 3 Y_ q_ x20.n c_ x20.l) Try.call44 (fun w hw => (cloneints_t x20.p x20.n x20.cap x20.l w (hsx20.kept hw.below) hnx20 (by omega)).mono fun e w' ⟨q_, c_, Y_, he, hO, hb, hY⟩ => ⟨_, _, he, ⟨q_, c_, Y_, rfl, rfl, hO⟩, hw.join hb hY 4⟩) ?_
      rintro v204 L204 ⟨q204, cq204, Y204, rfl, rfl, hO204⟩
      refine od_ ?_
      exact wk (hmx6 (Y204, cq204, q204) hO204) [1, 4, 7, 22, 23, 26, 28, 35] [[_], [_], [_], [_], _, _, _] [0, 1, 2, 3, 4, 5, 6] rfl rfl
    refine any_cutX (V := Unit) (fun _ => True) 5 #[true, true, true, true, true, true, true, true, false, false, false, false, false] (fun _ => [(1, .func (.func pg) #[] pcb), (4, .pointer (some ⟨γ1 1, 0, none⟩)), (7, .pointer (some ⟨γ11 0, 0, none⟩)), (22, .int .i64 (m : Nat)), (23, .int .i64 (j : Nat)), (27, .slice (some ⟨g18, 0, none⟩) m cq), (28, .int .i64 (j : Nat)), (33, .pointer (some ⟨g18, 0 + j * 2 + 1, none⟩))]) (fun _ => bx (γ11 0) (#[.slice (some ⟨g18, 0, none⟩) m cq]) 38 :: bx (γ1 1) (#[.slice none 0 0]) 38 :: bx (γ1 0) (#[.slice q m capq]) 38 :: bx g18 cs18 46 :: (Yi ++ (YX ++ []))) ?_ (fun hmx3 => ?_)
    ·
     rintro _ _
     refine a1 8 rfl ?_
     refine qo 1 [(8, .go (ownps 3 (0 + j * 2 + 1) [.slice x20.p x20.n x20.cap]))] [1, 4, 7, 22, 23, 27, 28] [(34, .slice x20.p x20.n x20.cap)] (acellsP cs18 (0 + j * 2 + 1) [.slice x20.p x20.n x20.cap]) (rda_part (hOw18.rdx hO.len hx20) 1 _ rfl) ?_
     refine od_ ?_
     exact wk (hmx5 () trivial) [1, 4, 7, 22, 23, 27, 28, 34] [[_], [_], [_], [_], _, _] [0, 1, 2, 3, 4, 5] rfl rfl
    refine any_cutX (V := Unit) (fun _ => True) 6 #[true, false, true, true, true, true, true, true, false, false, false, false, false] (fun _ => [(1, .func (.func pg) #[] pcb), (4, .pointer (some ⟨γ1 1, 0, none⟩)), (7, .pointer (some ⟨γ11 0, 0, none⟩)), (22, .int .i64 (m : Nat)), (23, .int .i64 (j : Nat)), (26, .pointer (some ⟨γ11 0, 0, none⟩)), (28, .int .i64 (j : Nat)), (33, .pointer (some ⟨g18, 0 + j * 2 + 1, none⟩))]) (fun _ => bx (γ11 0) (#[.slice (some ⟨g18, 0, none⟩) m cq]) 38 :: bx (γ1 1) (#[.slice none 0 0]) 38 :: bx (γ1 0) (#[.slice q m capq]) 38 :: bx g18 cs18 46 :: (Yi ++ (YX ++ []))) ?_ (fun hmx2 => ?_)
    ·
     rintro _ _
     refine any_fork [1, 8] (by kernel_rfl) (by simp) (each_cons _ rfl ?_ (each_cons _ rfl ?_ (each_nil)))
     ·
      refine qo0 1 [(1, .go (owns 0 0 1))] [1, 4, 7, 22, 23, 28, 33] [(27, .slice (some ⟨g18, 0, none⟩) m cq)] ?_
      refine od_ ?_
      exact wk (hmx3 () trivial) [1, 4, 7, 22, 23, 27, 28, 33] [[_], [_], [_], [_], _, _] [0, 1, 2, 3, 4, 5] rfl rfl
     ·
      refine qo 1 [(8, .go (ownps 3 (0 + j * 2 + 1) [.slice x20.p x20.n x20.cap]))] [1, 4, 7, 22, 23, 26, 28] [(34, .slice x20.p x20.n x20.cap)] (acellsP cs18 (0 + j * 2 + 1) [.slice x20.p x20.n x20.cap]) (rda_part (hOw18.rdx hO.len hx20) 1 _ rfl) ?_
      refine od_ ?_
      exact wk (hmx4 () trivial) [1, 4, 7, 22, 23, 26, 28, 34] [[_], [_], [_], [_], _, _] [0, 1, 2, 3, 4, 5] rfl rfl
    refine any_cutX (V := Unit) (fun _ => True) 8 #[true, true, true, true, false, true, false, false, false, false, false, false, false] (fun _ => [(1, .func (.func pg) #[] pcb), (4, .pointer (some ⟨γ1 1, 0, none⟩)), (7, .pointer (some ⟨γ11 0, 0, none⟩)), (22, .int .i64 (m : Nat)), (23, .int .i64 (j : Nat)), (27, .slice (some ⟨g18, 0, none⟩) m cq), (28, .int .i64 (j : Nat)), (29, .pointer (some ⟨γ11 0, 0, none⟩)), (31, .int .i64 (j : Nat))]) (fun _ => bx (γ11 0) (#[.slice (some ⟨g18, 0, none⟩) m cq]) 38 :: bx (γ1 1) (#[.slice none 0 0]) 38 :: bx (γ1 0) (#[.slice q m capq]) 38 :: bx g18 cs18 46 :: (Yi ++ (YX ++ []))) ?_ (fun hmx1 => ?_)
    ·
     rintro _ _
     refine a1 4 rfl ?_
     refine qo0 1 [(4, .go (owns 0 0 1))] [1, 4, 7, 22, 23, 27, 28, 31] [(30, .slice (some ⟨g18, 0, none⟩) m cq)] ?_
     refine od_ ?_
     refine tk (m := 5) [6, 7] [(6, .at g18 0 j)] [1, 4, 7, 22, 23, 27, 28] [(33, .pointer (some ⟨g18, 0 + j * 2 + 1, none⟩))] ([(some ⟨g18, 0, none⟩ : Option Addr) = some ⟨g18, 0, none⟩, (j : Nat) = ((j : Nat) : Int), j < m]) #[true, true, true, true, true, true, true, true, false, false, false, false, false] (al2 rfl (al2 rfl (al1 (by omega)))) ?_
     exact wk (hmx3 () trivial) [1, 4, 7, 22, 23, 27, 28, 33] [[_], [_], [_], [_], _, _] [0, 1, 2, 3, 4, 5] rfl rfl
    refine any_fork [1, 4] (by kernel_rfl) (by simp) (each_cons _ rfl ?_ (each_cons _ rfl ?_ (each_nil)))
    ·
     refine qo0 1 [(1, .go (owns 0 0 1))] [1, 4, 7, 22, 23, 28, 29, 31] [(27, .slice (some ⟨g18, 0, none⟩) m cq)] ?_
     refine od_ ?_
     exact wk (hmx1 () trivial) [1, 4, 7, 22, 23, 27, 28, 29, 31] [[_], [_], [_], [_], _, _] [0, 1, 2, 3, 4, 5] rfl rfl
    ·
     refine qo0 1 [(4, .go (owns 0 0 1))] [1, 4, 7, 22, 23, 26, 28, 31] [(30, .slice (some ⟨g18, 0, none⟩) m cq)] ?_
     refine od_ ?_
     refine tk (m := 6) [6, 7] [(6, .at g18 0 j)] [1, 4, 7, 22, 23, 26, 28] [(33, .pointer (some ⟨g18, 0 + j * 2 + 1, none⟩))] ([(some ⟨g18, 0, none⟩ : Option Addr) = some ⟨g18, 0, none⟩, (j : Nat) = ((j : Nat) : Int), j < m]) #[true, false, true, true, true, true, true, true, false, false, false, false, false] (al2 rfl (al2 rfl (al1 (by omega)))) ?_
     exact wk (hmx2 () trivial) [1, 4, 7, 22, 23, 26, 28, 33] [[_], [_], [_], [_], _, _] [0, 1, 2, 3, 4, 5] rfl rfl
   rintro ⟨Y204, cq204, q204⟩ hO204
   refine any_nil (by kernel_rfl) ?_
   refine done_block (ds_ (qa [(0, .fit)] [1, 4, 7, 22] [(23, .int .i64 (j + 1 : Nat))] ([Fit .i64 ((j + 1 : Nat))]) (al1 (fit64 (by omega) (by omega))) (Done.pick [[bx (γ11 0) (#[.slice (some ⟨g18, 0, none⟩) m cq]) 38], [bx (γ1 1) (#[.slice none 0 0]) 38], [bx (γ1 0) (#[.slice q m capq]) 38], [bx g18 ((cs18).setIfInBounds (0 + j * 2 + 1) (.slice q204 x20.n cq204)) 46], Y204, Yi, YX] [0, 1, 2, 3, 5, 4, 6] [] (bx (γ11 0) (#[.slice (some ⟨g18, 0, none⟩) m cq]) 38 :: bx (γ1 1) (#[.slice none 0 0]) 38 :: bx (γ1 0) (#[.slice q m capq]) 38 :: ([bx g18 ((cs18).setIfInBounds (0 + j * 2 + 1) (.slice q204 x20.n cq204)) 46] ++ (Yi ++ (Y204 ++ (YX ++ []))))) (by kernel_rfl) rfl rfl (Done.as (L' := bx (γ11 0) (#[.slice (some ⟨g18, 0, none⟩) m cq]) 38 :: bx (γ1 1) (#[.slice none 0 0]) 38 :: bx (γ1 0) (#[.slice q m capq]) 38 :: ([bx g18 ((cs18).setIfInBounds (0 + j * 2 + 1) (.slice q204 x20.n cq204)) 46] ++ ((Yi ++ Y204) ++ (YX ++ [])))) (by simp only [List.append_assoc]) ?_))))
   exact dr [1, 4, 7, 22, 23] (j + 1, (bl.set j (⟨x20.id, q204, x20.n, cq204, x20.l⟩ : GngA)), ([bx g18 ((cs18).setIfInBounds (0 + j * 2 + 1) (.slice q204 x20.n cq204)) 46]), (some ⟨g18, 0, none⟩), cq, Yi ++ Y204) ⟨by omega, (SlO.ofOwn (hOw18.put (x' := (⟨x20.id, q204, x20.n, cq204, x20.l⟩ : GngA)) hO.len hx20 (f := 1) (by decide) rfl) (len_set hO.len)), wt_own hG hx20 hO204, wt_drop hD, wt_val hx20 hV rfl⟩
  ·
   refine qa [(0, .no)] [1, 4, 7, 22, 23] [(24, .bool false)] ([¬ (((j : Nat) : Int) < ((m : Nat) : Int))]) (al1 q14) (ds_ (sq_ (f_ (at_leave _ rfl (ds_ (sq_ (sq_ (ao_ (qo0 1 [] [4, 7] [(39, .func (.func pg) #[] pcb)] (cP (fun v L' => ∃ er q_ n_ c_ Y_ Z_ bl_ X_, v = .int .i64 er ∧ L' = bx (γ11 0) #[.slice q_ n_ c_] 38 :: ([bx (γ1 1) (#[.slice none 0 0]) 38, bx (γ1 0) (#[.slice q m capq]) 38] ++ (Y_ ++ (Z_ ++ (X_ ++ [])))) ∧ P er (bl_.map GngA.val) X_ ∧ SlO 46 Y_ q_ n_ c_ bl_ ∧ GotG 3 Z_ bl_) he (fun w hw => (hc q3 (γ11 0) pq cq Yg Yi [bx (γ1 1) (#[.slice none 0 0]) 38, bx (γ1 0) (#[.slice q m capq]) 38] bl w hO (by rw [← List.take_of_length_le (show bl.length ≤ j by omega)]; exact hG) hV (wt_in (A := [bx (γ1 1) (#[.slice none 0 0]) 38, bx (γ1 0) (#[.slice q m capq]) 38]) hw)).mono fun e w' ⟨er, q_, n_, c_, Y_, Z_, bl_, X_, he, h1, h2, h3, hX⟩ => ⟨_, _, he, ⟨er, q_, n_, c_, Y_, Z_, bl_, X_, rfl, rfl, h1, h2, h3⟩, wt_out (A := [bx (γ1 1) (#[.slice none 0 0]) 38, bx (γ1 0) (#[.slice q m capq]) 38]) hX⟩) ?_))))))))))
   rintro v333 L333 ⟨er333, q333, n333, c333, Y333, Yz333, bl333, YX333, rfl, rfl, hP333, hO333, hG333⟩
   refine qo0 1 [] [4, 7] [(9, .int .i64 er333)] (on_ (ds_ (sq_ ?_)))
   by_cases q336 : (er333 : Int) ≠ (0 : Int)
   ·
    refine qa [(1, .yes)] [4, 7, 9] [(42, .bool true)] ([(er333 : Int) ≠ (0 : Int)]) (al1 q336) (ds_ (t_ (sq_ (qa0 [(2, .go (owns 1 0 1))] [4] [(5, .int .i64 er333)] (ds_ (rt (owns 1 0 1) (.tuple #[.agg #[.slice none 0 0], .int .i64 er333]) ?_))))))
    exact fun w' hw => ⟨_, none, 0, 0, [], [], [], YX333, rfl, SlO.nil, GotG.nil, one_tail14 (Hs.pick [[bx (γ11 0) (#[.slice q333 n333 c333]) 38], [bx (γ1 1) (#[.slice none 0 0]) 38], [bx (γ1 0) (#[.slice q m capq]) 38], Y333, Yz333, YX333] [5] [0, 1, 2, 3, 4] (by kernel_rfl) hw), .inr (.inl ⟨(by first | assumption | rfl), by omega, rfl, _, hP333⟩)⟩
   ·
    refine qa [(1, .no)] [4, 7, 9] [(42, .bool false)] ([¬ ((er333 : Int) ≠ (0 : Int))]) (al1 q336) (ds_ (f_ (at_skip (ds_ (sq_ (ma0 [(0, .go (owns 0 0 1)), (1, .go (owns 1 0 1))] [4] (fun _ => [(5, .int .i64 0)]) (fun _ L => (L.set 1 (bx (γ1 1) (#[.slice q333 n333 c333]) 38))) (fun _ => ds_ (rt (owns 1 0 1) (.tuple #[.agg #[.slice q333 n333 c333], .int .i64 0]) ?_))))))))
    obtain rfl : er333 = 0 := by omega
    exact fun w' hw => ⟨_, _, _, _, _, _, _, _, rfl, hO333, hG333, wt_tail (Hs.pick [[bx (γ11 0) (#[.slice q333 n333 c333]) 38], [bx (γ1 1) (#[.slice q333 n333 c333]) 38], [bx (γ1 0) (#[.slice q m capq]) 38], Y333, Yz333, YX333] [3, 4, 5] [0, 1, 2] (by kernel_rfl) hw), .inr (.inr ⟨(by first | assumption | rfl), rfl, hP333⟩)⟩
end Go.Proofs.Ytahccegfahghfaa

/-! Gangs: Form; plain. -/
namespace Go.Proofs.Ytahccegfahghfaa
open Go Go.RowKit
/-- The first number that is free, from i on. -/
def gapV : Nat → Gs → Nat
  | i, [] => i
  | i, g :: t => if g.1 = (i : Int) + 1 then gapV (i + 1) t else i
/-- It is in one of these gangs. -/
def inV (gs : Gs) (k : Int) : Bool := gs.any fun g => decide (k ∈ g.2)
/-- What Form does to a copy: gangs, the number, the error. -/
def formC (gs : Gs) (l : List Int) : Gs × Int × Int :=
  if mayB l = false then (gs, 0, 2) else if l.any (inV gs) = true then (gs, 0, 5) else if gapV 0 gs = 8 then (gs, 0, 6)
  else (gs.take (gapV 0 gs) ++ [(((gapV 0 gs : Nat) : Int) + 1, l)] ++ gs.drop (gapV 0 gs), ((gapV 0 gs : Nat) : Int) + 1, 0)
/-- What Form answers. -/
def formV (gs : Gs) (l : List Int) : Gs × Int × Int :=
  if gangB gs = false then ([], 0, 240) else if (formC gs l).2.2 = 0 then formC gs l else ([], (formC gs l).2.1, (formC gs l).2.2)
theorem drop_atG {α : Type} {l : List α} {x : α} {j : Nat} (hx : l[j]? = some x) : l.drop j = x :: l.drop (j + 1) := by
  obtain ⟨hl, he⟩ := List.getElem?_eq_some_iff.1 hx
  rw [← he]; exact List.drop_eq_getElem_cons hl
section
variable {gs : Gs} {l : List Int} {T : TypeId} {Yi Y : List Ob} {bl : List GngA} {x : GngA} {j : Nat} {k : Int} {g : Int × List Int} {t : Gs}
theorem fc_arg (h : mayB l = false) : formC gs l = (gs, 0, 2) := by rw [formC, if_pos h]
theorem fc_there (h : mayB l = true) (h2 : l.any (inV gs) = true) : formC gs l = (gs, 0, 5) := by rw [formC, if_neg (by rw [h]; decide), if_pos h2]
theorem fc_full (h : mayB l = true) (h2 : l.any (inV gs) = false) (hg : j = gapV 0 gs) (h3 : j = 8) : formC gs l = (gs, 0, 6) := by rw [formC, if_neg (by rw [h]; decide), if_neg (by rw [h2]; decide), if_pos (by omega)]
theorem fc_ok (h : mayB l = true) (h2 : l.any (inV gs) = false) (hg : j = gapV 0 gs) (h3 : ¬ j = 8) : formC gs l = (gs.take j ++ [((j : Int) + 1, l)] ++ gs.drop j, (j : Int) + 1, 0) := by
  subst hg; rw [formC, if_neg (by rw [h]; decide), if_neg (by rw [h2]; decide), if_neg h3]
theorem gap_on (h : g.1 = (j : Int) + 1) : gapV j (g :: t) = gapV (j + 1) t := by rw [gapV, if_pos h]
theorem gap_no (h : ¬ g.1 = (j : Int) + 1) : gapV j (g :: t) = j := by rw [gapV, if_neg h]
theorem inG_val : inG bl = inV (bl.map GngA.val) := by
  funext k
  unfold inG inV
  rw [List.any_map]
  show decide (0 ≤ idxF (hasG k) bl) = bl.any (hasG k)
  rcases idxF_cases (hasG k) bl with ⟨hix, hn⟩ | ⟨i0, x0, hix, hx0, hp0, _⟩
  · rw [hix]
    rw [List.any_eq_false.2 (fun x hx h => Bool.false_ne_true ((hn x hx).symm.trans h))]
    rfl
  · rw [hix, List.any_eq_true.2 ⟨x0, List.mem_of_getElem? hx0, hp0⟩]
    exact decide_eq_true (by omega)
theorem val_ins : (bl.take j ++ [x] ++ bl.drop j).map GngA.val = (bl.map GngA.val).take j ++ [x.val] ++ (bl.map GngA.val).drop j := by
  rw [List.map_append, List.map_append, List.map_take, List.map_drop]; rfl
theorem GotG.ins (h : GotG T Yi bl) (hx : SlO T Y x.p x.n x.cap x.l) (hj : j ≤ bl.length) : ∃ Yi2, (Yi ++ Y).Perm Yi2 ∧ GotG T Yi2 (bl.take j ++ [x] ++ bl.drop j) := by
  obtain ⟨Ys, rfl, hl, hs⟩ := h
  rw [List.length_map] at hl
  refine ⟨(Ys.take j ++ [Y] ++ Ys.drop j).flatten, ?_, Ys.take j ++ [Y] ++ Ys.drop j, rfl, by simp [hl], fun i Z z h1 h2 => ?_⟩
  · conv => lhs; rw [← List.take_append_drop j Ys]
    simp only [List.flatten_append, List.flatten_cons, List.flatten_nil, List.append_nil, List.append_assoc]
    exact List.Perm.append_left _ List.perm_append_comm
  · rw [List.getElem?_map] at h2
    have ht : (Ys.take j).length = j := by rw [List.length_take]; omega
    have ht2 : (bl.take j).length = j := by rw [List.length_take]; omega
    by_cases hi : i < j
    · rw [List.append_assoc, List.getElem?_append_left (by omega), List.getElem?_take, if_pos hi] at h1 h2
      exact hs i Z z h1 (by rw [List.getElem?_map]; exact h2)
    · rw [List.append_assoc, List.getElem?_append_right (by omega)] at h1 h2
      rw [ht] at h1; rw [ht2] at h2
      by_cases he : i = j
      · subst he
        simp at h1 h2
        subst h1; subst h2
        exact hx
      · obtain ⟨d, hd⟩ : ∃ d, i - j = d + 1 := ⟨i - j - 1, by omega⟩
        rw [hd] at h1 h2
        simp only [List.cons_append, List.nil_append, List.getElem?_cons_succ, List.getElem?_drop] at h1 h2
        exact hs (j + d) Z z h1 (by rw [List.getElem?_map]; exact h2)
theorem got_small (h : GotG T Yi bl) (hg : gangB (bl.map GngA.val) = true) : ∀ x ∈ bl, x.n ≤ 1000 := fun x hx => by
  obtain ⟨Z, _, hz⟩ := GotR.own h (List.mem_map_of_mem (f := GngA.row) hx)
  have h1 := (gang_pre hg 0).2.1 x.val (List.mem_map_of_mem hx)
  have h2 := may_len h1
  have h3 : x.row.n = x.row.l.length := hz.facts.1
  have h4 : x.n = x.l.length := h3
  have h5 : x.l.length ≤ 8 := h2.2
  omega
end
end Go.Proofs.Ytahccegfahghfaa
