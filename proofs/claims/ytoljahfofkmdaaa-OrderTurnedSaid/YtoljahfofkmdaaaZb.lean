/- Texts of this proof, one behind the other. -/
import Derived.Test.YtoljahfofkmdaaaZa
import Derived.Test.YtoljahfofkmdaaaProg
import Derived.WalkKit
import Derived.Lib.Hide
import Derived.BigRegion
import Derived.BigQuiet
import Derived.Deep.QuietTactic
import Derived.KernelRfl
import Derived.Deep.WholeRow
import Derived.Laws.CopyOwn
import Derived.WalkSmall
import Derived.ChangeKeysEq
import Derived.StillTailTactics
import Derived.Lib.OthersKept
import Derived.Laws.RangeAny
import Derived.LoopTactic
import Derived.Lib.Tables
import Derived.Shelf.SlSortCmp.NoneTotal
/-! Entities: what they are; plain. -/
namespace Go.Proofs.Ytoljahfofkmdaaa
open Go Go.RowKit

structure EnA where
  p : Option Addr
  n : Nat
  cap : Nat
  l : List Int
  th : Int
  tl : Int
  tw : Int
  ord : Int
  fresh : Bool
instance : Enc EnA := ⟨fun x => [.slice x.p x.n x.cap, .int .u64 x.th, .int .u64 x.tl, .int .u64 x.tw, .int .u64 x.ord, .bool x.fresh], 6, fun _ => rfl, fun x v h => by simp at h; rcases h with rfl | rfl | rfl | rfl | rfl | rfl <;> rfl, by decide⟩
/-- An entity, as it is. -/
structure En where
  mem : List Int
  t : Fq
  ord : Int
  fresh : Bool
deriving DecidableEq
abbrev EnA.t (x : EnA) : Fq := ⟨x.th, x.tl, x.tw⟩
def EnA.val (x : EnA) : En := ⟨x.l, x.t, x.ord, x.fresh⟩
structure EnA.Reads (x : EnA) (w : World) : Prop where
  sv : Sv w x.p x.l
  hn : x.n = x.l.length
  hc : x.n ≤ x.cap
  hb : x.cap ≤ 9223372036854775807
  tU : x.t.U
  o0 : 0 ≤ x.ord
  o1 : x.ord < 18446744073709551616
theorem EnA.Reads.kept {x : EnA} {w w' : World} (h : x.Reads w) (hb : Below w.heap.size w w') : x.Reads w' := ⟨h.sv.kept hb, h.hn, h.hc, h.hb, h.tU, h.o0, h.o1⟩
def rightE (a : En) : Bool := decide (0 < a.mem.length) && a.t.ok
def firstM (a : En) : Int := (a.mem[0]?).getD 0
/-- The first that is not nought. -/
def orL : List Int → Int
  | [] => 0
  | x :: r => if x ≠ 0 then x else orL r
def cmpE (a b : En) : Int := if a.fresh = b.fresh then orL [cmpF a.t b.t, cmpT a.ord b.ord, cmpT (firstM a) (firstM b)] else if a.fresh = true then -1 else 1
def aheadE (a b : En) : Bool := (rightE a && rightE b) && decide (cmpE a b < 0)
section
variable {l : List Int} {j : Nat} {x y : Int} {a b : En}
theorem or_no : ∀ {l : List Int}, (∀ y ∈ l, y = 0) → orL l = 0
  | [], _ => rfl
  | x :: r, h => by rw [orL, if_neg (by have := h x (List.mem_cons_self ..); omega)]; exact or_no fun y hy => h y (List.mem_cons_of_mem _ hy)
theorem or_yes : ∀ {l : List Int} {j : Nat}, (∀ y ∈ l.take j, y = 0) → l[j]? = some x → x ≠ 0 → orL l = x
  | [], _, _, h, _ => by cases h
  | y :: r, 0, _, h, hx => by cases h; rw [orL, if_pos hx]
  | y :: r, j + 1, hI, h, hx => by
    rw [orL, if_neg (by have := hI y (by rw [List.take_succ_cons]; exact List.mem_cons_self ..); omega)]
    exact or_yes (fun z hz => hI z (by rw [List.take_succ_cons]; exact List.mem_cons_of_mem _ hz)) (by simpa using h) hx
theorem rt_yes (h : 0 < a.mem.length) (h2 : a.t.ok = true) : rightE a = true := by unfold rightE; rw [decide_eq_true h, h2]; rfl
theorem rt_iff : rightE a = true ↔ 0 < a.mem.length ∧ a.t.ok = true := by unfold rightE; rw [Bool.and_eq_true, decide_eq_true_eq]
theorem first_at (h : a.mem[0]? = some x) : firstM a = x := by unfold firstM; rw [h]; rfl
theorem cmpE_l (h : a.fresh = true) (h2 : b.fresh = false) : cmpE a b = -1 := by unfold cmpE; rw [if_neg (by rw [h, h2]; decide), if_pos h]
theorem cmpE_r (h : a.fresh = false) (h2 : b.fresh = true) : cmpE a b = 1 := by unfold cmpE; rw [if_neg (by rw [h, h2]; decide), if_neg (by rw [h]; decide)]
theorem cmpE_s (h : a.fresh = b.fresh) (hx : a.mem[0]? = some x) (hy : b.mem[0]? = some y) : cmpE a b = orL [cmpF a.t b.t, cmpT a.ord b.ord, cmpT x y] := by unfold cmpE; rw [if_pos h, first_at hx, first_at hy]
theorem ah_yes (h : rightE a = true) (h2 : rightE b = true) : aheadE a b = decide (cmpE a b < 0) := by unfold aheadE; rw [h, h2]; rfl
end
end Go.Proofs.Ytoljahfofkmdaaa

/-! Entities in order; plain. -/
namespace Go.Proofs.Ytoljahfofkmdaaa
open Go Go.RowKit

theorem le_tr {an aw bn bw cn cw : Int} (hb : 0 < bw) (ha : 0 ≤ aw) (hc : 0 ≤ cw) (h1 : an * bw ≤ bn * aw) (h2 : bn * cw ≤ cn * bw) : an * cw ≤ cn * aw := by
  have e1 : an * bw * cw ≤ bn * aw * cw := Int.mul_le_mul_of_nonneg_right h1 hc
  have e2 : bn * cw * aw ≤ cn * bw * aw := Int.mul_le_mul_of_nonneg_right h2 ha
  refine Int.le_of_mul_le_mul_right (a := bw) ?_ hb
  rw [Int.mul_right_comm an cw bw, Int.mul_right_comm cn aw bw]
  rw [Int.mul_right_comm bn aw cw] at e1
  exact Int.le_trans e1 e2
def pF (a b : En) : Int := a.t.num * b.t.w
def AltP (a b : En) : Prop := (a.fresh = true ∧ b.fresh = false) ∨ (a.fresh = b.fresh ∧ (pF a b < pF b a ∨ (pF a b = pF b a ∧ (a.ord < b.ord ∨ (a.ord = b.ord ∧ firstM a < firstM b)))))
/-- The same place in the order. -/
def TieP (a b : En) : Prop := a.fresh = b.fresh ∧ pF a b = pF b a ∧ a.ord = b.ord ∧ firstM a = firstM b
def insE (x : En) : List En → List En
  | [] => [x]
  | y :: r => if aheadE x y = true then x :: y :: r else y :: insE x r
/-- Put in one by one, each ahead of the first one that it stands ahead of. -/
def srtE (l : List En) : List En := l.foldl (fun o x => insE x o) []
def SortP (l : List En) : Prop := l.Pairwise fun a b => aheadE b a = false
section
variable {a b c x y : En} {l l' r : List En}
theorem cmpF_p (ha : a.t.ok = true) (hb : b.t.ok = true) : cmpF a.t b.t = cmpI (pF a b) (pF b a) := by rw [cmpF_yes (by rw [ha, hb]; rfl)]; rfl
theorem cmpI_neg' {p q : Int} : (cmpI p q < 0 ↔ p < q) ∧ (cmpI p q = 0 ↔ p = q) := by unfold cmpI; split <;> (try split) <;> omega
theorem or3 {p q r : Int} : (orL [p, q, r] < 0 ↔ p < 0 ∨ (p = 0 ∧ (q < 0 ∨ (q = 0 ∧ r < 0)))) ∧ (orL [p, q, r] = 0 ↔ p = 0 ∧ q = 0 ∧ r = 0) := by
  unfold orL orL orL orL
  split <;> (try split) <;> (try split) <;> omega
theorem cmpE_neg (ha : a.t.ok = true) (hb : b.t.ok = true) : cmpE a b < 0 ↔ AltP a b := by
  unfold cmpE AltP
  rw [cmpF_p ha hb]
  have h1 := cmpI_neg' (p := pF a b) (q := pF b a)
  have h2 := cmpT_iff a.ord b.ord
  have h3 := cmpT_iff (firstM a) (firstM b)
  by_cases hf : a.fresh = b.fresh
  · rw [if_pos hf, or3.1, h1.1, h1.2, h2.1, h2.2, h3.1]
    constructor
    · intro h; exact .inr ⟨hf, h⟩
    · rintro (⟨h, h'⟩ | ⟨_, h⟩)
      · rw [h, h'] at hf; cases hf
      · exact h
  · rw [if_neg hf]
    cases ea : a.fresh <;> cases eb : b.fresh <;> simp_all
theorem p_tr (ha : a.t.ok = true) (hb : b.t.ok = true) (hc : c.t.ok = true) : pF b a < pF a b ∨ pF c b < pF b c ∨ pF a c ≤ pF c a := by
  have := (ok_iff.1 ha).1; have := (ok_iff.1 hb).1; have := (ok_iff.1 hc).1
  by_cases h1 : pF a b ≤ pF b a
  · by_cases h2 : pF b c ≤ pF c b
    · exact .inr (.inr (le_tr (bw := b.t.w) (by omega) (by omega) (by omega) h1 h2))
    · exact .inr (.inl (by omega))
  · exact .inl (by omega)
theorem alt_irr : ¬ AltP a a := by
  rintro (⟨h, h'⟩ | ⟨_, h⟩)
  · rw [h] at h'; cases h'
  · omega
theorem alt_all (ha : a.t.ok = true) (hb : b.t.ok = true) (hc : c.t.ok = true) : (AltP a b → AltP b c → AltP a c) ∧ (¬ AltP a b → ¬ AltP b c → ¬ AltP a c) ∧ (AltP a b → ¬ AltP b a) ∧ (¬ AltP a b → ¬ AltP b a → TieP a b) ∧ (TieP a b → ¬ AltP a b ∧ ¬ AltP b a) := by
  have t1 := p_tr ha hb hc; have t2 := p_tr hb hc ha; have t3 := p_tr hc ha hb; have t4 := p_tr hc hb ha; have t5 := p_tr hb ha hc; have t6 := p_tr ha hc hb
  unfold AltP TieP
  generalize pF a b = p1 at *; generalize pF b a = p2 at *; generalize pF a c = p3 at *; generalize pF c a = p4 at *; generalize pF b c = p5 at *; generalize pF c b = p6 at *
  generalize a.fresh = fa at *; generalize b.fresh = fb at *; generalize c.fresh = fc at *
  refine ⟨fun h1 h2 => ?_, fun h1 h2 h3 => ?_, fun h1 h2 => ?_, fun h1 h2 => ?_, fun h => ⟨fun h1 => ?_, fun h1 => ?_⟩⟩
  all_goals (cases fa <;> cases fb <;> cases fc <;> simp at * <;> omega)
theorem ahead_iff (ha : rightE a = true) (hb : rightE b = true) : aheadE a b = true ↔ AltP a b := by
  rw [ah_yes ha hb, decide_eq_true_eq, cmpE_neg (rt_iff.1 ha).2 (rt_iff.1 hb).2]
theorem ahead_not (ha : rightE a = true) (hb : rightE b = true) : aheadE a b = false ↔ ¬ AltP a b := by
  rw [← ahead_iff ha hb, Bool.not_eq_true]
theorem insE_perm : ∀ (l : List En), (insE x l).Perm (x :: l)
  | [] => .refl _
  | y :: r => by
    unfold insE
    split
    · exact .refl _
    · exact ((insE_perm r).cons y).trans (.swap x y r)
theorem srt_perm' : ∀ (l o : List En), (l.foldl (fun o x => insE x o) o).Perm (o ++ l)
  | [], o => by simp
  | x :: r, o => by
    refine (srt_perm' r (insE x o)).trans (((insE_perm o).append_right r).trans ?_)
    exact (List.perm_middle (l₁ := o) (l₂ := r) (a := x)).symm
theorem srtE_perm : (srtE l).Perm l := by have := srt_perm' l []; rwa [List.nil_append] at this
theorem insE_sort (hx : rightE x = true) : ∀ (l : List En), (∀ y ∈ l, rightE y = true) → SortP l → SortP (insE x l)
  | [], _, _ => List.pairwise_singleton ..
  | y :: r, hr, hs => by
    have hy := hr y (List.mem_cons_self ..)
    have hs' := List.pairwise_cons.1 hs
    unfold insE
    split
    · next h =>
      refine List.pairwise_cons.2 ⟨fun z hz => ?_, hs⟩
      have hz' := hr z hz
      rw [ahead_not hz' hx]
      rw [ahead_iff hx hy] at h
      rcases List.mem_cons.1 hz with rfl | hz2
      · exact (alt_all (rt_iff.1 hx).2 (rt_iff.1 hy).2 (rt_iff.1 hy).2).2.2.1 h
      · have h3 := (ahead_not hz' hy).1 (hs'.1 z hz2)
        intro h4
        exact h3 ((alt_all (rt_iff.1 hz').2 (rt_iff.1 hx).2 (rt_iff.1 hy).2).1 h4 h)
    · next h =>
      refine List.pairwise_cons.2 ⟨fun z hz => ?_, insE_sort hx r (fun z hz => hr z (List.mem_cons_of_mem _ hz)) hs'.2⟩
      rcases List.mem_cons.1 ((insE_perm r).mem_iff.1 hz) with rfl | hz2
      · exact Bool.eq_false_iff.2 h
      · exact hs'.1 z hz2
theorem srt_sort' : ∀ (l o : List En), (∀ y ∈ l, rightE y = true) → (∀ y ∈ o, rightE y = true) → SortP o → SortP (l.foldl (fun o x => insE x o) o)
  | [], _, _, _, h => h
  | x :: r, o, hr, ho, h => srt_sort' r (insE x o) (fun y hy => hr y (List.mem_cons_of_mem _ hy))
      (fun y hy => by rcases List.mem_cons.1 ((insE_perm o).mem_iff.1 hy) with rfl | h2; exact hr _ (List.mem_cons_self ..); exact ho y h2) (insE_sort (hr x (List.mem_cons_self ..)) o ho h)
theorem srtE_sort (hr : ∀ y ∈ l, rightE y = true) : SortP (srtE l) := srt_sort' l [] hr (fun y hy => by cases hy) List.Pairwise.nil
theorem nodup_inj {α β : Type} {f : α → β} : ∀ {l : List α}, (l.map f).Nodup → ∀ {a b : α}, a ∈ l → b ∈ l → f a = f b → a = b
  | [], _, _, _, h, _, _ => by cases h
  | x :: r, hn, a, b, ha, hb, he => by
    have h2 := List.nodup_cons.1 (by simpa using hn : (f x :: r.map f).Nodup)
    rcases List.mem_cons.1 ha with rfl | ha2 <;> rcases List.mem_cons.1 hb with rfl | hb2
    · rfl
    · exact absurd (List.mem_map.2 ⟨b, hb2, he.symm⟩) h2.1
    · exact absurd (List.mem_map.2 ⟨a, ha2, he⟩) h2.1
    · exact nodup_inj h2.2 ha2 hb2 he
/-- There is one order of them. -/
theorem srt_uniq (hr : ∀ x ∈ l, rightE x = true) (hn : (l.map firstM).Nodup) (hp : l'.Perm l) (hs : SortP l') : l' = srtE l := by
  refine List.Perm.eq_of_pairwise (le := fun a b => aheadE b a = false) (fun a b ha hb h1 h2 => ?_) hs (srtE_sort hr) (hp.trans srtE_perm.symm)
  have ha' := hp.mem_iff.1 ha
  have hb' := srtE_perm.mem_iff.1 hb
  have ra := hr a ha'
  have rb := hr b hb'
  rw [ahead_not rb ra] at h1
  rw [ahead_not ra rb] at h2
  exact nodup_inj hn ha' hb' ((alt_all (rt_iff.1 ra).2 (rt_iff.1 rb).2 (rt_iff.1 rb).2).2.2.2.1 h2 h1).2.2.2
end
end Go.Proofs.Ytoljahfofkmdaaa

/-! Matches by paths that make one longer; plain. -/
namespace Go.Proofs.Ytoljahfofkmdaaa
open Go Go.RowKit

section
variable {β : Type} {D : List (Int × β)} {c k : Int} {v : β}
theorem mk_some : ∀ {D : List (Int × β)}, mget D c = some v → (c, v) ∈ D
  | [], h => by cases h
  | p :: D, h => by
    unfold mget at h
    split at h
    · rename_i e; cases h; rw [← e]; simp
    · exact List.mem_cons_of_mem _ (mk_some h)
theorem mk_none : ∀ {D : List (Int × β)}, mget D c = none ↔ c ∉ D.map (·.1)
  | [] => by simp [mget]
  | p :: D => by
    unfold mget
    split
    · rename_i e; subst e; simp
    · rename_i e
      rw [mk_none]
      simp only [List.map_cons, List.mem_cons, not_or]
      exact ⟨fun h => ⟨fun e2 => e e2.symm, h⟩, fun h => h.2⟩
theorem mu_new : ∀ {D : List (Int × β)}, mget D c = none → mupd D c v = D ++ [(c, v)]
  | [], _ => rfl
  | p :: D, h => by
    unfold mget at h
    split at h
    · cases h
    · rename_i e
      unfold mupd
      rw [if_neg e, mu_new h]; rfl
theorem mu_keys {o : β} : ∀ {D : List (Int × β)}, mget D c = some o → (mupd D c v).map (·.1) = D.map (·.1)
  | [], h => by cases h
  | p :: D, h => by
    unfold mget at h
    unfold mupd
    split at h
    · rename_i e; rw [if_pos e]; simp [e]
    · rename_i e; rw [if_neg e]; simp only [List.map_cons]; rw [mu_keys h]
theorem mu_get : ∀ {D : List (Int × β)}, mget (mupd D c v) c = some v
  | [] => by simp [mupd, mget]
  | p :: D => by
    unfold mupd
    split
    · simp [mget]
    · rename_i e; simp only [mget, if_neg e]; exact mu_get
theorem mu_get_ne (h : k ≠ c) : ∀ {D : List (Int × β)}, mget (mupd D c v) k = mget D k
  | [] => by simp [mupd, mget, Ne.symm h]
  | p :: D => by
    unfold mupd
    split
    · rename_i e
      have h2 : ¬ p.1 = k := fun e2 => h (by rw [← e2, e])
      simp [mget, h2, Ne.symm h]
    · simp only [mget]
      split
      · rfl
      · exact mu_get_ne h
theorem mu_mem {p : Int × β} : ∀ {D : List (Int × β)}, p ∈ mupd D c v → p ∈ D ∨ p = (c, v)
  | [], h => by simp only [mupd, List.mem_singleton] at h; exact .inr h
  | q :: D, h => by
    unfold mupd at h
    split at h
    · rcases List.mem_cons.1 h with e | e
      · exact .inr e
      · exact .inl (List.mem_cons_of_mem _ e)
    · rcases List.mem_cons.1 h with e | e
      · exact .inl (by rw [e]; simp)
      · exact (mu_mem e).elim (fun h => .inl (List.mem_cons_of_mem _ h)) .inr
theorem mu_nodup (hn : (D.map (·.1)).Nodup) : ((mupd D c v).map (·.1)).Nodup := by
  cases h : mget D c with
  | some o => rw [mu_keys h]; exact hn
  | none =>
    rw [mu_new h, List.map_append, List.nodup_append]
    exact ⟨hn, by simp, fun a ha b hb e => by simp at hb; subst hb; subst e; exact mk_none.1 h ha⟩
end
/-- Whoever gives a place up for another one. -/
def givesC (g : Int → List (Int × Int) → List (Int × Bool) → List (Int × Int) × List (Int × Bool) × Bool) (i : Int) : List Int → List (Int × Int) → List (Int × Bool) → List (Int × Int) × List (Int × Bool) × Bool
  | [], D, A => (D, A, false)
  | c :: cs, D, A => if (mget A c).getD false = true then givesC g i cs D A else
    match mget D c with
    | none => (mupd D c i, mupd A c true, true)
    | some o => if (g o D (mupd A c true)).2.2 = true then (mupd (g o D (mupd A c true)).1 c i, (g o D (mupd A c true)).2.1, true) else givesC g i cs (g o D (mupd A c true)).1 (g o D (mupd A c true)).2.1
def givesV (rows : List (List Int)) : Nat → Int → List (Int × Int) → List (Int × Bool) → List (Int × Int) × List (Int × Bool) × Bool
  | 0, _, D, A => (D, A, false)
  | f + 1, i, D, A => givesC (givesV rows f) i ((rows[i.toNat]?).getD []) D A
def kuhnV (rows : List (List Int)) : Nat → Option (List (Int × Int))
  | 0 => some []
  | j + 1 => match kuhnV rows j with
    | none => none
    | some D => if (givesV rows 9 (j : Int) D []).2.2 = true then some (givesV rows 9 (j : Int) D []).1 else none
def matchV (rows : List (List Int)) : Bool := (kuhnV rows rows.length).isSome
/-- How often one has a place. -/
def cntV (D : List (Int × Int)) (r : Int) : Nat := (D.filter fun p => decide (p.2 = r)).length
def oneV (r i : Int) : Nat := if r = i then 1 else 0
/-- A match so far. -/
structure WD (rows : List (List Int)) (D : List (Int × Int)) : Prop where
  nd : (D.map (·.1)).Nodup
  ok : ∀ p ∈ D, 0 ≤ p.2 ∧ ∃ row, rows[p.2.toNat]? = some row ∧ p.1 ∈ row
/-- Who has been asked. -/
structure WA (A : List (Int × Bool)) : Prop where
  nd : (A.map (·.1)).Nodup
  yes : ∀ p ∈ A, p.2 = true
  rg : ∀ p ∈ A, 0 ≤ p.1 ∧ p.1 < 8
section
variable {rows : List (List Int)} {i c r : Int} {D : List (Int × Int)} {A : List (Int × Bool)}
theorem WA.asked (h : WA A) : (mget A c).getD false = true ↔ c ∈ A.map (·.1) := by
  cases e : mget A c with
  | none => simp only [Option.getD_none, Bool.false_eq_true, false_iff]; exact mk_none.1 e
  | some b =>
    have hm := mk_some e
    have hb := h.yes _ hm
    simp only at hb
    subst hb
    simp only [Option.getD_some, true_iff]
    exact List.mem_map.2 ⟨_, hm, rfl⟩
theorem WA.put (h : WA A) (h0 : 0 ≤ c) (h1 : c < 8) : WA (mupd A c true) := ⟨mu_nodup h.nd, fun p hp => (mu_mem hp).elim (h.yes p) fun e => by rw [e], fun p hp => (mu_mem hp).elim (h.rg p) fun e => by rw [e]; exact ⟨h0, h1⟩⟩
theorem nodup_le : ∀ {l N : List Int}, l.Nodup → (∀ x ∈ l, x ∈ N) → l.length ≤ N.length
  | [], _, _, _ => Nat.zero_le _
  | a :: l, N, hn, h => by
    simp only [List.nodup_cons] at hn
    have ha := h a (by simp)
    have := nodup_le (l := l) (N := N.erase a) hn.2 fun x hx => (List.mem_erase_of_ne (fun e => hn.1 (by rw [← e]; exact hx))).2 (h x (by simp [hx]))
    rw [List.length_erase_of_mem ha] at this
    have hp : 0 < N.length := List.length_pos_of_mem ha
    simp only [List.length_cons]
    omega
theorem WA.len (h : WA A) : A.length ≤ 8 := by
  have := nodup_le (N := [0, 1, 2, 3, 4, 5, 6, 7]) h.nd fun x hx => by
    obtain ⟨p, hp, rfl⟩ := List.mem_map.1 hx
    have := h.rg p hp
    have : p.1 = 0 ∨ p.1 = 1 ∨ p.1 = 2 ∨ p.1 = 3 ∨ p.1 = 4 ∨ p.1 = 5 ∨ p.1 = 6 ∨ p.1 = 7 := by omega
    rcases this with h | h | h | h | h | h | h | h <;> rw [h] <;> simp
  simpa using this
/-- What is true of the answer. -/
structure GSpec (rows : List (List Int)) (i : Int) (cs : List Int) (D : List (Int × Int)) (A : List (Int × Bool)) (R : List (Int × Int) × List (Int × Bool) × Bool) : Prop where
  wa : WA R.2.1
  sub : ∀ c ∈ A.map (·.1), c ∈ R.2.1.map (·.1)
  wd : WD rows R.1
  keep : ∀ c ∈ A.map (·.1), mget R.1 c = mget D c
  yes : R.2.2 = true → ∀ r, cntV R.1 r = cntV D r + oneV r i
  no : R.2.2 = false → R.1 = D ∧ (∀ c ∈ cs, c ∈ R.2.1.map (·.1)) ∧ ∀ c ∈ R.2.1.map (·.1), c ∉ A.map (·.1) → ∃ o row, mget D c = some o ∧ rows[o.toNat]? = some row ∧ ∀ k ∈ row, k ∈ R.2.1.map (·.1)
/-- Each row one of its own, none twice. -/
structure Sdr (rows : List (List Int)) (m : List Int) : Prop where
  len : m.length = rows.length
  nd : m.Nodup
  own : ∀ (j : Nat) (c : Int), m[j]? = some c → ∃ row, rows[j]? = some row ∧ c ∈ row
end
end Go.Proofs.Ytoljahfofkmdaaa

/-! Entities: those of a queue, in gangs and alone; plain. -/
namespace Go.Proofs.Ytoljahfofkmdaaa
open Go Go.RowKit

structure Wt where
  id : Int
  ord : Int
  fresh : Bool
deriving DecidableEq, Inhabited
instance : Enc Wt := ⟨fun x => [.int .i64 x.id, .int .u64 x.ord, .bool x.fresh], 3, fun _ => rfl, fun x v h => by simp at h; rcases h with rfl | rfl | rfl <;> rfl, by decide⟩
structure Wt.U (x : Wt) : Prop where
  i0 : -9223372036854775808 ≤ x.id
  i1 : x.id ≤ 9223372036854775807
  o0 : 0 ≤ x.ord
  o1 : x.ord < 18446744073709551616
structure Pr where
  r : Rn
  w : Wt
deriving DecidableEq, Inhabited
instance : Enc Pr := ⟨fun x => [.int .i64 x.r.id, .int .i64 x.r.each, .int .u64 x.r.th, .int .u64 x.r.tl, .int .u64 x.r.tw, .int .i64 x.w.id, .int .u64 x.w.ord, .bool x.w.fresh], 8, fun _ => rfl, fun x v h => by simp at h; rcases h with rfl | rfl | rfl | rfl | rfl | rfl | rfl | rfl <;> rfl, by decide⟩
structure Pr.U (x : Pr) : Prop where
  r : x.r.U
  w : x.w.U
def metM (l : List Int) : List (Int × Bool) := l.foldl (fun D n => mupd D n true) []
/-- The orders met so far. -/
def metO (ws : List Wt) (j : Nat) : List Int := 0 :: (ws.take j).map Wt.ord
def wtB : List Int → List Rn → List Wt → Bool
  | _, [], [] => true
  | met, x :: ts, y :: ws => decide (x.id = y.id ∧ y.ord ∉ met ∧ y.ord ≤ 4611686018427387904) && wtB (met ++ [y.ord]) ts ws
  | _, _, _ => false
/-- Whether these are the waits of these runners. -/
def waitsV (ts : List Rn) (ws : List Wt) : Bool := wtB [0] ts ws
def grB : Int → List Int → List Int → Bool
  | _, _, [] => true
  | la, met, x :: r => decide (la < x ∧ x ≤ 16 ∧ x ∉ met) && grB x (met ++ [x]) r
def metG (gs : List (List Int)) (j : Nat) : List Int := (gs.take j).flatten
def apB : List Int → List (List Int) → Bool
  | _, [] => true
  | met, g :: r => (decide (g ≠ []) && grB 0 met g) && apB (met ++ g) r
/-- Whether these may be gangs. -/
def apartV (gs : List (List Int)) : Bool := apB [] gs
/-- Why nothing can be put in order. -/
def chkO (ts : List Rn) (ws : List Wt) (gs : List (List Int)) : Int := if chkQ ts = false then 200 else if (waitsV ts ws && apartV gs) = false then 220 else 0
def oneS (a : En) (p : Pr) : En := ⟨a.mem ++ [p.r.id], if 0 < cmpF p.r.t a.t then p.r.t else a.t, if p.w.ord < a.ord then p.w.ord else a.ord, a.fresh && p.w.fresh⟩
def oneI (l : List Pr) : En := match l with
  | [] => ⟨[], zF, 0, true⟩
  | p :: _ => ⟨[], p.r.t, p.w.ord, true⟩
/-- The entity of some runners. -/
def entO (l : List Pr) : En := l.foldl oneS (oneI l)
def pairsV (ts : List Rn) (ws : List Wt) : List Pr := List.zipWith Pr.mk ts ws
def gnF : Nat → Nat → List (List Int) → Int → Nat
  | a, _, [], _ => a
  | a, i, g :: r, k => gnF (if k ∈ g then i + 1 else a) (i + 1) r k
/-- The number of one's gang, from 1 on; 0: in none. -/
def gnV (gs : List (List Int)) (k : Int) : Nat := gnF 0 0 gs k
def rowZ (gs : List (List Int)) (zs : List Pr) (n : Nat) : List Pr := zs.filter fun p => decide (gnV gs p.r.id = n)
def neO (l : List Pr) : Option En := if l.isEmpty then none else some (entO l)
def rowP (gs : List (List Int)) (zs : List Pr) (n : Nat) : List Pr := if n = 0 then [] else rowZ gs zs n
def singZ (gs : List (List Int)) (zs : List Pr) : List En := (rowZ gs zs 0).map fun p => entO [p]
def rawV (gs : List (List Int)) (zs : List Pr) : List En := singZ gs zs ++ ((List.range (gs.length + 1)).map (rowP gs zs)).filterMap neO
def entD (zs : List Pr) (m : List Int) : Option En := neO (zs.filter fun p => decide (p.r.id ∈ m))
def aloneD (gs : List (List Int)) (r : Rn) : Bool := gs.all fun g => !decide (r.id ∈ g)
def rowsD (gs : List (List Int)) (ts : List Rn) : List (List Int) := gs ++ (ts.filter (aloneD gs)).map fun r => [r.id]
/-- The entities, ere they are put in order. -/
def rawD (ts : List Rn) (ws : List Wt) (gs : List (List Int)) : List En := (rowsD gs ts).filterMap (entD (pairsV ts ws))
/-- All entities, in order. -/
def docV (ts : List Rn) (ws : List Wt) (gs : List (List Int)) : List En := srtE (rawD ts ws gs)
theorem fm_congr {α β : Type} {f g : α → Option β} : ∀ {l : List α}, (∀ x ∈ l, f x = g x) → l.filterMap f = l.filterMap g
  | [], _ => rfl
  | x :: r, h => by rw [List.filterMap_cons, List.filterMap_cons, h x (List.mem_cons_self ..), fm_congr fun y hy => h y (List.mem_cons_of_mem _ hy)]
theorem take_one {α : Type} {l : List α} {j : Nat} {a : α} (hx : l[j]? = some a) : l.take (j + 1) = l.take j ++ [a] := by rw [List.take_add_one, hx]; rfl
theorem drop_one {α : Type} {l : List α} {x : α} {j : Nat} (hx : l[j]? = some x) : l.drop j = x :: l.drop (j + 1) := by
  obtain ⟨hl, he⟩ := List.getElem?_eq_some_iff.1 hx
  rw [← he]; exact List.drop_eq_getElem_cons hl
section
variable {ts : List Rn} {ws : List Wt} {gs : List (List Int)} {g met l : List Int} {x : Rn} {y : Wt} {j i n : Nat} {k la : Int} {zs F : List Pr} {p : Pr}
theorem met_on : metM (l ++ [k]) = mupd (metM l) k true := by simp [metM]
theorem met_get {n : Int} : (mget (metM l) n).getD false = decide (n ∈ l) := by
  suffices h : ∀ (l : List Int) (D : List (Int × Bool)) (a : Bool), (mget D n).getD false = a → (mget (l.foldl (fun D n => mupd D n true) D) n).getD false = (a || decide (n ∈ l)) by
    have := h l [] false rfl
    rwa [Bool.false_or] at this
  intro l
  induction l with
  | nil => intro D a h; simpa using h
  | cons r l ih =>
    intro D a h
    rw [List.foldl_cons]
    by_cases e : n = r
    · subst e
      rw [ih _ true (by rw [mu_get]; rfl)]
      simp
    · rw [ih _ a (by rw [mu_get_ne e]; exact h)]
      simp [e]
theorem wt_on (hI : wtB (metO ws j) (ts.drop j) (ws.drop j) = waitsV ts ws) (hx : ts[j]? = some x) (hy : ws[j]? = some y) (h1 : x.id = y.id) (h2 : decide (y.ord ∈ metO ws j) = false) (h3 : y.ord ≤ 4611686018427387904) :
    wtB (metO ws (j + 1)) (ts.drop (j + 1)) (ws.drop (j + 1)) = waitsV ts ws := by
  rw [← hI, drop_one hx, drop_one hy, wtB, decide_eq_true ⟨h1, of_decide_eq_false h2, h3⟩, Bool.true_and]
  unfold metO
  rw [take_one hy, List.map_append]
  rfl
theorem wt_no (hI : wtB (metO ws j) (ts.drop j) (ws.drop j) = waitsV ts ws) (hx : ts[j]? = some x) (hy : ws[j]? = some y) (h : x.id = y.id → decide (y.ord ∈ metO ws j) = false → ¬ y.ord ≤ 4611686018427387904) : waitsV ts ws = false := by
  rw [← hI, drop_one hx, drop_one hy, wtB, decide_eq_false (fun h2 => h h2.1 (decide_eq_false h2.2.1) h2.2.2), Bool.false_and]
theorem wt_end (hI : wtB (metO ws j) (ts.drop j) (ws.drop j) = waitsV ts ws) (h : ts.length ≤ j) (h2 : ws.length ≤ j) : waitsV ts ws = true := by
  rw [← hI, List.drop_eq_nil_of_le h, List.drop_eq_nil_of_le h2]; rfl
theorem wt_len' : ∀ (ts : List Rn) (ws : List Wt) (met : List Int), wtB met ts ws = true → ts.length = ws.length ∧ ∀ (i : Nat) (x : Rn) (y : Wt), ts[i]? = some x → ws[i]? = some y → x.id = y.id
  | [], [], _, _ => ⟨rfl, fun i x y h => by simp at h⟩
  | x :: ts, y :: ws, met, h => by
    rw [wtB, Bool.and_eq_true, decide_eq_true_eq] at h
    have ih := wt_len' ts ws _ h.2
    refine ⟨by simp [ih.1], fun i a b h1 h2 => ?_⟩
    cases i with
    | zero => cases h1; cases h2; exact h.1.1
    | succ i => exact ih.2 i a b (by simpa using h1) (by simpa using h2)
  | [], _ :: _, _, h => by cases h
  | _ :: _, [], _, h => by cases h
theorem wt_len (h : waitsV ts ws = true) : ts.length = ws.length := (wt_len' ts ws _ h).1
theorem wt_nolen (h : ¬ ts.length = ws.length) : waitsV ts ws = false := by
  cases e : waitsV ts ws with
  | false => rfl
  | true => exact absurd (wt_len e) h
theorem gr_on (hI : grB la (met ++ g.take i) (g.drop i) = grB 0 met g) (hx : g[i]? = some k) (h : la < k) (h2 : k ≤ 16) (h3 : decide (k ∈ met ++ g.take i) = false) : grB k (met ++ g.take (i + 1)) (g.drop (i + 1)) = grB 0 met g := by
  rw [← hI, drop_one hx, grB, decide_eq_true ⟨h, h2, of_decide_eq_false h3⟩, Bool.true_and, take_one hx, List.append_assoc]
theorem gr_no (hI : grB la (met ++ g.take i) (g.drop i) = grB 0 met g) (hx : g[i]? = some k) (h : la < k → k ≤ 16 → ¬ decide (k ∈ met ++ g.take i) = false) : grB 0 met g = false := by
  rw [← hI, drop_one hx, grB, decide_eq_false (fun h2 => h h2.1 h2.2.1 (decide_eq_false h2.2.2)), Bool.false_and]
theorem gr_end (hI : grB la (met ++ g.take i) (g.drop i) = grB 0 met g) (h : g.length ≤ i) : grB 0 met g = true := by
  rw [← hI, List.drop_eq_nil_of_le h]; rfl
theorem metG_on (hx : gs[j]? = some g) : metG gs (j + 1) = metG gs j ++ g := by unfold metG; rw [take_one hx, List.flatten_append]; simp
theorem ap_on (hI : apB (metG gs j) (gs.drop j) = apartV gs) (hx : gs[j]? = some g) (h0 : g ≠ []) (h : grB 0 (metG gs j) g = true) : apB (metG gs (j + 1)) (gs.drop (j + 1)) = apartV gs := by
  rw [← hI, drop_one hx, apB, decide_eq_true h0, h, Bool.true_and, Bool.true_and, metG_on hx]
theorem ap_nil (hI : apB (metG gs j) (gs.drop j) = apartV gs) (hx : gs[j]? = some g) (h0 : g = []) : apartV gs = false := by
  rw [← hI, drop_one hx, apB, decide_eq_false (fun h => h h0), Bool.false_and, Bool.false_and]
theorem ap_no (hI : apB (metG gs j) (gs.drop j) = apartV gs) (hx : gs[j]? = some g) (h : grB 0 (metG gs j) g = false) : apartV gs = false := by
  rw [← hI, drop_one hx, apB, h, Bool.and_false, Bool.false_and]
theorem ap_end (hI : apB (metG gs j) (gs.drop j) = apartV gs) (h : gs.length ≤ j) : apartV gs = true := by
  rw [← hI, List.drop_eq_nil_of_le h]; rfl
theorem co_q (h : chkQ ts = false) : chkO ts ws gs = 200 := by unfold chkO; rw [if_pos h]
theorem co_w (h : chkQ ts = true) (h2 : waitsV ts ws = false) : chkO ts ws gs = 220 := by unfold chkO; rw [if_neg (by rw [h]; decide), h2]; rfl
theorem co_a (h : chkQ ts = true) (h2 : apartV gs = false) : chkO ts ws gs = 220 := by unfold chkO; rw [if_neg (by rw [h]; decide), h2, Bool.and_false]; rfl
theorem co_ok (h : chkQ ts = true) (h2 : waitsV ts ws = true) (h3 : apartV gs = true) : chkO ts ws gs = 0 := by unfold chkO; rw [if_neg (by rw [h]; decide), h2, h3]; rfl
theorem co_iff : chkO ts ws gs = 0 ↔ chkQ ts = true ∧ waitsV ts ws = true ∧ apartV gs = true := by
  unfold chkO
  cases chkQ ts <;> cases waitsV ts ws <;> cases apartV gs <;> simp
theorem gr_mem : ∀ (g : List Int) (la : Int) (met : List Int), grB la met g = true → Ris (fun x => x) g ∧ ∀ x ∈ g, la < x ∧ x ≤ 16 ∧ x ∉ met
  | [], _, _, _ => ⟨List.Pairwise.nil, fun x h => by cases h⟩
  | a :: r, la, met, h => by
    rw [grB, Bool.and_eq_true, decide_eq_true_eq] at h
    obtain ⟨h1, h2⟩ := gr_mem r a (met ++ [a]) h.2
    refine ⟨List.pairwise_cons.2 ⟨fun b hb => (h2 b hb).1, h1⟩, fun x hx => ?_⟩
    rcases List.mem_cons.1 hx with rfl | hx
    · exact h.1
    · have h3 := h2 x hx
      exact ⟨by omega, h3.2.1, fun hm => h3.2.2 (List.mem_append_left _ hm)⟩
theorem ap_mem : ∀ (gs : List (List Int)) (met : List Int), apB met gs = true → (∀ g ∈ gs, g ≠ [] ∧ Ris (fun x => x) g ∧ ∀ x ∈ g, 1 ≤ x ∧ x ≤ 16 ∧ x ∉ met) ∧ gs.Pairwise fun a b => ∀ x ∈ a, x ∉ b
  | [], _, _ => ⟨(fun g h => by cases h), List.Pairwise.nil⟩
  | a :: r, met, h => by
    rw [apB, Bool.and_eq_true, Bool.and_eq_true, decide_eq_true_eq] at h
    obtain ⟨h1, h2⟩ := gr_mem a 0 met h.1.2
    obtain ⟨h3, h4⟩ := ap_mem r (met ++ a) h.2
    refine ⟨fun g hg => ?_, List.pairwise_cons.2 ⟨fun b hb x hx hx2 => ((h3 b hb).2.2 x hx2).2.2 (List.mem_append_right _ hx), h4⟩⟩
    rcases List.mem_cons.1 hg with rfl | hg
    · exact ⟨h.1.1, h1, fun x hx => by have := h2 x hx; exact ⟨by omega, this.2⟩⟩
    · have h5 := h3 g hg
      exact ⟨h5.1, h5.2.1, fun x hx => by have := h5.2.2 x hx; exact ⟨this.1, this.2.1, fun hm => this.2.2 (List.mem_append_left _ hm)⟩⟩
theorem gn_none : ∀ (l : List (List Int)) (a i : Nat), (∀ g ∈ l, k ∉ g) → gnF a i l k = a
  | [], _, _, _ => rfl
  | g :: r, a, i, h => by
    rw [gnF, if_neg (h g (List.mem_cons_self ..))]
    exact gn_none r a (i + 1) fun g hg => h g (List.mem_cons_of_mem _ hg)
theorem gn_at : ∀ (l : List (List Int)) (a i n : Nat), l.Pairwise (fun a b => ∀ x ∈ a, x ∉ b) → l[n]? = some g → k ∈ g → gnF a i l k = i + n + 1
  | [], _, _, _, _, h, _ => by simp at h
  | b :: r, a, i, 0, hp, h, hk => by
    cases h
    rw [gnF, if_pos hk, gn_none r _ _ fun c hc => (List.pairwise_cons.1 hp).1 c hc k hk]
  | b :: r, a, i, n + 1, hp, h, hk => by
    rw [gnF, gn_at r _ (i + 1) n (List.pairwise_cons.1 hp).2 (by simpa using h) hk]
    omega
theorem gn_snoc : ∀ (l : List (List Int)) (a i : Nat), gnF a i (l ++ [g]) k = if k ∈ g then i + l.length + 1 else gnF a i l k
  | [], a, i => by rw [List.nil_append, gnF, gnF, gnF]; rfl
  | b :: r, a, i => by
    rw [List.cons_append, gnF, gn_snoc r, gnF, List.length_cons]
    split
    · omega
    · rfl
theorem gn_le : ∀ (l : List (List Int)) (a i : Nat), a ≤ i → gnF a i l k ≤ i + l.length
  | [], a, i, h => by rw [gnF]; simpa using h
  | b :: r, a, i, h => by
    rw [gnF, List.length_cons]
    have := gn_le r (if k ∈ b then i + 1 else a) (i + 1) (by split <;> omega)
    omega
theorem gnV_le : gnV gs k ≤ gs.length := by have := gn_le (k := k) gs 0 0 (Nat.le_refl _); unfold gnV; omega
theorem gn_iff (ha : apartV gs = true) : gnV gs k = n + 1 ↔ ∃ g, gs[n]? = some g ∧ k ∈ g := by
  have hp := (ap_mem gs [] ha).2
  constructor
  · intro h
    by_cases hn : ∀ g ∈ gs, k ∉ g
    · unfold gnV at h; rw [gn_none gs 0 0 hn] at h; omega
    · simp only [Classical.not_forall, Decidable.not_not] at hn
      obtain ⟨g, hg, hk⟩ := hn
      obtain ⟨m, hm⟩ := List.mem_iff_getElem?.1 hg
      unfold gnV at h
      rw [gn_at gs 0 0 m hp hm hk] at h
      obtain rfl : m = n := by omega
      exact ⟨g, hm, hk⟩
  · rintro ⟨g, hg, hk⟩
    unfold gnV
    rw [gn_at gs 0 0 n hp hg hk]
    omega
theorem gn_zero (ha : apartV gs = true) : gnV gs k = 0 ↔ ∀ g ∈ gs, k ∉ g := by
  constructor
  · intro h g hg hk
    obtain ⟨m, hm⟩ := List.mem_iff_getElem?.1 hg
    have := (gn_iff (n := m) ha).2 ⟨g, hm, hk⟩
    omega
  · intro h; unfold gnV; exact gn_none gs 0 0 h
theorem fold_mem : ∀ (l : List Pr) (a : En), (l.foldl oneS a).mem = a.mem ++ l.map fun p => p.r.id
  | [], a => by simp
  | p :: l, a => by rw [List.foldl_cons, fold_mem l]; simp [oneS]
theorem one_mem : (entO F).mem = F.map fun p => p.r.id := by
  unfold entO
  rw [fold_mem]
  cases F <;> rfl
theorem fold_t {P : Fq → Prop} : ∀ (l : List Pr) (a : En), P a.t → (∀ p ∈ l, P p.r.t) → P (l.foldl oneS a).t
  | [], _, h, _ => h
  | p :: l, a, h, hl => by
    rw [List.foldl_cons]
    refine fold_t l _ ?_ fun q hq => hl q (List.mem_cons_of_mem _ hq)
    unfold oneS
    simp only
    split
    · exact hl p (List.mem_cons_self ..)
    · exact h
theorem one_t {P : Fq → Prop} (h : F ≠ []) (hl : ∀ p ∈ F, P p.r.t) : P (entO F).t := by
  unfold entO
  refine fold_t F _ ?_ hl
  cases F with
  | nil => exact absurd rfl h
  | cons p l => exact hl p (List.mem_cons_self ..)
theorem fold_o {P : Int → Prop} : ∀ (l : List Pr) (a : En), P a.ord → (∀ p ∈ l, P p.w.ord) → P (l.foldl oneS a).ord
  | [], _, h, _ => h
  | p :: l, a, h, hl => by
    rw [List.foldl_cons]
    refine fold_o l _ ?_ fun q hq => hl q (List.mem_cons_of_mem _ hq)
    unfold oneS
    simp only
    split
    · exact hl p (List.mem_cons_self ..)
    · exact h
theorem one_o {P : Int → Prop} (h : F ≠ []) (hl : ∀ p ∈ F, P p.w.ord) : P (entO F).ord := by
  unfold entO
  refine fold_o F _ ?_ hl
  cases F with
  | nil => exact absurd rfl h
  | cons p l => exact hl p (List.mem_cons_self ..)
theorem one_right (h : F ≠ []) (hl : ∀ p ∈ F, p.r.t.ok = true) : rightE (entO F) = true := by
  refine rt_yes ?_ (one_t (P := fun f => f.ok = true) h hl)
  rw [one_mem, List.length_map]
  exact List.length_pos_iff.2 h
theorem one_first {r : List Pr} : firstM (entO (p :: r)) = p.r.id := first_at (by rw [one_mem]; rfl)
theorem pairs_len (h : ts.length = ws.length) : (pairsV ts ws).length = ts.length := by unfold pairsV; rw [List.length_zipWith]; omega
theorem pairs_at (hx : ts[j]? = some x) (hy : ws[j]? = some y) : (pairsV ts ws)[j]? = some ⟨x, y⟩ := by unfold pairsV; rw [List.getElem?_zipWith, hx, hy]
theorem pairs_r : ∀ {ts : List Rn} {ws : List Wt}, ts.length = ws.length → (pairsV ts ws).map Pr.r = ts
  | [], [], _ => rfl
  | x :: ts, y :: ws, h => by
    have := pairs_r (ts := ts) (ws := ws) (by simpa using h)
    unfold pairsV at *
    rw [List.zipWith_cons_cons, List.map_cons, this]
  | [], _ :: _, h => by cases h
  | _ :: _, [], h => by cases h
theorem pairs_mem {ts : List Rn} {ws : List Wt} (h : p ∈ pairsV ts ws) : p.r ∈ ts ∧ p.w ∈ ws := by
  obtain ⟨i, hi⟩ := List.mem_iff_getElem?.1 h
  unfold pairsV at hi
  rw [List.getElem?_zipWith] at hi
  cases e1 : ts[i]? with
  | none => rw [e1] at hi; cases hi
  | some a =>
    cases e2 : ws[i]? with
    | none => rw [e1, e2] at hi; cases hi
    | some b =>
      rw [e1, e2] at hi
      cases hi
      exact ⟨List.mem_of_getElem? e1, List.mem_of_getElem? e2⟩
theorem ne_some (h : F ≠ []) : neO F = some (entO F) := by unfold neO; rw [if_neg (by simpa using h)]
theorem ne_nil : neO [] = none := rfl
theorem rowP_z (gs : List (List Int)) (zs : List Pr) : ((List.range (gs.length + 1)).map (rowP gs zs)).filterMap neO = (List.range gs.length).filterMap fun n => neO (rowZ gs zs (n + 1)) := by
  rw [List.range_succ_eq_map, List.map_cons, List.filterMap_cons]
  rw [show neO (rowP gs zs 0) = none from rfl]
  simp only [List.map_map, List.filterMap_map]
  rfl
theorem entD_gang (ha : apartV gs = true) (zs : List Pr) : gs.filterMap (entD zs) = (List.range gs.length).filterMap fun n => neO (rowZ gs zs (n + 1)) := by
  have e : gs = (List.range gs.length).map fun n => gs.getD n [] := by
    apply List.ext_getElem?
    intro n
    rw [List.getElem?_map]
    by_cases hn : n < gs.length
    · rw [List.getElem?_range hn]; simp [List.getD, hn]
    · rw [List.getElem?_eq_none (by omega), List.getElem?_eq_none (by simpa using hn)]; rfl
  conv => lhs; rw [e, List.filterMap_map]
  apply fm_congr
  intro n hn
  have hn' : n < gs.length := by simpa using hn
  show entD zs (gs.getD n []) = _
  unfold entD rowZ
  congr 1
  apply List.filter_congr
  intro p _
  rw [decide_eq_decide, gn_iff ha]
  have hg : gs[n]? = some (gs.getD n []) := by simp [List.getD, hn']
  constructor
  · exact fun h => ⟨_, hg, h⟩
  · rintro ⟨g, h1, h2⟩
    rw [hg] at h1; cases h1; exact h2
theorem filter_own : ∀ {zs : List Pr}, (zs.map fun p => p.r.id).Nodup → p ∈ zs → (zs.filter fun q => decide (q.r.id ∈ [p.r.id])) = [p]
  | [], _, h => by cases h
  | a :: r, hn, h => by
    have hn' := List.nodup_cons.1 (by simpa using hn : (a.r.id :: r.map fun p => p.r.id).Nodup)
    rcases List.mem_cons.1 h with rfl | h
    · rw [List.filter_cons, if_pos (by simp)]
      congr 1
      rw [List.filter_eq_nil_iff]
      intro q hq
      simp only [List.mem_singleton, decide_eq_true_eq]
      exact fun e => hn'.1 (List.mem_map.2 ⟨q, hq, e⟩)
    · rw [List.filter_cons, if_neg (by
        simp only [List.mem_singleton, decide_eq_true_eq]
        exact fun e => hn'.1 (List.mem_map.2 ⟨p, h, e.symm⟩))]
      exact filter_own hn'.2 h
theorem ids_nodup (hq : chkQ ts = true) (h : ts.length = ws.length) : ((pairsV ts ws).map fun p => p.r.id).Nodup := by
  have e : ((pairsV ts ws).map fun p => p.r.id) = ts.map Rn.id := by
    rw [show (fun p : Pr => p.r.id) = Rn.id ∘ Pr.r from rfl, ← List.map_map, pairs_r h]
  rw [e]
  have hr := (chk_iff.1 hq).rs
  unfold Ris at hr
  unfold List.Nodup
  rw [List.pairwise_map]
  exact hr.imp fun {a b} h e => by omega
theorem raw_perm (hq : chkQ ts = true) (hw : waitsV ts ws = true) (ha : apartV gs = true) : (rawV gs (pairsV ts ws)).Perm (rawD ts ws gs) := by
  have hl := wt_len hw
  have hn := ids_nodup (ws := ws) hq hl
  unfold rawV rawD rowsD
  rw [rowP_z, List.filterMap_append, entD_gang ha]
  refine List.perm_append_comm.trans (List.Perm.append_left _ ?_)
  rw [show ts.filter (aloneD gs) = ((pairsV ts ws).filter fun p => aloneD gs p.r).map Pr.r from by
    conv => lhs; rw [← pairs_r hl]
    rw [List.filter_map]; rfl]
  rw [List.map_map, List.filterMap_map]
  have e : rowZ gs (pairsV ts ws) 0 = (pairsV ts ws).filter fun p => aloneD gs p.r := by
    unfold rowZ
    apply List.filter_congr
    intro p _
    unfold aloneD
    rw [Bool.eq_iff_iff, decide_eq_true_eq, gn_zero ha, List.all_eq_true]
    simp
  unfold singZ
  rw [e, ← List.filterMap_eq_map]
  apply List.Perm.of_eq
  apply fm_congr
  intro p hp
  have hp' := (List.mem_filter.1 hp).1
  show some (entO [p]) = entD (pairsV ts ws) [p.r.id]
  unfold entD
  rw [filter_own hn hp']
  rfl
theorem raw_in {e : En} (he : e ∈ rawV gs zs) : ∃ F, F ≠ [] ∧ (∀ p ∈ F, p ∈ zs) ∧ e = entO F ∧ ∃ n, ∀ p ∈ F, gnV gs p.r.id = n := by
  unfold rawV at he
  rcases List.mem_append.1 he with h | h
  · obtain ⟨p, hp, rfl⟩ := List.mem_map.1 h
    have h2 := List.mem_filter.1 hp
    exact ⟨[p], by simp, fun q hq => by rw [List.mem_singleton.1 hq]; exact h2.1, rfl, _, fun q hq => by rw [List.mem_singleton.1 hq]⟩
  · rw [rowP_z] at h
    obtain ⟨n, _, h2⟩ := List.mem_filterMap.1 h
    unfold neO at h2
    split at h2
    · cases h2
    · rename_i hne
      simp only [Option.some.injEq] at h2
      subst h2
      exact ⟨rowZ gs zs (n + 1), fun e => hne (by rw [e]; rfl), fun p hp => (List.mem_filter.1 hp).1, rfl, n + 1, fun p hp => of_decide_eq_true (List.mem_filter.1 hp).2⟩
theorem first_in (h : F ≠ []) : ∃ p ∈ F, firstM (entO F) = p.r.id := by
  cases F with
  | nil => exact absurd rfl h
  | cons p r => exact ⟨p, List.mem_cons_self .., one_first⟩
theorem raw_nodup (hn : (zs.map fun p => p.r.id).Nodup) : ((rawV gs zs).map firstM).Nodup := by
  unfold rawV
  rw [rowP_z, List.map_append, List.nodup_append]
  refine ⟨?_, ?_, ?_⟩
  · unfold singZ
    rw [List.map_map, show (firstM ∘ fun p => entO [p]) = fun p : Pr => p.r.id from funext fun p => one_first]
    exact hn.sublist (List.filter_sublist.map _)
  · suffices h : ∀ (l : List Nat), l.Nodup → (((l.filterMap fun n => neO (rowZ gs zs (n + 1))).map firstM).Nodup ∧ ∀ k ∈ (l.filterMap fun n => neO (rowZ gs zs (n + 1))).map firstM, ∃ n ∈ l, gnV gs k = n + 1) from (h _ List.nodup_range).1
    intro l
    induction l with
    | nil => exact fun _ => ⟨List.Pairwise.nil, fun k h => by cases h⟩
    | cons a r ih =>
      intro hl
      have hl' := List.nodup_cons.1 hl
      obtain ⟨h1, h2⟩ := ih hl'.2
      rw [List.filterMap_cons]
      by_cases hF : rowZ gs zs (a + 1) = []
      · rw [hF, ne_nil]
        exact ⟨h1, fun k hk => by obtain ⟨n, hn, e⟩ := h2 k hk; exact ⟨n, List.mem_cons_of_mem _ hn, e⟩⟩
      · rw [ne_some hF]
        obtain ⟨p, hp, e⟩ := first_in hF
        have hg : gnV gs (firstM (entO (rowZ gs zs (a + 1)))) = a + 1 := by rw [e]; exact of_decide_eq_true (List.mem_filter.1 hp).2
        simp only [List.map_cons]
        refine ⟨List.nodup_cons.2 ⟨fun hm => ?_, h1⟩, fun k hk => ?_⟩
        · obtain ⟨n, hn, e2⟩ := h2 _ hm
          have : n = a := by omega
          subst this
          exact hl'.1 hn
        · rcases List.mem_cons.1 hk with rfl | hk
          · exact ⟨a, List.mem_cons_self .., hg⟩
          · obtain ⟨n, hn, e2⟩ := h2 k hk; exact ⟨n, List.mem_cons_of_mem _ hn, e2⟩
  · intro a ha b hb e
    subst e
    obtain ⟨u, hu, rfl⟩ := List.mem_map.1 ha
    obtain ⟨p, hp, rfl⟩ := List.mem_map.1 hu
    obtain ⟨v, hv, e⟩ := List.mem_map.1 hb
    obtain ⟨n, _, h2⟩ := List.mem_filterMap.1 hv
    unfold neO at h2
    split at h2
    · cases h2
    · rename_i hne
      simp only [Option.some.injEq] at h2
      subst h2
      obtain ⟨q, hq, e2⟩ := first_in (F := rowZ gs zs (n + 1)) (fun e => hne (by rw [e]; rfl))
      rw [one_first, e2] at e
      have h3 := of_decide_eq_true (List.mem_filter.1 hq).2
      have h4 := of_decide_eq_true (List.mem_filter.1 hp).2
      rw [e, h4] at h3
      omega
theorem raw_right (hq : chkQ ts = true) {e : En} (he : e ∈ rawV gs (pairsV ts ws)) : rightE e = true := by
  obtain ⟨F, hF, hz, rfl, _⟩ := raw_in he
  exact one_right hF fun p hp => ((chk_iff.1 hq).bnd (pairs_mem (hz p hp)).1).2.2.2.2
/-- What is a sorted row of the raw entities is the document's row. -/
theorem doc_of (hq : chkQ ts = true) (hw : waitsV ts ws = true) (ha : apartV gs = true) {l : List En} (hp : l.Perm (rawV gs (pairsV ts ws))) (hs : SortP l) : l = docV ts ws gs := by
  have hr := raw_perm hq hw ha
  refine srt_uniq (fun x hx => raw_right (gs := gs) (ws := ws) hq (hr.mem_iff.2 hx)) ?_ (hp.trans hr) hs
  exact (hr.map firstM).nodup_iff.1 (raw_nodup (ids_nodup hq (wt_len hw)))
end
end Go.Proofs.Ytoljahfofkmdaaa

/-! The entity of some runners, step by step; plain. -/
namespace Go.Proofs.Ytoljahfofkmdaaa
open Go Go.RowKit
def memP (l : List Pr) (j : Nat) : List Int := (l.take j).map fun p => p.r.id
section
variable {l : List Pr} {x : Pr} {j : Nat} {f f' : Fq} {od od' : Int} {fb fb' : Bool}
theorem metO_on {ws : List Wt} {y : Wt} (hy : ws[j]? = some y) : metO ws (j + 1) = metO ws j ++ [y.ord] := by unfold metO; rw [take_one hy, List.map_append]; rfl
theorem gs_at {al : List IntsA} {x : IntsA} (hx : al[j]? = some x) : (al.map IntsA.l)[j]? = some x.l := by rw [List.getElem?_map, hx]; rfl
theorem memP_on (hx : l[j]? = some x) : memP l (j + 1) = memP l j ++ [x.r.id] := by unfold memP; rw [take_one hx, List.map_append]; rfl
theorem one_0T (hx : l[0]? = some x) : (l.take 0).foldl oneS (oneI l) = ⟨memP l 0, x.r.t, x.w.ord, true⟩ := by
  cases l with
  | nil => cases hx
  | cons y r => cases hx; rfl
theorem one_onT (hx : l[j]? = some x) (hE : (l.take j).foldl oneS (oneI l) = ⟨memP l j, f, od, fb⟩) (h1 : f' = if 0 < cmpF x.r.t f then x.r.t else f) (h2 : od' = if x.w.ord < od then x.w.ord else od) (h3 : fb' = (fb && x.w.fresh)) :
    (l.take (j + 1)).foldl oneS (oneI l) = ⟨memP l (j + 1), f', od', fb'⟩ := by
  rw [take_one hx, List.foldl_append, hE, memP_on hx, h1, h2, h3]
  rfl
theorem one_endT (hj : l.length ≤ j) (hE : (l.take j).foldl oneS (oneI l) = ⟨memP l j, f, od, fb⟩) : entO l = ⟨memP l j, f, od, fb⟩ := by
  rw [List.take_of_length_le hj] at hE
  exact hE
end
end Go.Proofs.Ytoljahfofkmdaaa

/-! Entities: what is looked at of them; plain. -/
namespace Go.Proofs.Ytoljahfofkmdaaa
open Go Go.RowKit

/-- Three that are told. -/
theorem three_at {α β : Type} {f : α → β} {el : List α} {a b c : β} (h : el.map f = [a, b, c]) : ∃ x y z, el[0]? = some x ∧ el[1]? = some y ∧ el[2]? = some z ∧ f x = a ∧ f y = b ∧ f z = c ∧ el.length = 3 := by
  match el, h with
  | [x, y, z], h =>
    simp only [List.map_cons, List.map_nil, List.cons.injEq, and_true] at h
    exact ⟨x, y, z, rfl, rfl, rfl, h.1, h.2.1, h.2.2, rfl⟩
theorem two_at {α β : Type} {f : α → β} {el : List α} {a b : β} (h : el.map f = [a, b]) : ∃ x y, el[0]? = some x ∧ el[1]? = some y ∧ f x = a ∧ f y = b ∧ el.length = 2 := by
  match el, h with
  | [x, y], h =>
    simp only [List.map_cons, List.map_nil, List.cons.injEq, and_true] at h
    exact ⟨x, y, rfl, rfl, h.1, h.2, rfl⟩
/-- An entity of at most so many members. -/
def cutE (e : En) : En := ⟨e.mem.take 17, e.t, e.ord, e.fresh⟩
/-- What is gone through. -/
def fewE (l : List En) : List En := (l.take 20).map cutE
/-- The first ahead of which none stands. -/
def firstE (l : List En) : Option En := l.find? fun x => rightE x && l.all fun y => !aheadE y x
def hasE (k : Int) (x : En) : Bool := decide (k ∈ x.mem)
section
variable {al bl : List EnA} {x y : EnA} {j : Nat} {e : En} {l : List En} {k : Int}
end
end Go.Proofs.Ytoljahfofkmdaaa

/-! Entities: the first, the place, the same; plain. -/
namespace Go.Proofs.Ytoljahfofkmdaaa
open Go Go.RowKit

section
variable {α : Type} {l : List α} {pd : α → Bool} {i : Nat} {x : α}
end
/-- None stands ahead of it. -/
def goodA (al : List EnA) (x : EnA) : Bool := rightE x.val && al.all fun y => !aheadE y.val x.val
def firstA (al : List EnA) : Option EnA := al.find? (goodA al)
def zE : EnA := ⟨none, 0, 0, [], 0, 0, 0, 0, false⟩
def hasA (k : Int) (x : EnA) : Bool := decide (k ∈ x.l)
/-- The place of the first entity that has a member, or -1. -/
def idxE (k : Int) (l : List En) : Int := idxF (hasE k) l
def plc (k : Int) (l : List En) : Int := if idxE k l < 0 then 0 else idxE k l
section
variable {al bl : List EnA} {x y : EnA} {j : Nat} {a b : En} {w : World} {u v k : Int} {bb : Bool}
/-- So far none stands ahead of it. -/
def bestA (al : List EnA) (x : EnA) (j : Nat) : Bool := rightE x.val && (al.take j).all fun y => !aheadE y.val x.val
theorem rt_first (h : rightE x.val = true) : 0 < x.l.length := (rt_iff.1 h).1
end
section
variable {l : List Int} {n k : Int} {j : Nat}
end
theorem map_at12 {α β : Type} {f : α → β} {l : List α} {j : Nat} {x : α} (h : l[j]? = some x) : (l.map f)[j]? = some (f x) := by rw [List.getElem?_map, h]; rfl
end Go.Proofs.Ytoljahfofkmdaaa

/-! Entities: the same place in the order; one order; plain. -/
namespace Go.Proofs.Ytoljahfofkmdaaa
open Go Go.RowKit

def likeE (a b : En) : Bool := decide (a.fresh = b.fresh ∧ cmpF a.t b.t = 0 ∧ a.ord = b.ord ∧ firstM a = firstM b)
section
variable {a b c : En} {x y : EnA} {u v : Int}
theorem like_tie (ha : rightE a = true) (hb : rightE b = true) : likeE a b = true ↔ TieP a b := by
  unfold likeE TieP
  rw [decide_eq_true_eq, cmpF_p (rt_iff.1 ha).2 (rt_iff.1 hb).2, cmpI_neg'.2]
theorem like_y (h1 : a.fresh = b.fresh) (h2 : cmpF a.t b.t = 0) (h3 : a.ord = b.ord) (hx : a.mem[0]? = some u) (hy : b.mem[0]? = some v) (h4 : u = v) : likeE a b = true := by
  unfold likeE
  rw [first_at hx, first_at hy, decide_eq_true_eq]
  exact ⟨h1, h2, h3, h4⟩
theorem like_f (h : ¬ a.fresh = b.fresh) : likeE a b = false := by unfold likeE; exact decide_eq_false fun e => h e.1
theorem like_t' (h : ¬ cmpF a.t b.t = 0) : likeE a b = false := by unfold likeE; exact decide_eq_false fun e => h e.2.1
theorem like_o (h : ¬ a.ord = b.ord) : likeE a b = false := by unfold likeE; exact decide_eq_false fun e => h e.2.2.1
theorem like_m (hx : a.mem[0]? = some u) (hy : b.mem[0]? = some v) (h : ¬ u = v) : likeE a b = false := by unfold likeE; rw [first_at hx, first_at hy]; exact decide_eq_false fun e => h e.2.2.2
end
end Go.Proofs.Ytoljahfofkmdaaa

/-! The document's entities: each runner is in one of them; each stands ahead of those behind it; plain. -/
namespace Go.Proofs.Ytoljahfofkmdaaa
open Go Go.RowKit

/-- Not less, as fractions that may be. -/
def GeF (f g : Fq) : Prop := ¬ cmpF f g < 0
section
variable {f g h : Fq}
end
theorem split_perm {α : Type} (f : α → Nat) (zs : List α) : ∀ N, (zs.filter fun p => decide (f p < N)).Perm ((List.range N).flatMap fun n => zs.filter fun p => decide (f p = n))
  | 0 => by simp
  | N + 1 => by
    rw [List.range_succ, List.flatMap_append, List.flatMap_singleton]
    have h1 := List.filter_append_perm (fun p => decide (f p < N)) (zs.filter fun p => decide (f p < N + 1))
    have e1 : ((zs.filter fun p => decide (f p < N + 1)).filter fun p => decide (f p < N)) = zs.filter fun p => decide (f p < N) := by
      rw [List.filter_filter]
      apply List.filter_congr
      intro p _
      rw [← Bool.decide_and, decide_eq_decide]
      omega
    have e2 : ((zs.filter fun p => decide (f p < N + 1)).filter fun p => !decide (f p < N)) = zs.filter fun p => decide (f p = N) := by
      rw [List.filter_filter]
      apply List.filter_congr
      intro p _
      rw [Bool.eq_iff_iff]
      simp only [Bool.and_eq_true, Bool.not_eq_true', decide_eq_false_iff_not, decide_eq_true_eq]
      omega
    rw [e1, e2] at h1
    exact h1.symm.trans ((split_perm f zs N).append_right _)
section
variable {ts : List Rn} {ws : List Wt} {gs : List (List Int)} {a b e : En} {i j : Nat} {k : Int} {zs : List Pr} {y : Rn}
theorem raw_mems : ((rawV gs zs).flatMap En.mem).Perm (zs.map fun p => p.r.id) := by
  have e1 : (singZ gs zs).flatMap En.mem = (rowZ gs zs 0).map fun p => p.r.id := by
    unfold singZ
    rw [List.flatMap_map]
    induction rowZ gs zs 0 with
    | nil => rfl
    | cons p r ih => rw [List.flatMap_cons, ih, List.map_cons, one_mem]; rfl
  have e2 : ∀ l : List Nat, (l.filterMap fun n => neO (rowZ gs zs (n + 1))).flatMap En.mem = (l.flatMap fun n => rowZ gs zs (n + 1)).map fun p => p.r.id := by
    intro l
    induction l with
    | nil => rfl
    | cons n r ih =>
      rw [List.filterMap_cons, List.flatMap_cons, List.map_append, ← ih]
      by_cases hF : rowZ gs zs (n + 1) = []
      · rw [hF, ne_nil]; rfl
      · rw [ne_some hF]; simp only [List.flatMap_cons]; rw [one_mem]
  unfold rawV
  rw [rowP_z, List.flatMap_append, e1, e2, ← List.map_append]
  apply List.Perm.map
  have h1 := split_perm (fun p : Pr => gnV gs p.r.id) zs (gs.length + 1)
  have e3 : (zs.filter fun p => decide (gnV gs p.r.id < gs.length + 1)) = zs := by
    rw [List.filter_eq_self]
    intro p _
    have := gnV_le (gs := gs) (k := p.r.id)
    exact decide_eq_true (by omega)
  rw [e3, List.range_succ_eq_map, List.flatMap_cons, List.flatMap_map] at h1
  exact h1.symm
theorem doc_perm (h : chkO ts ws gs = 0) : (docV ts ws gs).Perm (rawV gs (pairsV ts ws)) := by
  obtain ⟨hq, hw, ha⟩ := co_iff.1 h
  exact srtE_perm.trans (raw_perm hq hw ha).symm
theorem doc_right (h : chkO ts ws gs = 0) (he : e ∈ docV ts ws gs) : rightE e = true := raw_right (co_iff.1 h).1 ((doc_perm h).mem_iff.1 he)
theorem doc_sort (h : chkO ts ws gs = 0) : SortP (docV ts ws gs) := srtE_sort fun y hy => doc_right h (srtE_perm.mem_iff.2 hy)
theorem doc_mems (h : chkO ts ws gs = 0) : ((docV ts ws gs).flatMap En.mem).Perm (ts.map Rn.id) := by
  obtain ⟨hq, hw, ha⟩ := co_iff.1 h
  refine ((doc_perm h).flatMap_right En.mem).trans (raw_mems.trans (List.Perm.of_eq ?_))
  rw [show (fun p : Pr => p.r.id) = Rn.id ∘ Pr.r from rfl, ← List.map_map, pairs_r (wt_len hw)]
theorem doc_len (h : chkO ts ws gs = 0) : ((docV ts ws gs).flatMap En.mem).length = ts.length := by rw [(doc_mems h).length_eq, List.length_map]
/-- The members of the first so many. -/
def cntE (l : List EnA) (i : Nat) : Nat := ((l.take i).flatMap EnA.l).length
theorem doc_small (h : chkO ts ws gs = 0) : (docV ts ws gs).length ≤ 1000 := by
  have h1 := doc_len h
  have h2 : ts.length ≤ 16 := (chk_iff.1 (co_iff.1 h).1).len
  have h3 : (docV ts ws gs).length ≤ ((docV ts ws gs).flatMap En.mem).length := by
    have hr := fun e (he : e ∈ docV ts ws gs) => (rt_iff.1 (doc_right h he)).1
    generalize docV ts ws gs = l at hr
    induction l with
    | nil => exact Nat.zero_le _
    | cons a r ih =>
      rw [List.flatMap_cons, List.length_append, List.length_cons]
      have := hr a (List.mem_cons_self ..)
      have := ih fun e he => hr e (List.mem_cons_of_mem _ he)
      omega
  omega
end
end Go.Proofs.Ytoljahfofkmdaaa

/-! The document's entities, whatever the order of the gangs; plain. -/
namespace Go.Proofs.Ytoljahfofkmdaaa
open Go Go.RowKit

section
variable {gs gs' : List (List Int)} {ts : List Rn} {ws : List Wt} {a e : En}
theorem gr_of : ∀ (g : List Int) (la : Int) (met : List Int), Ris (fun x => x) g → (∀ x ∈ g, la < x ∧ x ≤ 16 ∧ x ∉ met) → grB la met g = true
  | [], _, _, _, _ => rfl
  | x :: r, la, met, hr, hm => by
    have hr' := List.pairwise_cons.1 hr
    rw [grB, Bool.and_eq_true, decide_eq_true_eq]
    refine ⟨hm x (List.mem_cons_self ..), gr_of r x (met ++ [x]) hr'.2 fun y hy => ?_⟩
    have h1 := hm y (List.mem_cons_of_mem _ hy)
    have h2 : x < y := hr'.1 y hy
    refine ⟨h2, h1.2.1, fun h => ?_⟩
    rcases List.mem_append.1 h with h | h
    · exact h1.2.2 h
    · have := List.mem_singleton.1 h; omega
theorem ap_of : ∀ (gs : List (List Int)) (met : List Int), (∀ g ∈ gs, g ≠ [] ∧ Ris (fun x => x) g ∧ ∀ x ∈ g, 1 ≤ x ∧ x ≤ 16 ∧ x ∉ met) → (gs.Pairwise fun a b => ∀ x ∈ a, x ∉ b) → apB met gs = true
  | [], _, _, _ => rfl
  | g :: r, met, h, hp => by
    have hp' := List.pairwise_cons.1 hp
    have hg := h g (List.mem_cons_self ..)
    rw [apB, Bool.and_eq_true, Bool.and_eq_true, decide_eq_true_eq]
    refine ⟨⟨hg.1, gr_of g 0 met hg.2.1 fun x hx => by have := hg.2.2 x hx; exact ⟨by omega, this.2⟩⟩, ap_of r (met ++ g) (fun k hk => ?_) hp'.2⟩
    have hk' := h k (List.mem_cons_of_mem _ hk)
    refine ⟨hk'.1, hk'.2.1, fun x hx => ?_⟩
    have h1 := hk'.2.2 x hx
    refine ⟨h1.1, h1.2.1, fun hm => ?_⟩
    rcases List.mem_append.1 hm with h2 | h2
    · exact h1.2.2 h2
    · exact hp'.1 k hk x h2 hx
theorem ap_iff : apartV gs = true ↔ (∀ g ∈ gs, g ≠ [] ∧ Ris (fun x => x) g ∧ ∀ x ∈ g, 1 ≤ x ∧ x ≤ 16) ∧ gs.Pairwise fun a b => ∀ x ∈ a, x ∉ b := by
  constructor
  · intro h
    obtain ⟨h1, h2⟩ := ap_mem gs [] h
    exact ⟨fun g hg => ⟨(h1 g hg).1, (h1 g hg).2.1, fun x hx => ⟨((h1 g hg).2.2 x hx).1, ((h1 g hg).2.2 x hx).2.1⟩⟩, h2⟩
  · rintro ⟨h1, h2⟩
    exact ap_of gs [] (fun g hg => ⟨(h1 g hg).1, (h1 g hg).2.1, fun x hx => ⟨((h1 g hg).2.2 x hx).1, ((h1 g hg).2.2 x hx).2, by simp⟩⟩) h2
theorem apart_turn (h : gs'.Perm gs) : apartV gs' = apartV gs := by
  rw [Bool.eq_iff_iff, ap_iff, ap_iff]
  have hs : ∀ {a b : List Int}, (∀ x ∈ a, x ∉ b) → ∀ x ∈ b, x ∉ a := fun h x hx hy => h x hy hx
  rw [h.pairwise_iff (fun {a b} => hs)]
  constructor
  · exact fun ⟨h1, h2⟩ => ⟨fun g hg => h1 g (h.mem_iff.2 hg), h2⟩
  · exact fun ⟨h1, h2⟩ => ⟨fun g hg => h1 g (h.mem_iff.1 hg), h2⟩
theorem chk_turn (h : gs'.Perm gs) : chkO ts ws gs' = chkO ts ws gs := by unfold chkO; rw [apart_turn h]
theorem rawD_turn (h : gs'.Perm gs) : (rawD ts ws gs').Perm (rawD ts ws gs) := by
  unfold rawD rowsD
  have e : aloneD gs' = aloneD gs := by
    funext r
    unfold aloneD
    rw [Bool.eq_iff_iff, List.all_eq_true, List.all_eq_true]
    exact ⟨fun h1 g hg => h1 g (h.mem_iff.2 hg), fun h1 g hg => h1 g (h.mem_iff.1 hg)⟩
  rw [e]
  exact (h.append_right _).filterMap _
theorem doc_turn (h : gs'.Perm gs) (hc : chkO ts ws gs = 0) : docV ts ws gs' = docV ts ws gs := by
  obtain ⟨hq, hw, ha⟩ := co_iff.1 hc
  have hr := raw_perm hq hw ha
  have hc' : chkO ts ws gs' = 0 := by rw [chk_turn h]; exact hc
  unfold docV
  refine srt_uniq (fun x hx => raw_right (gs := gs) (ws := ws) hq (hr.mem_iff.2 hx)) ((hr.map firstM).nodup_iff.1 (raw_nodup (ids_nodup hq (wt_len hw)))) (srtE_perm.trans (rawD_turn h)) ?_
  exact doc_sort hc'
theorem ents_turn (h : gs'.Perm gs) : (if chkO ts ws gs' = 0 then docV ts ws gs' else []) = if chkO ts ws gs = 0 then docV ts ws gs else [] := by
  rw [chk_turn h]
  split
  · next hc => exact doc_turn h hc
  · rfl
theorem ents_right (he : e ∈ if chkO ts ws gs = 0 then docV ts ws gs else []) : rightE e = true := by
  split at he
  · next hc => exact doc_right hc he
  · cases he
theorem ents_len : (if chkO ts ws gs = 0 then docV ts ws gs else []).length ≤ 1000 := by
  split
  · next hc => exact doc_small hc
  · exact Nat.zero_le _
theorem like_self (h : rightE a = true) : likeE a a = true := (like_tie h h).2 ⟨rfl, rfl, rfl, rfl⟩
theorem like_same {b : En} (h : rightE a = true) (e : a = b) : likeE a b = true := by rw [← e]; exact like_self h
/-- Turned: what is behind comes first. -/
theorem turn_perm {α : Type} {l : List α} {k : Nat} : (([] ++ l.drop k) ++ l.take k).Perm l := by
  rw [List.nil_append]
  exact List.perm_append_comm.trans (List.Perm.of_eq (List.take_append_drop k l))
theorem ents_small (he : e ∈ if chkO ts ws gs = 0 then docV ts ws gs else []) : e.mem.length ≤ 1000 := by
  split at he
  · next hc =>
    have h1 := doc_len hc
    have h2 : ts.length ≤ 16 := (chk_iff.1 (co_iff.1 hc).1).len
    have h3 : List.Sublist e.mem ((docV ts ws gs).flatMap En.mem) := by
      rw [List.flatMap_def]
      exact List.sublist_flatten_of_mem (List.mem_map_of_mem he)
    have := h3.length_le
    omega
  · cases he
theorem rem_ex (a : Int) {n : Nat} (hn : 0 < n) : ∃ k : Nat, (IntKind.u64.wrap a).tmod (n : Int) = (k : Int) ∧ k < n := by
  have h0 : 0 ≤ IntKind.u64.wrap a := by unfold IntKind.wrap; simp [IntKind.signed]; omega
  rw [Int.tmod_eq_emod_of_nonneg h0]
  refine ⟨(IntKind.u64.wrap a % (n : Int)).toNat, ?_, ?_⟩
  · have := Int.emod_nonneg (IntKind.u64.wrap a) (show (n : Int) ≠ 0 by omega)
    omega
  · have := Int.emod_lt_of_pos (IntKind.u64.wrap a) (show (0 : Int) < n by omega)
    omega
theorem quo2 {n : Nat} (hn : n ≤ 1000) : IntKind.i64.wrap (((n : Nat) : Int).tdiv 2) = ((n / 2 : Nat) : Int) := by
  rw [Int.tdiv_eq_ediv_of_nonneg (by omega)]
  rw [show ((n : Int) / 2) = ((n / 2 : Nat) : Int) by omega]
  exact wrap_in (by omega) (by omega)
theorem at_same {l l2 : List EnA} {V : List En} {i : Nat} {x y : EnA} (h1 : l.map EnA.val = V) (h2 : l2.map EnA.val = V) (hx : l[i]? = some x) (hy : l2[i]? = some y) : x.val = y.val := by
  have e1 := map_at12 (f := EnA.val) hx
  have e2 := map_at12 (f := EnA.val) hy
  rw [h1] at e1
  rw [h2] at e2
  rw [e1] at e2
  exact Option.some.inj e2
end
end Go.Proofs.Ytoljahfofkmdaaa

/-! The walker: blocks of one's own are let go: from here on they count as old memory. -/
namespace Go.Proofs.Ytoljahfofkmdaaa
open Go Go.RowKit

section
variable {P : Program} {rd : Option Nat} {D : List Deferred} {R : Exit → Act → World → Prop} {w0 w1 w : World} {n i : Nat} {k : List Fr} {l : Sl} {L L0 : List Ob} {c : Code} {all os : List Oper}
theorem Hs.over (h0 : Hs w0 L0 w1) (h : Hs w1 L w) : Hs w0 L w := ⟨h.rows, fun r hr => Nat.le_trans h0.below.size (h.low r hr), h.apart, below_two' h0.below (Nat.le_refl _) h.below⟩
theorem at_rebase (h : ∀ w1, Hs w0 L w1 → At ⟨P, rd, D, R, w1, n⟩ k c l []) : At ⟨P, rd, D, R, w0, n⟩ k c l L := ⟨fun a w ha hw => (h w hw).out a w ha (Hs.start w)⟩
theorem ops_rebase (h : ∀ w1, Hs w0 L w1 → Ops ⟨P, rd, D, R, w1, n⟩ k all os i l []) : Ops ⟨P, rd, D, R, w0, n⟩ k all os i l L := ⟨fun a w ha hw => (h w hw).out a w ha (Hs.start w)⟩
theorem hs_re {A Y Z B : List Ob} (h : Hs w0 (A ++ ((Y ++ Z) ++ B)) w) : Hs w0 (A ++ (Y ++ (Z ++ B))) w := by rwa [← List.append_assoc Y Z B]
/-- Where a slice stands that begins behind the first so many. -/
abbrev cutP (p : Option Addr) (cap lo k : Nat) : Option Addr := if cap = lo then p else p.map (·.add (lo * k))
theorem sv_cut {α : Type} [Enc α] {p : Option Addr} {m cap lo : Nat} {ls : List α} (h : Sv w p ls) (hm : m = ls.length) (hc : m ≤ cap) : Sv w (cutP p cap lo (Enc.k α)) (ls.drop lo) := by
  show Sv w (if cap = lo then p else p.map (·.add (lo * Enc.k α))) (ls.drop lo)
  by_cases e : cap = lo
  · rw [if_pos e, List.drop_eq_nil_of_le (by omega)]
    exact Sv.nil
  · rw [if_neg e]
    refine ⟨fun hne => ?_, fun b o eq j hj => ?_⟩
    · obtain ⟨b, o, rfl⟩ := h.addr fun e2 => hne (by rw [e2]; simp)
      exact ⟨b, o + lo * Enc.k α, by rw [Option.map_some, addr_add]⟩
    · have hj' : lo + j < ls.length := by rw [List.length_drop] at hj; omega
      obtain ⟨b2, o2, rfl⟩ := h.addr fun e2 => by rw [e2] at hj'; simp at hj'
      rw [Option.map_some, addr_add] at eq
      have e3 : b2 = b ∧ o2 + lo * Enc.k α = o := by simpa using eq
      obtain ⟨rfl, rfl⟩ := e3
      have := h.cell b2 o2 rfl (lo + j) hj'
      rw [Nat.add_mul, ← Nat.add_assoc] at this
      rwa [List.getElem_drop]
end
theorem run_rem {P : Program} {ρ : Operand → Value} {T U : TypeId} {x y : Operand} {kd : IntKind} {a b : Int} (v : Int) {o : Oper} (ho : o.op = .binOp .rem T x y U) (hx : ρ x = .int kd a) (hy : ρ y = .int kd b) (h0 : ¬ b = 0) (hv : a.tmod b = v) (w : World) :
    (execOp ρ o).run P w = .ok (.value (.int kd v)) w := by
  have g : (eqGuard .rem T x y (.int kd a) (.int kd b)) = (pure () : Sem Unit) := by unfold eqGuard; simp
  unfold execOp
  simp only [ho, hx, hy, g]
  subst hv
  simp [binOp, Op.intDiv, h0]
theorem swap_perm {α : Type} {l : List α} {i j : Nat} {x y : α} (hx : l[i]? = some x) (hy : l[j]? = some y) : ((l.set i y).set j x).Perm l := by
  obtain ⟨h1, e1⟩ := List.getElem?_eq_some_iff.1 hx
  obtain ⟨h2, e2⟩ := List.getElem?_eq_some_iff.1 hy
  subst e1; subst e2
  exact List.set_set_perm h1 h2
end Go.Proofs.Ytoljahfofkmdaaa

/-! What is put in order, as an element; plain. -/
namespace Go.Proofs.Ytoljahfofkmdaaa
open Go Go.RowKit

structure RowO where
  p : Option Addr
  n : Nat
  cap : Nat
  ts : List Rn
  pw : Option Addr
  nw : Nat
  capw : Nat
  ws : List Wt
  q : Option Addr
  m : Nat
  capq : Nat
  al : List IntsA
def RowO.enc (x : RowO) : List Value := [.slice x.p x.n x.cap, .slice x.pw x.nw x.capw, .slice x.q x.m x.capq]
instance : Enc RowO := ⟨RowO.enc, 3, fun _ => rfl, fun x v h => by simp [RowO.enc] at h; rcases h with rfl | rfl | rfl <;> rfl, by decide⟩
structure RowO.Reads (x : RowO) (w : World) : Prop where
  hts : Sv w x.p x.ts
  hn : x.n = x.ts.length
  hcp : x.n ≤ x.cap
  hbg : x.cap ≤ 9223372036854775807
  hU : ∀ r ∈ x.ts, r.U
  hws : Sv w x.pw x.ws
  hnw : x.nw = x.ws.length
  hcw : x.nw ≤ x.capw
  hbw : x.capw ≤ 9223372036854775807
  hWU : ∀ r ∈ x.ws, r.U
  hal : Sv w x.q x.al
  hma : x.m = x.al.length
  hcq : x.m ≤ x.capq
  hbq : x.capq ≤ 9223372036854775807
  hnm : ∀ y ∈ x.al, y.Reads w
theorem RowO.Reads.kept {x : RowO} {w w' : World} (h : x.Reads w) (hb : Below w.heap.size w w') : x.Reads w' :=
  ⟨h.hts.kept hb, h.hn, h.hcp, h.hbg, h.hU, h.hws.kept hb, h.hnw, h.hcw, h.hbw, h.hWU, h.hal.kept hb, h.hma, h.hcq, h.hbq, fun y hy => (h.hnm y hy).kept hb⟩
end Go.Proofs.Ytoljahfofkmdaaa

/-! What of a row is put in order; plain. -/
namespace Go.Proofs.Ytoljahfofkmdaaa
open Go Go.RowKit

/-- The gangs that are looked at. -/
def shortG (gs : List (List Int)) : List (List Int) := (gs.take 17).map fun g => g.take 17
section
variable {al bl : List IntsA} {x y : IntsA} {j : Nat} {gs : List (List Int)}
theorem sg_on (h : bl.map IntsA.l = shortG ((al.take j).map IntsA.l)) (hx : al[j]? = some x) (hj : j < 17) (hy : y.l = x.l.take 17) : (bl ++ [y]).map IntsA.l = shortG ((al.take (j + 1)).map IntsA.l) := by
  have e1 : ∀ i, i ≤ 17 → shortG ((al.take i).map IntsA.l) = ((al.take i).map IntsA.l).map fun g => g.take 17 := fun i hi => by
    unfold shortG
    rw [List.take_of_length_le (by rw [List.length_map, List.length_take]; omega)]
  rw [List.map_append, h, e1 j (by omega), e1 (j + 1) (by omega), take_one hx]
  simp [hy]
theorem sg_out (h : bl.map IntsA.l = shortG ((al.take j).map IntsA.l)) (hj : ¬ j < 17) : bl.map IntsA.l = shortG ((al.take (j + 1)).map IntsA.l) := by
  rw [h]
  unfold shortG
  rw [← List.map_take, ← List.map_take, List.take_take, List.take_take, Nat.min_eq_left (by omega), Nat.min_eq_left (by omega)]
theorem sg_all (hj : al.length ≤ j) : shortG ((al.take j).map IntsA.l) = shortG (al.map IntsA.l) := by rw [List.take_of_length_le hj]
theorem sg_facts (h : bl.map IntsA.l = shortG gs) : bl.length ≤ 17 ∧ ∀ x ∈ bl, x.l.length ≤ 17 := by
  refine ⟨?_, fun x hx => ?_⟩
  · have := congrArg List.length h
    unfold shortG at this
    rw [List.length_map, List.length_map, List.length_take] at this
    omega
  · have : x.l ∈ shortG gs := by rw [← h]; exact List.mem_map_of_mem hx
    unfold shortG at this
    obtain ⟨g, _, e⟩ := List.mem_map.1 this
    rw [← e, List.length_take]; omega
end
end Go.Proofs.Ytoljahfofkmdaaa

/-! Laws on cells that hold a number of 128 bits. -/
namespace Go.Proofs.Ytoljahfofkmdaaa
open Go.RowKit

theorem wide_size : (Try.prog.info? 43).map (·.size) = some 2 := by kernel_rfl
/-- Block g of w holds a number of two halves. -/
@[reducible] def IsW (w : World) (g : Nat) (h l : Int) : Prop := IsR w g #[.int .u64 h, .int .u64 l] 43
section
variable {ops : Array Oper} {rest : List Oper} {o : Oper} {a : Act} {w : World} {Q : Exit → Act → World → Prop}
theorem wpW_store (hgd : o.guard = none) (x y : Operand) (ho : o.op = .store 43 x y) (g : Nat) (hx : a.eval x = .pointer (some ⟨g, 0, none⟩)) (h l h0 l0 : Int) (hy : a.eval y = .agg #[.int .u64 h, .int .u64 l])
    (hg : IsW w g h0 l0) (hK : ∀ w1 : World, Put g #[.int .u64 h, .int .u64 l] 43 w w1 → wpList Try.prog ops Q rest (a.put o.dst undef) w1) : wpList Try.prog ops Q (o :: rest) a w :=
  wpR_store hgd _ x y ho g hx _ _ hy _ hg wide_size rfl (by simp [Value.oneCell']) hK
theorem wpW_load (hgd : o.guard = none) (x : Operand) (ho : o.op = .load 43 x) (g : Nat) (hx : a.eval x = .pointer (some ⟨g, 0, none⟩)) (h l : Int)
    (hg : IsW w g h l) (hK : wpList Try.prog ops Q rest (a.put o.dst (.agg #[.int .u64 h, .int .u64 l])) w) : wpList Try.prog ops Q (o :: rest) a w :=
  wpList_load_row hgd _ x ho g hx _ _ _ _ hg Try.underlying43 rfl wide_size hK
variable {fn : Func} {R : Ending → World → Prop} {tmps : Array Value} {p q r : Tmp} {g : Nat} {h l : Int}
theorem retW1 (hf : fn.results = #[.cell p 43, .tmp q]) (hp : tmps.getD p undef = .pointer (some ⟨g, 0, none⟩)) (v : Value) (hq : tmps.getD q undef = v) (hg : IsW w g h l)
    (hR : R (.returned (.tuple #[.agg #[.int .u64 h, .int .u64 l], v])) w) : bodyPost Try.prog fn R .ret { tmps, defers := [] } w := ret_row_tmp hf hp v hq hg Try.underlying43 rfl wide_size hR
end
end Go.Proofs.Ytoljahfofkmdaaa

/-! Plain lemmas on rows of 256 bits, and on numbers of 128 bits: no program in sight. -/
namespace Go.Proofs.Ytoljahfofkmdaaa
open Go.RowKit

/-- The row of the 256 lowest bits of a number. -/
def bA (n : Nat) : Array Value := Array.ofFn (n := 256) fun i => .bool (n.testBit i.val)

/-- One place of a sum. -/
def sAt (a b k : Nat) : Nat := a % 2 ^ k + b % 2 ^ k
/-- Two rows are one where they agree at each place. -/
def bF (f : Nat → Bool) : Array Value := Array.ofFn (n := 256) fun i => .bool (f i.val)
/-- One place of a difference. -/
def tAt (a b k : Nat) : Nat := (2 ^ k + a % 2 ^ k - b % 2 ^ k) % 2 ^ k
theorem div_succ (a k : Nat) : a / 2 ^ k = 2 * (a / 2 ^ (k + 1)) + (a.testBit k).toNat := by
  rw [Nat.pow_succ, ← Nat.div_div_eq_div_mul, Nat.testBit_eq_decide_div_mod_eq]
  generalize a / 2 ^ k = q
  by_cases h : q % 2 = 1
  · simp [h]; omega
  · simp [h]; omega
theorem quot_step (a d k : Nat) (hd : 0 < d) :
    (if 2 * (a / 2 ^ (k + 1) % d) + (a.testBit k).toNat < d then a / 2 ^ k % d = 2 * (a / 2 ^ (k + 1) % d) + (a.testBit k).toNat ∧ a / 2 ^ k / d = 2 * (a / 2 ^ (k + 1) / d)
      else a / 2 ^ k % d = 2 * (a / 2 ^ (k + 1) % d) + (a.testBit k).toNat - d ∧ a / 2 ^ k / d = 2 * (a / 2 ^ (k + 1) / d) + 1) := by
  rw [div_succ a k]
  have h1 := Nat.div_add_mod (a / 2 ^ (k + 1)) d
  have h2 := Nat.mod_lt (a / 2 ^ (k + 1)) hd
  generalize a / 2 ^ (k + 1) = A at *
  have hx : (a.testBit k).toNat ≤ 1 := by cases a.testBit k <;> simp
  generalize (a.testBit k).toNat = x at *
  generalize A % d = r at *
  generalize A / d = q at *
  subst h1
  split
  · rename_i h
    have e : 2 * (d * q + r) + x = d * (2 * q) + (2 * r + x) := by rw [Nat.mul_add, ← Nat.mul_assoc, ← Nat.mul_assoc, Nat.mul_comm 2 d]; omega
    rw [e]
    exact ⟨by rw [Nat.mul_add_mod, Nat.mod_eq_of_lt h], by rw [Nat.mul_add_div hd, Nat.div_eq_of_lt h]; rfl⟩
  · rename_i h
    have e : 2 * (d * q + r) + x = d * (2 * q + 1) + (2 * r + x - d) := by rw [Nat.mul_add, ← Nat.mul_assoc, Nat.mul_add, ← Nat.mul_assoc, Nat.mul_comm 2 d, Nat.mul_one]; generalize d * 2 * q = z; omega
    have h' : 2 * r + x - d < d := by omega
    rw [e]
    exact ⟨by rw [Nat.mul_add_mod, Nat.mod_eq_of_lt h'], by rw [Nat.mul_add_div hd, Nat.div_eq_of_lt h']⟩
end Go.Proofs.Ytoljahfofkmdaaa

/-! The small functions of package wide: their contracts, whatever the world. -/
namespace Go.Proofs.Ytoljahfofkmdaaa
open Go.RowKit

/-- One part of 32 bits of a number. -/
@[irreducible] def dg (n i : Nat) : Nat := n / 2 ^ (32 * i) % 2 ^ 32
/-- A number's seven parts. -/
def qA (n : Nat) : Array Value := Array.ofFn (n := 7) fun i => .int .u64 (dg n i.val)
theorem qA_lit (n : Nat) : qA n = #[.int .u64 (dg n 0), .int .u64 (dg n 1), .int .u64 (dg n 2), .int .u64 (dg n 3), .int .u64 (dg n 4), .int .u64 (dg n 5), .int .u64 (dg n 6)] := by
  simp [qA, Array.ofFn_succ]
theorem qA_size (n : Nat) : (qA n).size = 7 := by simp [qA]
theorem qA_get (n k : Nat) (h : k < 7) : (qA n)[k]? = some (.int .u64 (dg n k)) := by simp [qA, h]
theorem qA_set (n m k : Nat) (v : Int) (hv : (dg m k : Int) = v) (h : ∀ j, j < 7 → j ≠ k → dg m j = dg n j) : (qA n).setIfInBounds k (.int .u64 v) = qA m := by
  apply Array.ext_getElem?
  intro j
  rw [Array.getElem?_setIfInBounds]
  by_cases hj : j < 7
  · rw [qA_get _ _ hj, qA_get _ _ hj, qA_size]
    by_cases h2 : k = j
    · subst h2; simp [hj, hv]
    · simp [h2, h j hj (fun e => h2 e.symm)]
  · have h1 : (qA n)[j]? = none := by simp [qA_size]; omega
    have h2 : (qA m)[j]? = none := by simp [qA_size]; omega
    rw [h1, h2, qA_size]
    by_cases h2 : k = j
    · simp [h2, hj]
    · simp [h2]

theorem and32 (x : Nat) (h : x < 2 ^ 64) : bits BinOp.and IntKind.u64 (x : Int) 4294967295 = ((x % 2 ^ 32 : Nat) : Int) := by
  have := bits_and_u64_nat x 4294967295 (by omega) (by omega)
  rw [show ((4294967295 : Nat) : Int) = 4294967295 from rfl] at this
  rw [this, show (4294967295 : Nat) = 2 ^ 32 - 1 from rfl, Nat.and_two_pow_sub_one_eq_mod]

theorem of_dg (h l n : Nat) (hh : h < 2 ^ 64) (hl : l < 2 ^ 64) (hn : h * 2 ^ 64 + l = n) :
    (#[.int .u64 ((l % 2 ^ 32 : Nat) : Int), .int .u64 ((l / 2 ^ 32 : Nat) : Int), .int .u64 ((h % 2 ^ 32 : Nat) : Int), .int .u64 ((h / 2 ^ 32 : Nat) : Int), .int .u64 0, .int .u64 0, .int .u64 0] : Array Value) = qA n := by
  subst hn
  rw [qA_lit]
  unfold dg
  simp only [Nat.mul_zero, Nat.reduceMul, Nat.reducePow]
  congr 1
  simp only [List.cons.injEq, Value.int.injEq, true_and, and_true]
  omega

set_option maxRecDepth 100000 in
theorem wof_any (h l n : Nat) (w : World) (hh : h < 2 ^ 64) (hl : l < 2 ^ 64) (hn : h * 2 ^ 64 + l = n) :
    Calls Try.prog 95 #[.agg #[.int .u64 h, .int .u64 l]] w fun e w' => e = .returned (.agg (qA n)) ∧ Below w.heap.size w w' := by
  have e1 := and32 l hl
  have e2 := and32 h hh
  have e3 : (l : Int) / 4294967296 = ((l / 2 ^ 32 : Nat) : Int) := by omega
  have e4 : (h : Int) / 4294967296 = ((h / 2 ^ 32 : Nat) : Int) := by omega
  have HE := Lib.hid (of_dg h l n hh hl hn)
  generalize l % 2 ^ 32 = a at *
  generalize l / 2 ^ 32 = b at *
  generalize h % 2 ^ 32 = c at *
  generalize h / 2 ^ 32 = d at *
  clear hh hl hn
  go_enter Try.func95, Try.ntmps95
  go_wp2
  refine bodyPost_ret (v := .agg (qA n)) (by rw [← HE.out]; simp [results, Try.results95, go_sem]) rfl ⟨rfl, ((Below.refl _ _).alloc (Nat.le_refl _) _).alloc (by simp) _⟩

theorem or32 (a b : Nat) (ha : a < 2 ^ 32) (hb : b < 2 ^ 32) : bits BinOp.or IntKind.u64 (IntKind.u64.wrap ((a : Int) * 4294967296)) (b : Int) = ((a * 2 ^ 32 + b : Nat) : Int) := by
  have e : IntKind.u64.wrap ((a : Int) * 4294967296) = ((a * 2 ^ 32 : Nat) : Int) := by rw [IntKind.wrap_u64]; omega
  rw [e, bits_or_u64_nat _ _ (by omega) (by omega), nat_join 32 _ _ (by omega) hb]
theorem dg_lt (n i : Nat) : dg n i < 2 ^ 32 := by unfold dg; exact Nat.mod_lt _ (by decide)
theorem dg_low (n : Nat) : (dg n 3 * 2 ^ 32 + dg n 2) * 2 ^ 64 + (dg n 1 * 2 ^ 32 + dg n 0) = n % 2 ^ 128 := by
  unfold dg; simp only [Nat.mul_zero, Nat.reduceMul, Nat.reducePow]; omega
/-- Whether a number has no more than 128 bits. -/
def few (n : Nat) : Bool := decide (n < 2 ^ 128)
theorem dg_high (n : Nat) (hn : n < 2 ^ 224) : few n = (decide (dg n 4 = 0) && decide (dg n 5 = 0) && decide (dg n 6 = 0)) := by
  unfold dg few; simp only [Nat.reduceMul, Nat.reducePow] at *
  rw [Bool.eq_iff_iff]; simp only [Bool.and_eq_true, decide_eq_true_eq]; omega

/-- Three parts are 0. -/
def nought (q4 q5 q6 : Nat) : Bool := decide (q4 = 0) && decide (q5 = 0) && decide (q6 = 0)

set_option maxRecDepth 100000 in
set_option maxHeartbeats 1000000 in
theorem qwide_aux (q0 q1 q2 q3 q4 q5 q6 h l : Nat) (w : World) (e1 : bits BinOp.or IntKind.u64 (IntKind.u64.wrap ((q3 : Int) * 4294967296)) (q2 : Int) = (h : Int)) (e2 : bits BinOp.or IntKind.u64 (IntKind.u64.wrap ((q1 : Int) * 4294967296)) (q0 : Int) = (l : Int)) :
    Calls Try.prog 98 #[.agg #[.int .u64 q0, .int .u64 q1, .int .u64 q2, .int .u64 q3, .int .u64 q4, .int .u64 q5, .int .u64 q6]] w fun e w' =>
      e = .returned (.tuple #[.agg #[.int .u64 h, .int .u64 l], .bool (nought q4 q5 q6)]) ∧ Below w.heap.size w w' := by
  by_cases z4 : q4 = 0
  · have t4 : ((q4 : Int) == 0) = true := by rw [z4]; rfl
    by_cases z5 : q5 = 0
    · have t5 : ((q5 : Int) == 0) = true := by rw [z5]; rfl
      obtain ⟨b, hb⟩ : ∃ b, ((q6 : Int) == 0) = b := ⟨_, rfl⟩
      have HF := Lib.hid (show nought q4 q5 q6 = b by unfold nought; rw [decide_eq_true z4, decide_eq_true z5, Bool.true_and, Bool.true_and, ← hb, Bool.eq_iff_iff]; simp)
      clear z4 z5
      go_enter Try.func98, Try.ntmps98
      go_wp2
      go_region
      go_wp2
      exact bodyPost_ret (v := .tuple #[.agg #[.int .u64 h, .int .u64 l], .bool b]) (by simp [results, Try.results98, go_sem]) rfl ⟨by rw [HF.out], (((Below.refl _ _).alloc (Nat.le_refl _) _).alloc (by simp) _).drew⟩
    · have t5 : ((q5 : Int) == 0) = false := by simpa using z5
      have HF := Lib.hid (show nought q4 q5 q6 = false by unfold nought; rw [decide_eq_false z5, Bool.and_false, Bool.false_and])
      clear z4 z5
      go_enter Try.func98, Try.ntmps98
      go_wp2
      go_region
      go_wp2
      exact bodyPost_ret (v := .tuple #[.agg #[.int .u64 h, .int .u64 l], .bool false]) (by simp [results, Try.results98, go_sem]) rfl ⟨by rw [HF.out], (((Below.refl _ _).alloc (Nat.le_refl _) _).alloc (by simp) _).drew⟩
  · have t4 : ((q4 : Int) == 0) = false := by simpa using z4
    have HF := Lib.hid (show nought q4 q5 q6 = false by unfold nought; rw [decide_eq_false z4, Bool.false_and, Bool.false_and])
    clear z4
    go_enter Try.func98, Try.ntmps98
    go_wp2
    go_region
    go_wp2
    exact bodyPost_ret (v := .tuple #[.agg #[.int .u64 h, .int .u64 l], .bool false]) (by simp [results, Try.results98, go_sem]) rfl ⟨by rw [HF.out], (((Below.refl _ _).alloc (Nat.le_refl _) _).alloc (by simp) _).drew⟩

theorem two32 (a b : Nat) (ha : a < 2 ^ 32) (hb : b < 2 ^ 32) : a * 2 ^ 32 + b < 2 ^ 64 := by omega
theorem qwide_any (n : Nat) (w : World) (hn : n < 2 ^ 224) :
    Calls Try.prog 98 #[.agg (qA n)] w fun e w' => ∃ h l : Nat, e = .returned (.tuple #[.agg #[.int .u64 h, .int .u64 l], .bool (few n)]) ∧ h < 2 ^ 64 ∧ l < 2 ^ 64 ∧ h * 2 ^ 64 + l = n % 2 ^ 128 ∧ Below w.heap.size w w' := by
  rw [qA_lit]
  refine (qwide_aux (dg n 0) (dg n 1) (dg n 2) (dg n 3) (dg n 4) (dg n 5) (dg n 6) _ _ w (or32 _ _ (dg_lt n 3) (dg_lt n 2)) (or32 _ _ (dg_lt n 1) (dg_lt n 0))).mono ?_
  rintro e w' ⟨rfl, hb⟩
  exact ⟨_, _, by rw [dg_high n hn]; rfl, two32 _ _ (dg_lt n 3) (dg_lt n 2), two32 _ _ (dg_lt n 1) (dg_lt n 0), dg_low n, hb⟩

end Go.Proofs.Ytoljahfofkmdaaa

/-! package wide's quotient on seven parts: its contract, whatever the world. -/
namespace Go.Proofs.Ytoljahfofkmdaaa
open Go.RowKit

theorem quart_info : (Try.prog.info? 135).map (fun i => (i.zero, i.size)) = some (some (.agg #[.int .u64 0, .int .u64 0, .int .u64 0, .int .u64 0, .int .u64 0, .int .u64 0, .int .u64 0]), 7) := by kernel_rfl
theorem zero_of_info' {P : Program} {t : TypeId} {v : Value} {n : Nat} (h : (P.info? t).map (fun i => (i.zero, i.size)) = some (some v, n)) (w : World) : (zeroValue t).run P w = .ok v w := by
  cases hq : P.info? t with
  | none => simp [hq] at h
  | some i => simp [hq] at h; simp [zeroValue, typeInfo, hq, h.1]
theorem setCell_drewN (w : World) (n : Nat) (p : Addr) (v : Value) : (w.drewN n).setCell p v = (w.setCell p v).drewN n := rfl
theorem qA_at (n k : Nat) (h : k < (qA n).size) : (qA n)[k] = .int .u64 (dg n k) := by simp [qA]
theorem qA_zero : qA 0 = #[.int .u64 0, .int .u64 0, .int .u64 0, .int .u64 0, .int .u64 0, .int .u64 0, .int .u64 0] := by
  rw [qA_lit]; unfold dg; simp

theorem quart_size (n : Nat) : (Try.prog.info? 135).map (·.size) = some (qA n).size := by
  rw [qA_size]
  have := quart_info
  cases hq : Try.prog.info? 135 with
  | none => simp [hq] at this
  | some i => simp [hq] at this ⊢; exact this.2
theorem qA_oneCell (n : Nat) : (qA n).all (·.oneCell') = true := by rw [qA_lit]; simp [Value.oneCell']
/-- Block g of w holds a number's parts. -/
@[reducible] def IsQ (w : World) (g n : Nat) : Prop := IsR w g (qA n) 135
section
variable {ops : Array Oper} {rest : List Oper} {o : Oper} {a : Act} {w : World} {Q : Exit → Act → World → Prop}
theorem wpQ_store (hgd : o.guard = none) (x y : Operand) (ho : o.op = .store 135 x y) (g : Nat) (hx : a.eval x = .pointer (some ⟨g, 0, none⟩)) (n m : Nat) (hy : a.eval y = .agg (qA n))
    (hg : IsQ w g m) (hK : ∀ w1 : World, Put g (qA n) 135 w w1 → wpList Try.prog ops Q rest (a.put o.dst undef) w1) : wpList Try.prog ops Q (o :: rest) a w :=
  wpR_store hgd _ x y ho g hx _ _ hy _ hg (quart_size n) (by rw [qA_size, qA_size]) (qA_oneCell n) hK
theorem wpQ_load (hgd : o.guard = none) (x : Operand) (ho : o.op = .load 135 x) (g : Nat) (hx : a.eval x = .pointer (some ⟨g, 0, none⟩)) (n : Nat)
    (hg : IsQ w g n) (hK : wpList Try.prog ops Q rest (a.put o.dst (.agg (qA n))) w) : wpList Try.prog ops Q (o :: rest) a w :=
  wpList_load_row hgd _ x ho g hx _ _ _ _ hg Try.underlying135 rfl (quart_size n) hK
variable {fn : Func} {R : Ending → World → Prop} {tmps : Array Value} {p q r : Tmp} {g n : Nat}
theorem retQ (hf : fn.results = #[.cell p 135]) (hp : tmps.getD p undef = .pointer (some ⟨g, 0, none⟩)) (hg : IsQ w g n) (hR : R (.returned (.agg (qA n))) w) :
    bodyPost Try.prog fn R .ret { tmps, defers := [] } w := ret_row hf hp hg Try.underlying135 rfl (quart_size n) hR
theorem retQ1 (hf : fn.results = #[.cell p 135, .tmp q]) (hp : tmps.getD p undef = .pointer (some ⟨g, 0, none⟩)) (v : Value) (hq : tmps.getD q undef = v) (hg : IsQ w g n)
    (hR : R (.returned (.tuple #[.agg (qA n), v])) w) : bodyPost Try.prog fn R .ret { tmps, defers := [] } w := ret_row_tmp hf hp v hq hg Try.underlying135 rfl (quart_size n) hR
end

/-- The quotient's digits, set at one place. -/
theorem over_set (q i b : Nat) (_hi : i < 7) (hb : b < 32) :
    dg ((2 * q + 1) * 2 ^ (32 * i + b)) i = dg (q * 2 ^ (32 * i + b + 1)) i + 2 ^ b ∧ dg (q * 2 ^ (32 * i + b + 1)) i % 2 ^ (b + 1) = 0 ∧
      ∀ j, j ≠ i → dg ((2 * q + 1) * 2 ^ (32 * i + b)) j = dg (q * 2 ^ (32 * i + b + 1)) j := by
  have e1 : (2 * q + 1) * 2 ^ (32 * i + b) = ((2 * q + 1) * 2 ^ b) * 2 ^ (32 * i) := by rw [Nat.pow_add, Nat.mul_comm (2 ^ (32 * i)), Nat.mul_assoc]
  have e2 : q * 2 ^ (32 * i + b + 1) = (q * 2 ^ (b + 1)) * 2 ^ (32 * i) := by rw [Nat.add_assoc, Nat.pow_add, Nat.mul_comm (2 ^ (32 * i)), Nat.mul_assoc]
  have e3 : 2 ^ 32 = 2 ^ (b + 1) * 2 ^ (31 - b) := by rw [← Nat.pow_add]; congr 1; omega
  have d1 : dg (q * 2 ^ (32 * i + b + 1)) i = (q % 2 ^ (31 - b)) * 2 ^ (b + 1) := by
    unfold dg
    rw [e2, Nat.mul_div_cancel _ (Nat.two_pow_pos _), e3, Nat.mul_comm q, Nat.mul_mod_mul_left, Nat.mul_comm]
  have hp := Nat.two_pow_pos b
  have e4 : (2 * q + 1) * 2 ^ b = 2 ^ (b + 1) * q + 2 ^ b := by rw [Nat.pow_succ, Nat.add_mul, Nat.one_mul, Nat.mul_comm (2 ^ b) 2, Nat.mul_assoc, Nat.mul_assoc, Nat.mul_comm q]
  refine ⟨?_, ?_, fun j hj => ?_⟩
  · rw [d1]
    unfold dg
    rw [e1, Nat.mul_div_cancel _ (Nat.two_pow_pos _), e4, e3, Nat.mod_mul, Nat.mul_add_mod, Nat.mod_eq_of_lt (show 2 ^ b < 2 ^ (b + 1) by rw [Nat.pow_succ]; omega), Nat.mul_add_div (Nat.two_pow_pos _),
      Nat.div_eq_of_lt (show 2 ^ b < 2 ^ (b + 1) by rw [Nat.pow_succ]; omega), Nat.add_zero, Nat.mul_comm (2 ^ (b + 1)), Nat.add_comm]
    rfl
  · rw [d1]; exact Nat.mul_mod_left _ _
  · unfold dg
    rcases Nat.lt_or_ge j i with h | h
    · have z : ∀ x, x * 2 ^ (32 * i) / 2 ^ (32 * j) % 2 ^ 32 = 0 := fun x => by
        have : 2 ^ (32 * i) = 2 ^ (32 * (i - j - 1)) * 2 ^ 32 * 2 ^ (32 * j) := by rw [← Nat.pow_add, ← Nat.pow_add]; congr 1; omega
        rw [this, ← Nat.mul_assoc, Nat.mul_div_cancel _ (Nat.two_pow_pos _), ← Nat.mul_assoc]; exact Nat.mul_mod_left _ _
      rw [e1, e2, z, z]
    · have h' : i < j := by omega
      have z : 2 ^ (32 * j) = 2 ^ (32 * i) * (2 ^ (b + 1) * 2 ^ (32 * (j - i) - (b + 1))) := by rw [← Nat.pow_add, ← Nat.pow_add]; congr 1; omega
      rw [e1, e2, z, Nat.mul_comm _ (2 ^ (32 * i)), Nat.mul_comm _ (2 ^ (32 * i)), Nat.mul_div_mul_left _ _ (Nat.two_pow_pos _), Nat.mul_div_mul_left _ _ (Nat.two_pow_pos _), ← Nat.div_div_eq_div_mul, ← Nat.div_div_eq_div_mul, e4,
        Nat.mul_add_div (Nat.two_pow_pos _), Nat.div_eq_of_lt (show 2 ^ b < 2 ^ (b + 1) by rw [Nat.pow_succ]; omega), Nat.add_zero, Nat.mul_div_cancel _ (Nat.two_pow_pos _)]

theorem over_or (r x y b : Nat) (_hr : r < 2 ^ 64) (hy : y < 2 ^ 32) (hx : x = y / 2 ^ b % 2) :
    bits BinOp.or IntKind.u64 (IntKind.u64.wrap ((r : Int) * 2)) (bits BinOp.and IntKind.u64 ((y : Int) / 2 ^ b) 1) = (((2 * r + x) % 2 ^ 64 : Nat) : Int) := by
  have h1 : (y : Int) / 2 ^ b = ((y / 2 ^ b : Nat) : Int) := by simp
  have h2 : y / 2 ^ b < 2 ^ 64 := Nat.lt_of_le_of_lt (Nat.div_le_self _ _) (by omega)
  rw [h1, show (1 : Int) = ((1 : Nat) : Int) from rfl, bits_and_u64_nat _ _ h2 (by decide), nat_mask1, ← hx]
  have h3 : IntKind.u64.wrap ((r : Int) * 2) = ((2 * r % 2 ^ 64 : Nat) : Int) := by rw [IntKind.wrap_u64]; omega
  have h4 : x < 2 := by subst hx; exact Nat.mod_lt _ (by decide)
  rw [h3, bits_or_u64_nat _ _ (by omega) (by omega), nat_join 1 _ _ (by omega) (by omega)]
  congr 1
  omega
theorem over_bor (y b : Nat) (hb : b < 32) (hy : y < 2 ^ 32) (h0 : y % 2 ^ (b + 1) = 0) : bits BinOp.or IntKind.u64 (y : Int) (IntKind.u64.wrap (2 ^ b)) = ((y + 2 ^ b : Nat) : Int) := by
  have hp : 2 ^ b < 2 ^ 32 := Nat.pow_lt_pow_right (by decide) hb
  have e : IntKind.u64.wrap (2 ^ b) = ((2 ^ b : Nat) : Int) := by
    rw [IntKind.wrap_u64]
    have : ((2 ^ b : Nat) : Int) = (2 : Int) ^ b := by simp
    omega
  rw [e, bits_or_u64_nat _ _ (by omega) (by omega), nat_join (b + 1) _ _ h0 (Nat.pow_lt_pow_right (by decide) (by omega))]
theorem over_bit (n i b : Nat) (hb : b < 32) : dg n i / 2 ^ b % 2 = (n.testBit (32 * i + b)).toNat := by
  have h : (dg n i).testBit b = n.testBit (32 * i + b) := by
    unfold dg
    rw [Nat.testBit_mod_two_pow, Nat.testBit_div_two_pow]
    simp [hb, Nat.add_comm]
  rw [← h, Nat.testBit_eq_decide_div_mod_eq]
  have : dg n i / 2 ^ b % 2 < 2 := Nat.mod_lt _ (by decide)
  by_cases h1 : dg n i / 2 ^ b % 2 = 1
  · simp [h1]
  · simp [h1]; omega

set_option maxRecDepth 100000 in
set_option maxHeartbeats 1000000 in
theorem over_any (n d : Nat) (w : World) (hn : n < 2 ^ 224) (hd0 : 0 < d) (hd : d < 2 ^ 64) :
    Calls Try.prog 97 #[.agg (qA n), .int .u64 d] w fun e w' => e = .returned (.tuple #[.agg (qA (n / d)), .int .u64 (n % d : Nat)]) ∧ Below w.heap.size w w' := by
  have hz : ∀ w, (zeroValue 135).run Try.prog w = .ok (.agg (qA 0)) w := fun w => by
    rw [qA_zero]
    exact (zero_of_info' quart_info) w
  have H0 := Lib.hid (show n / 2 ^ 224 = 0 from Nat.div_eq_of_lt hn)
  have HD := Lib.hid hd
  have HD0 := Lib.hid hd0
  clear hn hd hd0
  go_enter Try.func97, Try.ntmps97
  go_wp2_with fail
  go_loopw [7, 8] (fun rest i wr => ∃ k c : Nat, k ≤ 7 ∧ i = .int .i64 ((k : Int) - 1) ∧ rest = .int .u64 ((n / 2 ^ (32 * k) % d : Nat) : Int) ∧
      wr = (((w.alloc (Obj.cells (qA n) 135)).alloc (Obj.cells (qA 0) 135)).alloc (Obj.cells (qA (n / 2 ^ (32 * k) / d * 2 ^ (32 * k))) 135)).drewN c)
    (fun _ i _ => (intOf i + 1).toNat)
  case atStart => exact ⟨7, 0, by omega, rfl, by rw [H0.out, Nat.zero_mod]; rfl, by rw [H0.out, Nat.zero_div, Nat.zero_mul]; rfl⟩
  case round =>
    obtain ⟨k, c, hk, rfl, rfl, rfl⟩ := hrel
    by_cases hlt : 1 ≤ k
    · obtain ⟨i, rfl⟩ : ∃ i, k = i + 1 := ⟨k - 1, by omega⟩
      have e : (((i + 1 : Nat) : Int) - 1) = (i : Int) := by omega
      rw [e]
      clear e
      have hi : (i : Int) < 7 := by omega
      obtain ⟨wo, hwo⟩ : ∃ wo : World, wo = (((w.alloc (Obj.cells (qA n) 135)).alloc (Obj.cells (qA 0) 135)).alloc (Obj.cells (qA (n / 2 ^ (32 * (i + 1)) / d * 2 ^ (32 * (i + 1)))) 135)).drewN c := ⟨_, rfl⟩
      have Hwo := Lib.hid hwo
      rw [← hwo]
      clear hwo
      go_wp2_with fail
      go_loopw [7, 9] (fun rest bi wr => ∃ k c : Nat, k ≤ 32 ∧ bi = .int .i64 ((k : Int) - 1) ∧ rest = .int .u64 ((n / 2 ^ (32 * i + k) % d : Nat) : Int) ∧
          wr = (((w.alloc (Obj.cells (qA n) 135)).alloc (Obj.cells (qA 0) 135)).alloc (Obj.cells (qA (n / 2 ^ (32 * i + k) / d * 2 ^ (32 * i + k))) 135)).drewN c)
        (fun _ bi _ => (intOf bi + 1).toNat)
      case atStart => exact ⟨32, c, by omega, rfl, rfl, Hwo.out⟩
      case round =>
        clear Hwo
        obtain ⟨k, c, hk2, rfl, rfl, rfl⟩ := hrel
        by_cases hlt2 : 1 ≤ k
        · obtain ⟨b, rfl⟩ : ∃ b, k = b + 1 := ⟨k - 1, by omega⟩
          have e : (((b + 1 : Nat) : Int) - 1) = (b : Int) := by omega
          rw [e]
          clear e
          have hb : (b : Int) < 32 := by omega
          have hi7 : i < 7 := by omega
          have hcell := qA_get n i hi7
          have hsz := qA_size (n / 2 ^ (32 * i + (b + 1)) / d * 2 ^ (32 * i + (b + 1)))
          have ho := qA_at (n / 2 ^ (32 * i + (b + 1)) / d * 2 ^ (32 * i + (b + 1))) i (by rw [hsz]; exact hi7)
          have hq := quot_step n d (32 * i + b) HD0.out
          rw [Nat.add_assoc] at hq
          have hrd := Nat.mod_lt (n / 2 ^ (32 * i + (b + 1))) HD0.out
          generalize n / 2 ^ (32 * i + (b + 1)) % d = r at hq hrd ⊢
          generalize n / 2 ^ (32 * i + (b + 1)) / d = q at hq hsz ho ⊢
          have hbit := over_bit n i b (by omega)
          have hx1 := Bool.toNat_le (n.testBit (32 * i + b))
          have hO := over_or r _ (dg n i) b (by have := HD.out; omega) (dg_lt n i) hbit.symm
          clear hbit
          generalize (n.testBit (32 * i + b)).toNat = x at hq hx1 hO
          obtain ⟨s1, s2, s3⟩ := over_set q i b hi7 (by omega)
          rw [Nat.add_assoc] at s1 s2 s3
          have HS := Lib.hid (qA_set _ _ i _ rfl (fun j _ hj => s3 j hj))
          have hW := over_bor (dg (q * 2 ^ (32 * i + (b + 1))) i) b (by omega) (dg_lt _ _) s2
          rw [← s1] at hW
          have hd64 := HD.out
          have hr64 : 2 * r + x < 2 * d := by omega
          clear s1 s2 s3
          by_cases hA : 2 * r + x < d
          · rw [if_pos hA] at hq
            have hT : ((r : Int) / 9223372036854775808 == 1) = false := by rw [beq_eq_false_iff_ne]; omega
            have e1 : (2 * r + x) % 2 ^ 64 = 2 * r + x := Nat.mod_eq_of_lt (by omega)
            rw [e1] at hO
            have HQ := Lib.hid hq
            have hA' : ((2 * r + x : Nat) : Int) < (d : Int) := by omega
            clear hq e1 hd64 hr64 hA HS hrd hW
            generalize 2 * r + x = r1 at hO HQ hA'
            go_wp2_with fail
            exact ⟨⟨b, c, by omega, rfl, by rw [HQ.out.1], by rw [HQ.out.2, show q * 2 ^ (32 * i + (b + 1)) = 2 * q * 2 ^ (32 * i + b) by rw [← Nat.add_assoc, Nat.pow_succ, Nat.mul_comm 2 q, Nat.mul_assoc, Nat.mul_comm 2]]⟩, by simp [intOf]⟩
          · rw [if_neg hA] at hq
            have hsub : IntKind.u64.wrap ((((2 * r + x) % 2 ^ 64 : Nat) : Int) - (d : Int)) = ((2 * r + x - d : Nat) : Int) := by rw [IntKind.wrap_u64]; omega
            have HQ := Lib.hid hq
            by_cases hT : 2 ^ 63 ≤ r
            · have hT' : ((r : Int) / 9223372036854775808 == 1) = true := by rw [beq_iff_eq]; omega
              clear hq hd64 hr64 hrd hT hA
              generalize (2 * r + x) % 2 ^ 64 = r1 at hO hsub
              generalize 2 * r + x - d = r2 at hsub HQ
              go_wp2_with fail
              go_region
              go_wp2_with fail
              refine ⟨⟨b, c + 1, by omega, rfl, by rw [HQ.out.1], ?_⟩, by simp [intOf]⟩
              rw [HQ.out.2, setCell_drewN, World.setCell_alloc_at _ _ _ _ _ (by simp), HS.out]
            · have hT' : ((r : Int) / 9223372036854775808 == 1) = false := by rw [beq_eq_false_iff_ne]; omega
              have hge : (d : Int) ≤ (((2 * r + x) % 2 ^ 64 : Nat) : Int) := by omega
              clear hq hd64 hr64 hrd hT hA
              generalize (2 * r + x) % 2 ^ 64 = r1 at hO hsub hge
              generalize 2 * r + x - d = r2 at hsub HQ
              go_wp2_with fail
              go_region
              go_wp2_with fail
              refine ⟨⟨b, c + 1, by omega, rfl, by rw [HQ.out.1], ?_⟩, by simp [intOf]⟩
              rw [HQ.out.2, setCell_drewN, World.setCell_alloc_at _ _ _ _ _ (by simp), HS.out]
        · obtain rfl : k = 0 := by omega
          have e : (((0 : Nat) : Int) - 1) = -1 := rfl
          rw [e, Nat.add_zero]
          clear e
          go_wp2_with fail
          go_roundw
          case rel => exact ⟨i, c, by omega, rfl, rfl, rfl⟩
          case measure => simp [intOf]
    · obtain rfl : k = 0 := by omega
      have e : (((0 : Nat) : Int) - 1) = -1 := rfl
      have e2 : n / 2 ^ (32 * 0) / d * 2 ^ (32 * 0) = n / d := by simp
      have e3 : n / 2 ^ (32 * 0) % d = n % d := by simp
      rw [e, e2, e3]
      clear e e2 e3
      have f1 : IsQ ((((w.alloc (Obj.cells (qA n) 135)).alloc (Obj.cells (qA 0) 135)).alloc (Obj.cells (qA (n / d)) 135)).drewN c) (w.heap.size + 1 + 1) (n / d) := by
        show (((w.alloc (Obj.cells (qA n) 135)).alloc (Obj.cells (qA 0) 135)).alloc (Obj.cells (qA (n / d)) 135)).heap[_]? = _
        exact (by repeat (first | (with_reducible refine heap_top _ _ _ ?_; first | (simp; done) | (simp; omega)) | rw [Below.heap_alloc _ _ _ (by first | (simp; done) | (simp; omega))]))
      have f2 : IsQ ((((w.alloc (Obj.cells (qA n) 135)).alloc (Obj.cells (qA 0) 135)).alloc (Obj.cells (qA (n / d)) 135)).drewN c) (w.heap.size + 1) 0 := by
        show (((w.alloc (Obj.cells (qA n) 135)).alloc (Obj.cells (qA 0) 135)).alloc (Obj.cells (qA (n / d)) 135)).heap[_]? = _
        exact (by repeat (first | (with_reducible refine heap_top _ _ _ ?_; first | (simp; done) | (simp; omega)) | rw [Below.heap_alloc _ _ _ (by first | (simp; done) | (simp; omega))]))
      have f3 : Below w.heap.size w ((((w.alloc (Obj.cells (qA n) 135)).alloc (Obj.cells (qA 0) 135)).alloc (Obj.cells (qA (n / d)) 135)).drewN c) :=
        below_drewN ((((Below.refl _ _).alloc (Nat.le_refl _) _).alloc (by simp) _).alloc (by simp; omega) _) c
      generalize (((w.alloc (Obj.cells (qA n) 135)).alloc (Obj.cells (qA 0) 135)).alloc (Obj.cells (qA (n / d)) 135)).drewN c = W at f1 f2 f3 ⊢
      go_wp2_with (first
        | (with_reducible refine wpQ_load rfl (.tmp 6) rfl (w.heap.size + 1 + 1) rfl (n / d) f1 ?_)
        | (with_reducible refine wpQ_store rfl (.tmp 4) (.tmp 47) rfl (w.heap.size + 1) rfl (n / d) 0 rfl f2 ?_; intro w1 hp1))
      exact retQ1 rfl rfl (.int .u64 (n % d : Nat)) rfl hp1.row ⟨rfl, hp1.below _ _ (by omega) f3⟩

end Go.Proofs.Ytoljahfofkmdaaa

/-! package wide's product on seven parts: its contract, whatever the world. -/
namespace Go.Proofs.Ytoljahfofkmdaaa
open Go.RowKit

theorem qA_ext (a b : Nat) (h : ∀ j, j < 7 → dg a j = dg b j) : qA a = qA b := by
  unfold qA; congr 1; funext i; rw [h _ i.isLt]
theorem dg_mod (a j : Nat) (h : j < 7) : dg (a % 2 ^ 224) j = dg a j := by
  unfold dg
  have e : (2 : Nat) ^ 224 = 2 ^ (32 * j) * (2 ^ 32 * 2 ^ (224 - 32 * j - 32)) := by rw [← Nat.pow_add, ← Nat.pow_add]; congr 1; omega
  rw [e, Nat.mod_mul_right_div_self, Nat.mod_mul_right_mod]
theorem qA_mod (a : Nat) : qA (a % 2 ^ 224) = qA a := qA_ext _ _ fun j h => dg_mod a j h
theorem qA_cong (a b : Nat) (h : a % 2 ^ 224 = b % 2 ^ 224) : qA a = qA b := by rw [← qA_mod a, h, qA_mod]

/-- The digit at place j of r + o 2^(32 j); and the number with another digit there. -/
theorem dg_at (r o j : Nat) (hr : r < 2 ^ (32 * j)) : dg (r + o * 2 ^ (32 * j)) j = o % 2 ^ 32 := by
  unfold dg
  rw [Nat.add_mul_div_right _ _ (Nat.two_pow_pos _), Nat.div_eq_of_lt hr, Nat.zero_add]
theorem pow32 (j : Nat) : 2 ^ (32 * (j + 1)) = 2 ^ (32 * j) * 2 ^ 32 := by rw [← Nat.pow_add]; congr 1
theorem digit_low (r x A P C : Nat) (hA : 0 < A) : (r + x * (A * (P * C))) / A % P = r / A % P := by
  have e : x * (A * (P * C)) = A * (P * (C * x)) := by rw [Nat.mul_comm x, Nat.mul_assoc, Nat.mul_assoc]
  rw [e, Nat.add_comm, Nat.mul_add_div hA, Nat.mul_add_mod]
theorem digit_high (r x B P D : Nat) (hr : r < B) : (r + x * B) / (B * (P * D)) = x / P / D := by
  rw [← Nat.div_div_eq_div_mul, ← Nat.div_div_eq_div_mul, Nat.add_mul_div_right _ _ (by omega), Nat.div_eq_of_lt hr, Nat.zero_add]
theorem dg_low' (r x i j : Nat) (h : i < j) : dg (r + x * 2 ^ (32 * j)) i = dg r i := by
  have e : 2 ^ (32 * j) = 2 ^ (32 * i) * (2 ^ 32 * 2 ^ (32 * (j - i - 1))) := by rw [← Nat.pow_add, ← Nat.pow_add]; congr 1; omega
  unfold dg
  rw [e]
  exact digit_low _ _ _ _ _ (Nat.two_pow_pos _)
theorem dg_high' (r x i j : Nat) (h : j < i) (hr : r < 2 ^ (32 * j)) : dg (r + x * 2 ^ (32 * j)) i = x / 2 ^ 32 / 2 ^ (32 * (i - j - 1)) % 2 ^ 32 := by
  have e : 2 ^ (32 * i) = 2 ^ (32 * j) * (2 ^ 32 * 2 ^ (32 * (i - j - 1))) := by rw [← Nat.pow_add, ← Nat.pow_add]; congr 1; omega
  unfold dg
  rw [e, digit_high _ _ _ _ _ hr]
theorem regroup (r v t B P : Nat) : r + v * B + t * (B * P) = r + (v + t * P) * B := by
  rw [Nat.add_mul, Nat.mul_assoc, Nat.mul_comm P, Nat.add_assoc]
theorem top_drop (v t P : Nat) (hv : v < P) : (v + t * P) / P = t ∧ (v + t * P) % P = v := by
  refine ⟨?_, ?_⟩
  · rw [Nat.add_mul_div_right _ _ (by omega), Nat.div_eq_of_lt hv, Nat.zero_add]
  · rw [Nat.add_mul_mod_self_right, Nat.mod_eq_of_lt hv]
theorem qA_digit (r o v j : Nat) (hr : r < 2 ^ (32 * j)) (hv : v < 2 ^ 32) :
    (qA (r + o * 2 ^ (32 * j))).setIfInBounds j (.int .u64 (v : Int)) = qA (r + v * 2 ^ (32 * j) + o / 2 ^ 32 * 2 ^ (32 * (j + 1))) := by
  obtain ⟨d1, d2⟩ := top_drop v (o / 2 ^ 32) (2 ^ 32) hv
  have e : r + v * 2 ^ (32 * j) + o / 2 ^ 32 * 2 ^ (32 * (j + 1)) = r + (v + o / 2 ^ 32 * 2 ^ 32) * 2 ^ (32 * j) := by
    rw [pow32]; exact regroup _ _ _ _ _
  have h1 : dg (r + (v + o / 2 ^ 32 * 2 ^ 32) * 2 ^ (32 * j)) j = v := by rw [dg_at _ _ _ hr, d2]
  have h2 : ∀ i, i < 7 → i ≠ j → dg (r + (v + o / 2 ^ 32 * 2 ^ 32) * 2 ^ (32 * j)) i = dg (r + o * 2 ^ (32 * j)) i := fun i _ hi => by
    rcases Nat.lt_or_ge i j with h | h
    · rw [dg_low' _ _ _ _ h, dg_low' _ _ _ _ h]
    · rw [dg_high' _ _ _ _ (by omega) hr, dg_high' _ _ _ _ (by omega) hr, d1]
  rw [e]
  generalize r + (v + o / 2 ^ 32 * 2 ^ 32) * 2 ^ (32 * j) = M at h1 h2 ⊢
  generalize r + o * 2 ^ (32 * j) = N at h2 ⊢
  exact qA_set N M j (v : Int) (by rw [h1]) h2

/-- One step of adding with a carry: the sum stays. -/
theorem add_step (r c o y x f S j : Nat) (hS : S = c + (o % 2 ^ 32 + y * f)) :
    r + (c + o + (y + 2 ^ 32 * x) * f) * 2 ^ (32 * j) = (r + S % 2 ^ 32 * 2 ^ (32 * j)) + (S / 2 ^ 32 + o / 2 ^ 32 + x * f) * 2 ^ (32 * (j + 1)) := by
  have ho := Nat.div_add_mod o (2 ^ 32)
  have hs := Nat.div_add_mod S (2 ^ 32)
  generalize o % 2 ^ 32 = a at *
  generalize o / 2 ^ 32 = b at *
  generalize S % 2 ^ 32 = v at *
  generalize S / 2 ^ 32 = t at *
  rw [pow32, Nat.add_mul y, Nat.mul_assoc (2 ^ 32) x f]
  generalize y * f = p at *
  generalize x * f = g at *
  have e : c + o + (p + 2 ^ 32 * g) = v + (t + b + g) * 2 ^ 32 := by omega
  rw [e, Nat.add_mul, Nat.mul_assoc, Nat.mul_comm (2 ^ 32)]
  simp only [Nat.add_assoc]
theorem add_lt (r v j : Nat) (hr : r < 2 ^ (32 * j)) (hv : v < 2 ^ 32) : r + v * 2 ^ (32 * j) < 2 ^ (32 * (j + 1)) := by
  rw [pow32, Nat.mul_comm (2 ^ (32 * j))]
  have : (v + 1) * 2 ^ (32 * j) ≤ 2 ^ 32 * 2 ^ (32 * j) := Nat.mul_le_mul_right _ hv
  rw [Nat.add_mul, Nat.one_mul] at this
  omega
theorem mul_lt32 (y f : Nat) (hy : y < 2 ^ 32) (hf : f < 2 ^ 32) : y * f ≤ 18446744065119617025 := Nat.mul_le_mul (show y ≤ 4294967295 by omega) (show f ≤ 4294967295 by omega)

theorem idx2 (x0 x1 : Value) (i : Nat) (hi : i < 2) (w : World) : (Instr.index 145 (.agg #[x0, x1]) (.int .i64 (i : Int))).run Try.prog w = .ok (if i = 0 then x0 else x1) w := by
  have h : i = 0 ∨ i = 1 := by omega
  rcases h with rfl | rfl
  · simp [Instr.index, go_sem]
  · simp [Instr.index, go_sem]
theorem mul_step (n k : Nat) : n / 2 ^ (32 * k) = dg n k + 2 ^ 32 * (n / 2 ^ (32 * (k + 1))) := by
  unfold dg
  rw [pow32, ← Nat.div_div_eq_div_mul, Nat.mod_add_div]

theorem mod_cong (r x O P z : Nat) (h : r + x * P = O + z) : r % P = (O + z) % P := by rw [← h, Nat.add_mul_mod_self_right]
theorem times_next (n m f0 f1 f i O N r z : Nat) (hi : i < 2) (hf : f = if i = 0 then f0 else f1) (hm : m = f0 + f1 * 2 ^ 32) (hO : O % 2 ^ 224 = (n * (if i = 0 then 0 else if i = 1 then f0 else m)) % 2 ^ 224)
    (h : r + z * 2 ^ (32 * 7) = O + n * f * 2 ^ (32 * i)) (o : Nat) (hN : N = r + o * 2 ^ (32 * 7)) : N % 2 ^ 224 = (n * (if i + 1 = 0 then 0 else if i + 1 = 1 then f0 else m)) % 2 ^ 224 := by
  have e0 : (2 : Nat) ^ (32 * 7) = 2 ^ 224 := by congr 1
  rw [e0] at h hN
  have e1 : N % 2 ^ 224 = (O + n * f * 2 ^ (32 * i)) % 2 ^ 224 := by rw [hN, Nat.add_mul_mod_self_right]; exact mod_cong _ _ _ _ _ h
  rw [e1, Nat.add_mod, hO, ← Nat.add_mod]
  have h2 : i = 0 ∨ i = 1 := by omega
  rcases h2 with rfl | rfl
  · simp [hf]
  · have hf' : f = f1 := by simpa using hf
    have e2 : (if 1 + 1 = 0 then 0 else if 1 + 1 = 1 then f0 else m) = m := by simp
    have e3 : (if 1 = 0 then 0 else if 1 = 1 then f0 else m) = f0 := by simp
    rw [e2, e3, hf', hm, Nat.mul_add, Nat.mul_assoc, Nat.mul_one]
theorem add_step0 (r c o S j : Nat) (hS : S = c + o % 2 ^ 32) : r + (c + o) * 2 ^ (32 * j) = (r + S % 2 ^ 32 * 2 ^ (32 * j)) + (S / 2 ^ 32 + o / 2 ^ 32) * 2 ^ (32 * (j + 1)) := by
  have := add_step r c o 0 0 0 S j (by omega)
  simpa using this
theorem more_next (M m f0 f1 f i O N r z : Nat) (hi : i < 2) (hf : f = if i = 0 then f0 else f1) (hm : m = f0 + f1 * 2 ^ 32) (hO : O % 2 ^ 224 = (M + (if i = 0 then 0 else if i = 1 then f0 else m)) % 2 ^ 224)
    (h : r + z * 2 ^ (32 * 7) = O + f * 2 ^ (32 * i)) (o : Nat) (hN : N = r + o * 2 ^ (32 * 7)) : N % 2 ^ 224 = (M + (if i + 1 = 0 then 0 else if i + 1 = 1 then f0 else m)) % 2 ^ 224 := by
  have e0 : (2 : Nat) ^ (32 * 7) = 2 ^ 224 := by congr 1
  rw [e0] at h hN
  have e1 : N % 2 ^ 224 = (O + f * 2 ^ (32 * i)) % 2 ^ 224 := by rw [hN, Nat.add_mul_mod_self_right]; exact mod_cong _ _ _ _ _ h
  rw [e1, Nat.add_mod, hO, ← Nat.add_mod]
  have h2 : i = 0 ∨ i = 1 := by omega
  rcases h2 with rfl | rfl
  · simp [hf]
  · have hf' : f = f1 := by simpa using hf
    have e2 : (if 1 + 1 = 0 then 0 else if 1 + 1 = 1 then f0 else m) = m := by simp
    have e3 : (if 1 = 0 then 0 else if 1 = 1 then f0 else m) = f0 := by simp
    rw [e2, e3, hf', hm, Nat.add_assoc, Nat.mul_one]

set_option maxRecDepth 100000 in
set_option maxHeartbeats 1000000 in
theorem times_any (n m more : Nat) (w : World) (hm : m < 2 ^ 64) (hmore : more < 2 ^ 64) :
    Calls Try.prog 96 #[.agg (qA n), .int .u64 m, .int .u64 more] w fun e w' => e = .returned (.agg (qA (n * m + more))) ∧ Below w.heap.size w w' := by
  have hz : ∀ w, (zeroValue 135).run Try.prog w = .ok (.agg (qA 0)) w := fun w => by
    rw [qA_zero]
    exact (zero_of_info' quart_info) w
  have e1 := and32 m hm
  have e2 := and32 more hmore
  have e3 : (m : Int) / 4294967296 = ((m / 2 ^ 32 : Nat) : Int) := by omega
  have e4 : (more : Int) / 4294967296 = ((more / 2 ^ 32 : Nat) : Int) := by omega
  have F0 := Lib.hid (show m % 2 ^ 32 < 2 ^ 32 from Nat.mod_lt _ (by decide))
  have F1 := Lib.hid (show m / 2 ^ 32 < 2 ^ 32 by omega)
  have F2 := Lib.hid (show m = m % 2 ^ 32 + m / 2 ^ 32 * 2 ^ 32 by omega)
  have G0 := Lib.hid (show more % 2 ^ 32 < 2 ^ 32 from Nat.mod_lt _ (by decide))
  have G1 := Lib.hid (show more / 2 ^ 32 < 2 ^ 32 by omega)
  have G2 := Lib.hid (show more = more % 2 ^ 32 + more / 2 ^ 32 * 2 ^ 32 by omega)
  generalize m % 2 ^ 32 = f0 at *
  generalize m / 2 ^ 32 = f1 at *
  generalize more % 2 ^ 32 = g0 at *
  generalize more / 2 ^ 32 = g1 at *
  have hm0 : 0 ≤ (m : Int) := by omega
  have hm1 : 0 ≤ (more : Int) := by omega
  clear hm hmore
  go_enter Try.func96, Try.ntmps96
  go_wp2_with fail
  go_loopw [21] (fun t wr => ∃ i c O : Nat, i ≤ 2 ∧ t = .int .i64 i ∧ Hid (O % 2 ^ 224 = (n * (if i = 0 then 0 else if i = 1 then f0 else m)) % 2 ^ 224) ∧
      wr = (((w.alloc (Obj.cells (qA n) 135)).alloc (Obj.cells (qA 0) 135)).alloc (Obj.cells (qA O) 135)).drewN c)
    (fun t _ => 2 - (intOf t).toNat)
  case atStart => exact ⟨0, 0, 0, by omega, rfl, rfl, rfl⟩
  case round =>
    obtain ⟨i, c0, O, hi, rfl, HO, rfl⟩ := hrel
    by_cases hlt : i < 2
    · have hi2 : (i : Int) < 2 := by omega
      have hidx := idx2 (.int .u64 (f0 : Int)) (.int .u64 (f1 : Int)) i hlt
      obtain ⟨f, hf⟩ : ∃ f, f = if i = 0 then f0 else f1 := ⟨_, rfl⟩
      have hff : (if i = 0 then Value.int .u64 (f0 : Int) else .int .u64 (f1 : Int)) = .int .u64 (f : Int) := by rw [hf]; split <;> rfl
      rw [hff] at hidx
      have FF := Lib.hid (show f < 2 ^ 32 by rw [hf]; split <;> first | exact F0.out | exact F1.out)
      have HF := Lib.hid hf
      clear hff hf
      obtain ⟨wo, hwo⟩ : ∃ wo : World, wo = (((w.alloc (Obj.cells (qA n) 135)).alloc (Obj.cells (qA 0) 135)).alloc (Obj.cells (qA O) 135)).drewN c0 := ⟨_, rfl⟩
      have Hwo := Lib.hid hwo
      rw [← hwo]
      clear hwo
      go_wp2_with fail
      go_loopw [10, 11] (fun t10 t11 wr => ∃ k r c o g : Nat, k + i ≤ 7 ∧ t11 = .int .i64 k ∧ t10 = .int .u64 c ∧ Hid (c < 2 ^ 32) ∧ Hid (r < 2 ^ (32 * (k + i))) ∧ Hid (r + (c + o + n / 2 ^ (32 * k) * f) * 2 ^ (32 * (k + i)) = O + n * f * 2 ^ (32 * i)) ∧
          wr = (((w.alloc (Obj.cells (qA n) 135)).alloc (Obj.cells (qA 0) 135)).alloc (Obj.cells (qA (r + o * 2 ^ (32 * (k + i)))) 135)).drewN g)
        (fun _ t11 _ => 7 - (intOf t11).toNat)
      case atStart =>
        refine ⟨0, O % 2 ^ (32 * i), 0, O / 2 ^ (32 * i), c0, by omega, rfl, rfl, (by decide : 0 < 2 ^ 32), ?_, ?_, ?_⟩
        · rw [Nat.zero_add]; exact (Nat.mod_lt _ (Nat.two_pow_pos _) : _ < _)
        · show _ = _
          rw [Nat.zero_add, Nat.mul_zero, Nat.pow_zero, Nat.div_one, Nat.zero_add, Nat.add_mul, ← Nat.add_assoc, Nat.mod_add_div']
        · rw [Nat.zero_add, Nat.mod_add_div']; exact Hwo.out
      case round =>
        clear Hwo hidx
        obtain ⟨k, r, c, o, g, hk, rfl, rfl, HC, HR, HT, rfl⟩ := hrel
        by_cases hlt2 : k + i < 7
        · have hk7 : k < 7 := by omega
          have hb1 : (k : Int) + (i : Int) < 7 := by omega
          have hb2 : (k : Int) < 7 := by omega
          have hq := qA_get n k hk7
          have hsz := qA_size (r + o * 2 ^ (32 * (k + i)))
          have ho := qA_at (r + o * 2 ^ (32 * (k + i))) (k + i) (by rw [hsz]; exact hlt2)
          rw [dg_at _ _ _ HR.out] at ho
          have hp := mul_lt32 (dg n k) f (dg_lt n k) FF.out
          have ha : o % 2 ^ 32 < 4294967296 := Nat.mod_lt _ (by decide)
          have hc : c < 4294967296 := HC.out
          obtain ⟨S, hS⟩ : ∃ S, S = c + (o % 2 ^ 32 + dg n k * f) := ⟨_, rfl⟩
          have hcast : (c : Int) + (((o % 2 ^ 32 : Nat) : Int) + (dg n k : Int) * (f : Int)) = (S : Int) := by rw [hS]; simp
          have hS64 : S < 2 ^ 64 := by omega
          have hv := and32 S hS64
          have hcar : (S : Int) / 4294967296 = ((S / 2 ^ 32 : Nat) : Int) := by omega
          have hp1 : (dg n k : Int) * (f : Int) ≤ 18446744065119617025 := by rw [← Int.natCast_mul]; exact Int.ofNat_le.2 hp
          have hp0 : 0 ≤ (dg n k : Int) * (f : Int) := by rw [← Int.natCast_mul]; exact Int.natCast_nonneg _
          have ha' : ((o % 2 ^ 32 : Nat) : Int) < 4294967296 := Int.ofNat_lt.2 ha
          have hS0 : 0 ≤ (S : Int) := Int.natCast_nonneg _
          have HV := Lib.hid (show S % 2 ^ 32 < 2 ^ 32 from Nat.mod_lt _ (by decide))
          have HTT := Lib.hid (show S / 2 ^ 32 < 2 ^ 32 by omega)
          have HADD := Lib.hid (add_step r c o (dg n k) (n / 2 ^ (32 * (k + 1))) f S (k + i) hS)
          rw [← mul_step] at HADD
          have HD := Lib.hid (qA_digit r o (S % 2 ^ 32) (k + i) HR.out HV.out)
          have HLT := Lib.hid (add_lt r (S % 2 ^ 32) (k + i) HR.out HV.out)
          clear hS hS64 hp ha
          generalize S % 2 ^ 32 = v at *
          generalize S / 2 ^ 32 = t at *
          generalize hoa : o % 2 ^ 32 = a at ho hcast ha'
          clear hoa
          go_wp2_with fail
          go_quiet (fail)
          go_wp2_with fail
          refine ⟨⟨k + 1, r + v * 2 ^ (32 * (k + i)), t, o / 2 ^ 32, g + nq, by omega, by go_num, rfl, HTT.out, ?_, ?_, ?_⟩, by simp [intOf]; omega⟩
          · rw [show k + 1 + i = k + i + 1 by omega]; exact HLT.out
          · show _ = _
            rw [show k + 1 + i = k + i + 1 by omega, ← HADD.out]; exact HT.out
          · rw [show k + 1 + i = k + i + 1 by omega, setCell_drewN, World.setCell_alloc_at _ _ _ _ _ (by simp), HD.out]
        · have hb1 : 7 ≤ (k : Int) + (i : Int) := by omega
          have hki : k + i = 7 := by omega
          have HO2 := Lib.hid (times_next n m f0 f1 f i O (r + o * 2 ^ (32 * (k + i))) r _ hlt HF.out F2.out HO.out (by have := HT.out; rwa [hki] at this) o (by rw [hki]))
          generalize r + o * 2 ^ (32 * (k + i)) = N at HO2 ⊢
          clear hki HT HO HR
          go_wp2_with fail
          exact ⟨⟨i + 1, g, N, by omega, by go_num, HO2.out, rfl⟩, by simp [intOf]; omega⟩
    · have hi2 : 2 ≤ (i : Int) := by omega
      have HO' : Hid (O % 2 ^ 224 = (n * m) % 2 ^ 224) := by
        obtain rfl : i = 2 := by omega
        exact HO.out
      clear HO
      go_wp2_with fail
      go_loopw [58] (fun t wr => ∃ i c O : Nat, i ≤ 2 ∧ t = .int .i64 i ∧ Hid (O % 2 ^ 224 = (n * m + (if i = 0 then 0 else if i = 1 then g0 else more)) % 2 ^ 224) ∧
          wr = (((w.alloc (Obj.cells (qA n) 135)).alloc (Obj.cells (qA 0) 135)).alloc (Obj.cells (qA O) 135)).drewN c)
        (fun t _ => 2 - (intOf t).toNat)
      case atStart => exact ⟨0, c0, O, by omega, rfl, HO'.out, rfl⟩
      case round =>
        clear HO'
        obtain ⟨i, c0, O, hi, rfl, HO, rfl⟩ := hrel
        by_cases hlt : i < 2
        · have hi2 : (i : Int) < 2 := by omega
          have hidx := idx2 (.int .u64 (g0 : Int)) (.int .u64 (g1 : Int)) i hlt
          obtain ⟨f, hf⟩ : ∃ f, f = if i = 0 then g0 else g1 := ⟨_, rfl⟩
          have hff : (if i = 0 then Value.int .u64 (g0 : Int) else .int .u64 (g1 : Int)) = .int .u64 (f : Int) := by rw [hf]; split <;> rfl
          rw [hff] at hidx
          have FF := Lib.hid (show f < 2 ^ 32 by rw [hf]; split <;> first | exact G0.out | exact G1.out)
          have HF := Lib.hid hf
          clear hff hf
          obtain ⟨wo, hwo⟩ : ∃ wo : World, wo = (((w.alloc (Obj.cells (qA n) 135)).alloc (Obj.cells (qA 0) 135)).alloc (Obj.cells (qA O) 135)).drewN c0 := ⟨_, rfl⟩
          have Hwo := Lib.hid hwo
          rw [← hwo]
          clear hwo
          go_wp2_with fail
          go_loopw [14, 15] (fun t14 t15 wr => ∃ k r c o g : Nat, k ≤ 7 ∧ t15 = .int .i64 k ∧ t14 = .int .u64 c ∧ Hid (c < 2 ^ 32) ∧ Hid (r < 2 ^ (32 * k)) ∧ Hid (r + (c + o) * 2 ^ (32 * k) = O + f * 2 ^ (32 * i)) ∧
              wr = (((w.alloc (Obj.cells (qA n) 135)).alloc (Obj.cells (qA 0) 135)).alloc (Obj.cells (qA (r + o * 2 ^ (32 * k))) 135)).drewN g)
            (fun _ t15 _ => 7 - (intOf t15).toNat)
          case atStart =>
            refine ⟨i, O % 2 ^ (32 * i), f, O / 2 ^ (32 * i), c0, by omega, rfl, rfl, FF.out, (Nat.mod_lt _ (Nat.two_pow_pos _) : _ < _), ?_, ?_⟩
            · show _ = _
              rw [Nat.add_comm f, Nat.add_mul, ← Nat.add_assoc, Nat.mod_add_div']
            · rw [Nat.mod_add_div']; exact Hwo.out
          case round =>
            clear Hwo hidx
            obtain ⟨k, r, c, o, g, hk, rfl, rfl, HC, HR, HT, rfl⟩ := hrel
            by_cases hlt2 : k < 7
            · have hb2 : (k : Int) < 7 := by omega
              have hsz := qA_size (r + o * 2 ^ (32 * k))
              have ho := qA_at (r + o * 2 ^ (32 * k)) k (by rw [hsz]; exact hlt2)
              rw [dg_at _ _ _ HR.out] at ho
              have ha : o % 2 ^ 32 < 4294967296 := Nat.mod_lt _ (by decide)
              have hc : c < 4294967296 := HC.out
              obtain ⟨S, hS⟩ : ∃ S, S = c + o % 2 ^ 32 := ⟨_, rfl⟩
              have hcast : (c : Int) + ((o % 2 ^ 32 : Nat) : Int) = (S : Int) := by rw [hS]; simp
              have hS64 : S < 2 ^ 64 := by omega
              have hv := and32 S hS64
              have hcar : (S : Int) / 4294967296 = ((S / 2 ^ 32 : Nat) : Int) := by omega
              have ha' : ((o % 2 ^ 32 : Nat) : Int) < 4294967296 := Int.ofNat_lt.2 ha
              have hS0 : 0 ≤ (S : Int) := Int.natCast_nonneg _
              have HV := Lib.hid (show S % 2 ^ 32 < 2 ^ 32 from Nat.mod_lt _ (by decide))
              have HTT := Lib.hid (show S / 2 ^ 32 < 2 ^ 32 by omega)
              have HADD := Lib.hid (add_step0 r c o S k hS)
              have HD := Lib.hid (qA_digit r o (S % 2 ^ 32) k HR.out HV.out)
              have HLT := Lib.hid (add_lt r (S % 2 ^ 32) k HR.out HV.out)
              clear hS hS64 ha
              generalize S % 2 ^ 32 = v at *
              generalize S / 2 ^ 32 = t at *
              generalize hoa : o % 2 ^ 32 = a at ho hcast ha'
              clear hoa
              go_wp2_with fail
              refine ⟨⟨k + 1, r + v * 2 ^ (32 * k), t, o / 2 ^ 32, g, by omega, by go_num, rfl, HTT.out, HLT.out, ?_, ?_⟩, by simp [intOf]; omega⟩
              · show _ = _
                rw [← HADD.out]; exact HT.out
              · rw [setCell_drewN, World.setCell_alloc_at _ _ _ _ _ (by simp), HD.out]
            · have hb1 : 7 ≤ (k : Int) := by omega
              have hki : k = 7 := by omega
              have HO2 := Lib.hid (more_next (n * m) more g0 g1 f i O (r + o * 2 ^ (32 * k)) r _ hlt HF.out G2.out HO.out (by have := HT.out; rwa [hki] at this) o (by rw [hki]))
              generalize r + o * 2 ^ (32 * k) = N at HO2 ⊢
              clear hki HT HO HR
              go_wp2_with fail
              exact ⟨⟨i + 1, g, N, by omega, by go_num, HO2.out, rfl⟩, by simp [intOf]; omega⟩
        · have hi2 : 2 ≤ (i : Int) := by omega
          have HN : Hid (qA O = qA (n * m + more)) := by
            obtain rfl : i = 2 := by omega
            exact qA_cong _ _ HO.out
          clear HO
          have f1 : IsQ ((((w.alloc (Obj.cells (qA n) 135)).alloc (Obj.cells (qA 0) 135)).alloc (Obj.cells (qA O) 135)).drewN c0) (w.heap.size + 1 + 1) O := by
            show (((w.alloc (Obj.cells (qA n) 135)).alloc (Obj.cells (qA 0) 135)).alloc (Obj.cells (qA O) 135)).heap[_]? = _
            exact (by repeat (first | (with_reducible refine heap_top _ _ _ ?_; first | (simp; done) | (simp; omega)) | rw [Below.heap_alloc _ _ _ (by first | (simp; done) | (simp; omega))]))
          have f2 : IsQ ((((w.alloc (Obj.cells (qA n) 135)).alloc (Obj.cells (qA 0) 135)).alloc (Obj.cells (qA O) 135)).drewN c0) (w.heap.size + 1) 0 := by
            show (((w.alloc (Obj.cells (qA n) 135)).alloc (Obj.cells (qA 0) 135)).alloc (Obj.cells (qA O) 135)).heap[_]? = _
            exact (by repeat (first | (with_reducible refine heap_top _ _ _ ?_; first | (simp; done) | (simp; omega)) | rw [Below.heap_alloc _ _ _ (by first | (simp; done) | (simp; omega))]))
          have f3 : Below w.heap.size w ((((w.alloc (Obj.cells (qA n) 135)).alloc (Obj.cells (qA 0) 135)).alloc (Obj.cells (qA O) 135)).drewN c0) :=
            below_drewN ((((Below.refl _ _).alloc (Nat.le_refl _) _).alloc (by simp) _).alloc (by simp; omega) _) c0
          generalize (((w.alloc (Obj.cells (qA n) 135)).alloc (Obj.cells (qA 0) 135)).alloc (Obj.cells (qA O) 135)).drewN c0 = W at f1 f2 f3 ⊢
          go_wp2_with (first
            | (with_reducible refine wpQ_load rfl (.tmp 7) rfl (w.heap.size + 1 + 1) rfl O f1 ?_)
            | (with_reducible refine wpQ_store rfl (.tmp 6) (.tmp 80) rfl (w.heap.size + 1) rfl O 0 rfl f2 ?_; intro w1 hp1))
          exact retQ rfl rfl hp1.row ⟨by rw [HN.out], hp1.below _ _ (by omega) f3⟩

end Go.Proofs.Ytoljahfofkmdaaa

/-! The functions of mainsheetref03 on rows of 256 bits: their contracts, whatever the world. -/
namespace Go.Proofs.Ytoljahfofkmdaaa
open Go.RowKit

section
variable {ops : Array Oper} {rest : List Oper} {o : Oper} {a : Act} {w : World} {Q : Exit → Act → World → Prop}
end

end Go.Proofs.Ytoljahfofkmdaaa

/-! More of mainsheetref03's functions on rows of 256 bits: their contracts, whatever the world. -/
namespace Go.Proofs.Ytoljahfofkmdaaa
open Go.RowKit

end Go.Proofs.Ytoljahfofkmdaaa

/-! mainsheetref03's product and quotient on rows of 256 bits: their contracts, whatever the world. -/
namespace Go.Proofs.Ytoljahfofkmdaaa
open Go.RowKit

section
variable {ops : Array Oper} {rest : List Oper} {o : Oper} {a : Act} {w : World} {Q : Exit → Act → World → Prop}
end

/-- A block of bits in a world. -/
@[reducible] def IsB (w : World) (g n : Nat) : Prop := w.heap[g]? = some (.cells (bA n) 110 (0, 0))

end Go.Proofs.Ytoljahfofkmdaaa

/-! mainsheetref03's quotient on rows of 256 bits: its contract, whatever the world. -/
namespace Go.Proofs.Ytoljahfofkmdaaa
open Go.RowKit

section
variable {ops : Array Oper} {C : (Nat → Bool) → World → Prop} {Q : Act → Prop} {o : Oper} {rest : List Oper} {i : Nat} {a : Act}
end

/-- The six blocks of the quotient's walk, in a world. -/
structure QW (B : Nat) (w0 : World) (a d out rest : Nat) (w : World) : Prop where
  a : IsB w B a
  d : IsB w (B + 1) d
  q0 : IsB w (B + 1 + 1) 0
  r0 : IsB w (B + 1 + 1 + 1) 0
  out : IsB w (B + 1 + 1 + 1 + 1) out
  rest : IsB w (B + 1 + 1 + 1 + 1 + 1) rest
  below : Below B w0 w
  size : B + 1 + 1 + 1 + 1 + 1 < w.heap.size

theorem QW.kept {B : Nat} {w0 w w1 : World} {a d out rest : Nat} (h : QW B w0 a d out rest w) (hb : Below w.heap.size w w1) : QW B w0 a d out rest w1 := by
  have hs := h.size
  have hb1 := hb.size
  exact ⟨(hb.block _ (by omega)).trans h.a, (hb.block _ (by omega)).trans h.d, (hb.block _ (by omega)).trans h.q0, (hb.block _ (by omega)).trans h.r0, (hb.block _ (by omega)).trans h.out,
    (hb.block _ (by omega)).trans h.rest, h.below.trans (hb.mono (by omega)), by omega⟩
end Go.Proofs.Ytoljahfofkmdaaa

/-! mainsheetref03's Of, Number and Scaled: their contracts, whatever the world. -/
namespace Go.Proofs.Ytoljahfofkmdaaa
open Go.RowKit

/-- The bits of a number's two halves, so many of each. -/
def ofAt (h l k : Nat) : Nat → Bool := fun j => if j < 64 then decide (j < k) && l.testBit j else decide (j - 64 < k) && h.testBit (j - 64)
/-- Has the row no more than 128 bits? -/
def fits (b : Nat) : Bool := decide (b % 2 ^ 256 < 2 ^ 128)
end Go.Proofs.Ytoljahfofkmdaaa

/-! mainsheetref03's Scaled: its contract, whatever the world. -/
namespace Go.Proofs.Ytoljahfofkmdaaa
open Go.RowKit

/-- A product over a number, rounded up, if so. -/
def scl (n m d : Nat) (up : Bool) : Nat := n * m / d + (if up && n * m % d != 0 then 1 else 0)

end Go.Proofs.Ytoljahfofkmdaaa

/-! package wide's Mul, Div, scaled, Scale, MulDiv: their contracts, whatever the world. -/
namespace Go.Proofs.Ytoljahfofkmdaaa
open Go.RowKit

theorem Below.two {B : Nat} {w0 w w1 : World} (h : Below B w0 w) (hB : B ≤ w0.heap.size) (h1 : Below w.heap.size w w1) : Below B w0 w1 := h.trans (h1.mono (Nat.le_trans hB h.size))

end Go.Proofs.Ytoljahfofkmdaaa

/-! package wide's scaled, Scale, MulDiv: their contracts, whatever the world. -/
namespace Go.Proofs.Ytoljahfofkmdaaa
open Go.RowKit

/-- What is handed back: the number, if it has no more than 128 bits. -/
def sclRes (v : Nat) (h l e : Nat) : Prop := if v < 2 ^ 128 then h * 2 ^ 64 + l = v ∧ e = 0 else h = 0 ∧ l = 0 ∧ e = 131

theorem sclRes_yes {v h l : Nat} (hv : v < 2 ^ 128) (hn : h * 2 ^ 64 + l = v) : sclRes v h l 0 := by unfold sclRes; rw [if_pos hv]; exact ⟨hn, rfl⟩
theorem sclRes_no {v : Nat} (hv : ¬ v < 2 ^ 128) : sclRes v 0 0 131 := by unfold sclRes; rw [if_neg hv]; exact ⟨rfl, rfl, rfl⟩
theorem scl_lt (n m d : Nat) (up : Bool) (hn : n < 2 ^ 128) (hm : m < 2 ^ 64) : n * m / d + 1 < 2 ^ 224 ∧ scl n m d up < 2 ^ 224 := by
  have h1 : n * m < 2 ^ 192 := Nat.lt_of_lt_of_le (Nat.mul_lt_mul'' hn hm) (by decide)
  have h2 := Nat.div_le_self (n * m) d
  have h3 : n * m / d + 1 < 2 ^ 224 := Nat.lt_of_le_of_lt (Nat.succ_le_of_lt (Nat.lt_of_le_of_lt h2 h1)) (by decide)
  refine ⟨h3, ?_⟩
  unfold scl
  split
  · exact h3
  · exact Nat.lt_trans (Nat.lt_succ_self _) h3

theorem times_one (q : Nat) (w : World) : Calls Try.prog 96 #[.agg (qA q), .int .u64 1, .int .u64 1] w fun e w' => e = .returned (.agg (qA (q + 1))) ∧ Below w.heap.size w w' := by
  have := times_any q 1 1 w (by decide) (by decide)
  rw [Nat.mul_one] at this
  exact this

set_option maxRecDepth 100000 in
set_option maxHeartbeats 1000000 in
theorem wscaled_any (h l n m d : Nat) (up : Bool) (w : World) (hh : h < 2 ^ 64) (hl : l < 2 ^ 64) (hn : h * 2 ^ 64 + l = n) (hm : m < 2 ^ 64) (hd0 : 0 < d) (hd : d < 2 ^ 64) :
    Calls Try.prog 86 #[.agg #[.int .u64 h, .int .u64 l], .int .u64 m, .int .u64 d, .bool up] w fun e w' =>
      ∃ h' l' c : Nat, e = .returned (.tuple #[.agg #[.int .u64 h', .int .u64 l'], .int .i64 c]) ∧ h' < 2 ^ 64 ∧ l' < 2 ^ 64 ∧ sclRes (scl n m d up) h' l' c ∧ Below w.heap.size w w' := by
  have HH := Lib.hid hh
  have HL := Lib.hid hl
  have HN := Lib.hid hn
  have HM := Lib.hid hm
  have HD0 := Lib.hid hd0
  have HD := Lib.hid hd
  have hV := scl_lt n m d up (show n < 2 ^ 128 by omega) hm
  have HNM := Lib.hid (show n * m + 0 < 2 ^ 224 from Nat.lt_of_lt_of_le (Nat.mul_lt_mul'' (show n < 2 ^ 128 by omega) hm) (by decide))
  have hz : ((d : Int) == 0) = false := by rw [beq_eq_false_iff_ne]; omega
  have HV1 := Lib.hid hV.1
  have HV2 := Lib.hid hV.2
  clear hh hl hn hm hd0 hd hV
  go_enter Try.func86, Try.ntmps86
  go_wp2_with fail
  refine (wof_any h l n _ HH.out HL.out HN.out).mono ?_
  rintro e w1 ⟨rfl, hb1⟩
  have r1 : IsW w1 (w.heap.size + 1) 0 0 := IsR.kept (by unfold IsR; exact (by repeat (first | (with_reducible refine heap_top _ _ _ ?_; first | (simp; done) | (simp; omega)) | rw [Below.heap_alloc _ _ _ (by first | (simp; done) | (simp; omega))]))) hb1
  have k1 : Below w.heap.size w w1 := Below.two (((Below.refl _ _).alloc (Nat.le_refl _) _).alloc (by simp) _) (Nat.le_refl _) hb1
  clear hb1
  go_wp2_with fail
  refine (times_any n m 0 _ HM.out (by decide)).mono ?_
  rintro e w2 ⟨rfl, hb2⟩
  have r2 := r1.kept hb2
  have k2 := Below.two k1 (Nat.le_refl _) hb2
  clear hb2 r1 k1
  go_wp2_with fail
  refine (over_any (n * m + 0) d _ HNM.out HD0.out HD.out).mono ?_
  rintro e w3 ⟨rfl, hb3⟩
  have r3 := r2.kept hb3
  have k3 := Below.two k2 (Nat.le_refl _) hb3
  have s3 := r3.lt
  clear hb3 r2 k2
  rw [Nat.add_zero]
  obtain ⟨q, hq⟩ : ∃ q, n * m / d = q := ⟨_, rfl⟩
  obtain ⟨r, hr⟩ : ∃ r, n * m % d = r := ⟨_, rfl⟩
  rw [hq, hr]
  have hscl : scl n m d up = q + (if up && r != 0 then 1 else 0) := by rw [← hq, ← hr]; rfl
  rw [hq] at HV1
  have HS := Lib.hid hscl
  clear hscl hq hr HNM
  cases up
  · have HE : Hid (scl n m d false = q) := HS.out.trans (by simp)
    clear HS HV1
    go_wp2_with (first
      | (with_reducible refine wpQ_store rfl (.tmp 10) (.tmp 24) rfl w3.heap.size rfl q 0 rfl (by unfold IsQ; rw [qA_zero]; unfold IsR; exact (by repeat (first | (with_reducible refine heap_top _ _ _ ?_; first | (simp; done) | (simp; omega)) | rw [Below.heap_alloc _ _ _ (by first | (simp; done) | (simp; omega))]))) ?_; intro w4 hp4; have r4 : IsW w4 (w.heap.size + 1) 0 0 := IsR.put (r3.alloc _) hp4 (by omega); have k4 := hp4.below w.heap.size w (by omega) (k3.alloc (by omega) _); have q4 := hp4.row)
      | (with_reducible refine wpQ_load rfl (.tmp 10) rfl w3.heap.size rfl q q4 ?_))
    refine (qwide_any q _ (by rw [← HE.out]; exact HV2.out)).mono ?_
    rintro e w5 ⟨h', l', rfl, hh', hl', hn', hb5⟩
    have HH' := Lib.hid hh'
    have HL' := Lib.hid hl'
    have HN' := Lib.hid hn'
    have r5 : IsW w5 (w.heap.size + 1) 0 0 := r4.kept hb5
    have k5 := Below.two k4 (Nat.le_refl _) hb5
    have s5 := r5.lt
    clear hb5 hh' hl' hn'
    by_cases hf : q < 2 ^ 128
    · rw [show few (q) = true from decide_eq_true hf]
      have HF := Lib.hid hf
      clear hf
      go_wp2_with (first
        | (with_reducible refine wpW_store rfl (.tmp 12) (.tmp 36) rfl w5.heap.size rfl h' l' 0 0 rfl (by (show (_ : World).heap[_]? = some _); repeat (first | (with_reducible refine heap_top _ _ _ ?_; first | (simp; done) | (simp; omega)) | rw [Below.heap_alloc _ _ _ (by first | (simp; done) | (simp; omega))])) ?_; intro w6 hp6; have r6 : IsW w6 (w.heap.size + 1) 0 0 := IsR.put (r5.alloc _) hp6 (by omega); have k6 := hp6.below w.heap.size w (by omega) (k5.alloc (by omega) _); have q6 := hp6.row)
        | (with_reducible refine wpW_load rfl (.tmp 12) rfl w5.heap.size rfl h' l' q6 ?_)
        | (with_reducible refine wpW_store rfl (.tmp 8) (.tmp 41) rfl (w.heap.size + 1) rfl h' l' 0 0 rfl r6 ?_; intro w7 hp7))
      refine retW1 rfl rfl (.int .i64 (0 : Nat)) rfl hp7.row ⟨h', l', 0, rfl, HH'.out, HL'.out, ?_, hp7.below _ _ (by omega) k6⟩
      rw [HE.out]
      exact (sclRes_yes HF.out (HN'.out.trans (Nat.mod_eq_of_lt HF.out)) : sclRes _ _ _ _)
    · rw [show few (q) = false from decide_eq_false hf]
      have HF := Lib.hid hf
      clear hf
      go_wp2_with (first
        | (with_reducible refine wpW_store rfl (.tmp 12) (.tmp 36) rfl w5.heap.size rfl h' l' 0 0 rfl (by (show (_ : World).heap[_]? = some _); repeat (first | (with_reducible refine heap_top _ _ _ ?_; first | (simp; done) | (simp; omega)) | rw [Below.heap_alloc _ _ _ (by first | (simp; done) | (simp; omega))])) ?_; intro w6 hp6; have r6 : IsW w6 (w.heap.size + 1) 0 0 := IsR.put (r5.alloc _) hp6 (by omega); have k6 := hp6.below w.heap.size w (by omega) (k5.alloc (by omega) _))
        | (with_reducible refine wpW_store rfl (.tmp 8) (.tmp 40) rfl (w.heap.size + 1) rfl 0 0 0 0 rfl r6 ?_; intro w7 hp7))
      refine retW1 rfl rfl (.int .i64 (131 : Nat)) rfl hp7.row ⟨0, 0, 131, rfl, by decide, by decide, ?_, hp7.below _ _ (by omega) k6⟩
      rw [HE.out]
      exact (sclRes_no HF.out : sclRes _ _ _ _)
  · by_cases hr0 : r = 0
    · have HE : Hid (scl n m d true = q) := HS.out.trans (by simp [hr0])
      have hr1 : ¬ (0 : Int) < (r : Int) := by omega
      clear HS HV1 hr0
      go_wp2_with (first
        | (with_reducible refine wpQ_store rfl (.tmp 10) (.tmp 24) rfl w3.heap.size rfl q 0 rfl (by unfold IsQ; rw [qA_zero]; unfold IsR; exact (by repeat (first | (with_reducible refine heap_top _ _ _ ?_; first | (simp; done) | (simp; omega)) | rw [Below.heap_alloc _ _ _ (by first | (simp; done) | (simp; omega))]))) ?_; intro w4 hp4; have r4 : IsW w4 (w.heap.size + 1) 0 0 := IsR.put (r3.alloc _) hp4 (by omega); have k4 := hp4.below w.heap.size w (by omega) (k3.alloc (by omega) _); have q4 := hp4.row)
        | (with_reducible refine wpQ_load rfl (.tmp 10) rfl w3.heap.size rfl q q4 ?_))
      refine (qwide_any q _ (by rw [← HE.out]; exact HV2.out)).mono ?_
      rintro e w5 ⟨h', l', rfl, hh', hl', hn', hb5⟩
      have HH' := Lib.hid hh'
      have HL' := Lib.hid hl'
      have HN' := Lib.hid hn'
      have r5 : IsW w5 (w.heap.size + 1) 0 0 := r4.kept hb5
      have k5 := Below.two k4 (Nat.le_refl _) hb5
      have s5 := r5.lt
      clear hb5 hh' hl' hn'
      by_cases hf : q < 2 ^ 128
      · rw [show few (q) = true from decide_eq_true hf]
        have HF := Lib.hid hf
        clear hf
        go_wp2_with (first
          | (with_reducible refine wpW_store rfl (.tmp 12) (.tmp 36) rfl w5.heap.size rfl h' l' 0 0 rfl (by (show (_ : World).heap[_]? = some _); repeat (first | (with_reducible refine heap_top _ _ _ ?_; first | (simp; done) | (simp; omega)) | rw [Below.heap_alloc _ _ _ (by first | (simp; done) | (simp; omega))])) ?_; intro w6 hp6; have r6 : IsW w6 (w.heap.size + 1) 0 0 := IsR.put (r5.alloc _) hp6 (by omega); have k6 := hp6.below w.heap.size w (by omega) (k5.alloc (by omega) _); have q6 := hp6.row)
          | (with_reducible refine wpW_load rfl (.tmp 12) rfl w5.heap.size rfl h' l' q6 ?_)
          | (with_reducible refine wpW_store rfl (.tmp 8) (.tmp 41) rfl (w.heap.size + 1) rfl h' l' 0 0 rfl r6 ?_; intro w7 hp7))
        refine retW1 rfl rfl (.int .i64 (0 : Nat)) rfl hp7.row ⟨h', l', 0, rfl, HH'.out, HL'.out, ?_, hp7.below _ _ (by omega) k6⟩
        rw [HE.out]
        exact (sclRes_yes HF.out (HN'.out.trans (Nat.mod_eq_of_lt HF.out)) : sclRes _ _ _ _)
      · rw [show few (q) = false from decide_eq_false hf]
        have HF := Lib.hid hf
        clear hf
        go_wp2_with (first
          | (with_reducible refine wpW_store rfl (.tmp 12) (.tmp 36) rfl w5.heap.size rfl h' l' 0 0 rfl (by (show (_ : World).heap[_]? = some _); repeat (first | (with_reducible refine heap_top _ _ _ ?_; first | (simp; done) | (simp; omega)) | rw [Below.heap_alloc _ _ _ (by first | (simp; done) | (simp; omega))])) ?_; intro w6 hp6; have r6 : IsW w6 (w.heap.size + 1) 0 0 := IsR.put (r5.alloc _) hp6 (by omega); have k6 := hp6.below w.heap.size w (by omega) (k5.alloc (by omega) _))
          | (with_reducible refine wpW_store rfl (.tmp 8) (.tmp 40) rfl (w.heap.size + 1) rfl 0 0 0 0 rfl r6 ?_; intro w7 hp7))
        refine retW1 rfl rfl (.int .i64 (131 : Nat)) rfl hp7.row ⟨0, 0, 131, rfl, by decide, by decide, ?_, hp7.below _ _ (by omega) k6⟩
        rw [HE.out]
        exact (sclRes_no HF.out : sclRes _ _ _ _)
    · have HE : Hid (scl n m d true = q + 1) := HS.out.trans (by simp [hr0])
      have hr1 : (0 : Int) < (r : Int) := by omega
      clear HS HV1 hr0
      go_wp2_with (first
        | (with_reducible refine wpQ_store rfl (.tmp 10) (.tmp 24) rfl w3.heap.size rfl q 0 rfl (by unfold IsQ; rw [qA_zero]; unfold IsR; exact (by repeat (first | (with_reducible refine heap_top _ _ _ ?_; first | (simp; done) | (simp; omega)) | rw [Below.heap_alloc _ _ _ (by first | (simp; done) | (simp; omega))]))) ?_; intro w4 hp4; have r4 : IsW w4 (w.heap.size + 1) 0 0 := IsR.put (r3.alloc _) hp4 (by omega); have k4 := hp4.below w.heap.size w (by omega) (k3.alloc (by omega) _); have q4 := hp4.row)
        | (with_reducible refine wpQ_load rfl (.tmp 10) rfl w3.heap.size rfl q q4 ?_))
      refine (times_one q _).mono ?_
      rintro e w8 ⟨rfl, hb8⟩
      have r8 : IsW w8 (w.heap.size + 1) 0 0 := r4.kept hb8
      have q8 : IsQ w8 w3.heap.size q := q4.kept hb8
      have k8 := Below.two k4 (Nat.le_refl _) hb8
      clear hb8 hp4 q4 r4 k4
      go_wp2_with (first
        | (with_reducible refine wpQ_store rfl (.tmp 10) (.tmp 32) rfl w3.heap.size rfl (q + 1) q rfl q8 ?_; intro w9 hp9; have rr : IsW w9 (w.heap.size + 1) 0 0 := IsR.put r8 hp9 (by omega); have kk := hp9.below w.heap.size w (by omega) k8; have q9 := hp9.row)
        | (with_reducible refine wpQ_load rfl (.tmp 10) rfl w3.heap.size rfl (q + 1) q9 ?_))
      refine (qwide_any (q + 1) _ (by rw [← HE.out]; exact HV2.out)).mono ?_
      rintro e w5 ⟨h', l', rfl, hh', hl', hn', hb5⟩
      have HH' := Lib.hid hh'
      have HL' := Lib.hid hl'
      have HN' := Lib.hid hn'
      have r5 : IsW w5 (w.heap.size + 1) 0 0 := rr.kept hb5
      have k5 := Below.two kk (Nat.le_refl _) hb5
      have s5 := r5.lt
      clear hb5 hh' hl' hn'
      by_cases hf : (q + 1) < 2 ^ 128
      · rw [show few (q + 1) = true from decide_eq_true hf]
        have HF := Lib.hid hf
        clear hf
        go_wp2_with (first
          | (with_reducible refine wpW_store rfl (.tmp 12) (.tmp 36) rfl w5.heap.size rfl h' l' 0 0 rfl (by (show (_ : World).heap[_]? = some _); repeat (first | (with_reducible refine heap_top _ _ _ ?_; first | (simp; done) | (simp; omega)) | rw [Below.heap_alloc _ _ _ (by first | (simp; done) | (simp; omega))])) ?_; intro w6 hp6; have r6 : IsW w6 (w.heap.size + 1) 0 0 := IsR.put (r5.alloc _) hp6 (by omega); have k6 := hp6.below w.heap.size w (by omega) (k5.alloc (by omega) _); have q6 := hp6.row)
          | (with_reducible refine wpW_load rfl (.tmp 12) rfl w5.heap.size rfl h' l' q6 ?_)
          | (with_reducible refine wpW_store rfl (.tmp 8) (.tmp 41) rfl (w.heap.size + 1) rfl h' l' 0 0 rfl r6 ?_; intro w7 hp7))
        refine retW1 rfl rfl (.int .i64 (0 : Nat)) rfl hp7.row ⟨h', l', 0, rfl, HH'.out, HL'.out, ?_, hp7.below _ _ (by omega) k6⟩
        rw [HE.out]
        exact (sclRes_yes HF.out (HN'.out.trans (Nat.mod_eq_of_lt HF.out)) : sclRes _ _ _ _)
      · rw [show few (q + 1) = false from decide_eq_false hf]
        have HF := Lib.hid hf
        clear hf
        go_wp2_with (first
          | (with_reducible refine wpW_store rfl (.tmp 12) (.tmp 36) rfl w5.heap.size rfl h' l' 0 0 rfl (by (show (_ : World).heap[_]? = some _); repeat (first | (with_reducible refine heap_top _ _ _ ?_; first | (simp; done) | (simp; omega)) | rw [Below.heap_alloc _ _ _ (by first | (simp; done) | (simp; omega))])) ?_; intro w6 hp6; have r6 : IsW w6 (w.heap.size + 1) 0 0 := IsR.put (r5.alloc _) hp6 (by omega); have k6 := hp6.below w.heap.size w (by omega) (k5.alloc (by omega) _))
          | (with_reducible refine wpW_store rfl (.tmp 8) (.tmp 40) rfl (w.heap.size + 1) rfl 0 0 0 0 rfl r6 ?_; intro w7 hp7))
        refine retW1 rfl rfl (.int .i64 (131 : Nat)) rfl hp7.row ⟨0, 0, 131, rfl, by decide, by decide, ?_, hp7.below _ _ (by omega) k6⟩
        rw [HE.out]
        exact (sclRes_no HF.out : sclRes _ _ _ _)

set_option maxRecDepth 100000 in
set_option maxHeartbeats 400000 in
theorem wScale_any (h l n m d : Nat) (w : World) (hh : h < 2 ^ 64) (hl : l < 2 ^ 64) (hn : h * 2 ^ 64 + l = n) (hm : m < 2 ^ 64) (hd0 : 0 < d) (hd : d < 2 ^ 64) :
    Calls Try.prog 66 #[.agg #[.int .u64 h, .int .u64 l], .int .u64 m, .int .u64 d] w fun e w' =>
      ∃ h' l' c : Nat, e = .returned (.tuple #[.agg #[.int .u64 h', .int .u64 l'], .int .i64 c]) ∧ h' < 2 ^ 64 ∧ l' < 2 ^ 64 ∧ sclRes (scl n m d true) h' l' c ∧ Below w.heap.size w w' := by
  have HC := Lib.hid (fun w => wscaled_any h l n m d true w hh hl hn hm hd0 hd)
  clear hh hl hn hm hd0 hd
  go_enter Try.func66, Try.ntmps66
  go_wp2_with fail
  refine (HC.out _).mono ?_
  rintro e w1 ⟨h', l', c, rfl, hh', hl', hs', hb1⟩
  have HH' := Lib.hid hh'
  have HL' := Lib.hid hl'
  have r1 : IsW w1 (w.heap.size + 1) 0 0 := IsR.kept (by unfold IsR; exact (by repeat (first | (with_reducible refine heap_top _ _ _ ?_; first | (simp; done) | (simp; omega)) | rw [Below.heap_alloc _ _ _ (by first | (simp; done) | (simp; omega))]))) hb1
  have k1 : Below w.heap.size w w1 := Below.two (((Below.refl _ _).alloc (Nat.le_refl _) _).alloc (by simp) _) (Nat.le_refl _) hb1
  clear hb1 hh' hl'
  go_wp2_with (first
    | (with_reducible refine wpW_store rfl (.tmp 6) (.tmp 12) rfl (w.heap.size + 1) rfl h' l' 0 0 rfl r1 ?_; intro w2 hp2))
  exact retW1 rfl rfl (.int .i64 c) rfl hp2.row ⟨h', l', c, rfl, HH'.out, HL'.out, hs', hp2.below _ _ (by omega) k1⟩

end Go.Proofs.Ytoljahfofkmdaaa

/-! package wide's MulDiv: its contract, whatever the world. -/
namespace Go.Proofs.Ytoljahfofkmdaaa
open Go.RowKit

/-- What is handed back: the number, if it has no more than 64 bits. -/
def mdRes (v : Nat) (x e : Nat) : Prop := if v < 2 ^ 64 then x = v ∧ e = 0 else x = 0 ∧ e = 131

end Go.Proofs.Ytoljahfofkmdaaa

/-! The chapter's wakes: it answers true. -/
namespace Go.Proofs.Ytoljahfofkmdaaa
open Go.RowKit

theorem of_parts (h l H L : Nat) (hl : l < 2 ^ 64) (hL : L < 2 ^ 64) (e : h * 2 ^ 64 + l = H * 2 ^ 64 + L) : h = H ∧ l = L := by omega

section
variable {ops : Array Oper} {C : (Nat → Bool) → World → Prop} {Q : Act → Prop} {o : Oper} {rest : List Oper} {i : Nat} {a : Act}
end

end Go.Proofs.Ytoljahfofkmdaaa

/-! package wide's Compare, and the library's cmp.Compare, cmp.Or: their contracts, whatever the world. -/
namespace Go.Proofs.Ytoljahfofkmdaaa
open Go.RowKit

/-- How numbers stand to one another. -/
def c3 (a b : Int) : Int := if a < b then -1 else if b < a then 1 else 0
/-- The first that is not 0. -/
def orI : List Int → Int
  | [] => 0
  | z :: r => if z = 0 then orI r else z

set_option maxRecDepth 100000 in
theorem ccmp_any (a b : Int) (w : World) :
    Calls Try.prog 60 #[.int .u64 a, .int .u64 b] w fun e w' => e = .returned (.int .i64 (c3 a b)) ∧ w' = w := by
  by_cases h1 : a < b
  · have H : Hid (c3 a b = -1) := if_pos h1
    go_enter Try.func60, Try.ntmps60
    go_wp2
    go_ret
    exact ⟨by rw [H.out]; rfl, rfl⟩
  · by_cases h2 : b < a
    · have H : Hid (c3 a b = 1) := (if_neg h1).trans (if_pos h2)
      go_enter Try.func60, Try.ntmps60
      go_wp2
      go_ret
      exact ⟨by rw [H.out]; rfl, rfl⟩
    · have H : Hid (c3 a b = 0) := (if_neg h1).trans (if_neg h2)
      go_enter Try.func60, Try.ntmps60
      go_wp2
      go_ret
      exact ⟨by rw [H.out]; rfl, rfl⟩

theorem orI_drop (zs : List Int) (k : Nat) (hk : k < zs.length) : orI (zs.drop k) = if zs[k] = 0 then orI (zs.drop (k + 1)) else zs[k] := by
  rw [List.drop_eq_getElem_cons hk]; rfl

set_option maxRecDepth 100000 in
set_option maxHeartbeats 400000 in
theorem cor_any (zs : List Int) (g : Nat) (w : World) (hlen : zs.length < 1000) (hg : IsR w g (zs.map (Value.int .i64)).toArray 3) :
    Calls Try.prog 59 #[.slice (some ⟨g, 0, none⟩) zs.length zs.length] w fun e w' => e = .returned (.int .i64 (orI zs)) ∧ w' = w := by
  have hc : ∀ j (h : j < zs.length), w.cell? ⟨g, j, none⟩ = some (.int .i64 zs[j]) := fun j h => by rw [hg.cell j]; simp [h]
  have HC := Lib.hid hc
  clear hc hg
  obtain ⟨n, hn⟩ : ∃ n, zs.length = n := ⟨_, rfl⟩
  rw [hn] at hlen
  rw [hn]
  have HN := Lib.hid hn
  clear hn
  have hlen' : (n : Int) < 1000 := by omega
  go_enter Try.func59, Try.ntmps59
  go_wp2
  go_loop [8] (fun t => ∃ k : Nat, k ≤ n ∧ t = .int .i64 k ∧ Hid (orI (zs.drop k) = orI zs)) (fun t => n - (intOf t).toNat)
  case atStart => exact ⟨0, by omega, rfl, (rfl : _ = _)⟩
  case round =>
    obtain ⟨k, hk, rfl, HK⟩ := hrel
    by_cases hlt : k < n
    · have hlt' : (k : Int) < (n : Int) := by omega
      have hkz : k < zs.length := by rw [HN.out]; exact hlt
      have hcell := HC.out k hkz
      have HD := Lib.hid (orI_drop zs k hkz)
      generalize zs[k] = z at hcell HD
      clear hkz
      by_cases hz : z = 0
      · subst hz
        have HK2 : Hid (orI (zs.drop (k + 1)) = orI zs) := by show _ = _; rw [← HK.out, HD.out, if_pos rfl]
        go_wp2
        go_round
        case rel => exact ⟨k + 1, by omega, by go_num, HK2⟩
        case measure => simp [intOf]; omega
      · have hz' : (z == 0) = false := by simpa using hz
        have hz'' : (z != 0) = true := by simpa using hz
        have HK2 : Hid (orI zs = z) := by show _ = _; rw [← HK.out, HD.out, if_neg hz]
        clear hz
        go_wp2
        go_ret
        exact ⟨by rw [HK2.out]; rfl, rfl⟩
    · have hlt' : (n : Int) ≤ (k : Int) := by omega
      have HK2 : Hid (orI zs = 0) := by show _ = _; rw [← HK.out, List.drop_eq_nil_of_le (by rw [HN.out]; omega)]; rfl
      go_wp2
      go_ret
      exact ⟨by rw [HK2.out]; rfl, rfl⟩

/-- How two numbers of two halves stand to one another. -/
def cW (h l H L : Int) : Int := orI [c3 h H, c3 l L]

set_option maxRecDepth 100000 in
set_option maxHeartbeats 400000 in
theorem wCompare_any (h l H L : Int) (w : World) :
    Calls Try.prog 46 #[.agg #[.int .u64 h, .int .u64 l], .agg #[.int .u64 H, .int .u64 L]] w fun e w' => e = .returned (.int .i64 (cW h l H L)) ∧ Below w.heap.size w w' := by
  go_enter Try.func46, Try.ntmps46
  go_wp2_with fail
  have fA : IsW ((w.alloc (Obj.cells #[.int .u64 h, .int .u64 l] 43)).alloc (Obj.cells #[.int .u64 H, .int .u64 L] 43)) w.heap.size h l := by unfold IsW IsR; exact (by repeat (first | (with_reducible refine heap_top _ _ _ ?_; first | (simp; done) | (simp; omega)) | rw [Below.heap_alloc _ _ _ (by first | (simp; done) | (simp; omega))]))
  have fB : IsW ((w.alloc (Obj.cells #[.int .u64 h, .int .u64 l] 43)).alloc (Obj.cells #[.int .u64 H, .int .u64 L] 43)) (w.heap.size + 1) H L := by unfold IsW IsR; exact (by repeat (first | (with_reducible refine heap_top _ _ _ ?_; first | (simp; done) | (simp; omega)) | rw [Below.heap_alloc _ _ _ (by first | (simp; done) | (simp; omega))]))
  have k0 : Below w.heap.size w ((w.alloc (Obj.cells #[.int .u64 h, .int .u64 l] 43)).alloc (Obj.cells #[.int .u64 H, .int .u64 L] 43)) := ((Below.refl _ _).alloc (Nat.le_refl _) _).alloc (by simp) _
  generalize (w.alloc (Obj.cells #[.int .u64 h, .int .u64 l] 43)).alloc (Obj.cells #[.int .u64 H, .int .u64 L] 43) = W at fA fB k0 ⊢
  have cA := IsR.cell fA
  have cB := IsR.cell fB
  refine wp_region_still_tail 10 (by kernel_rfl) (by kernel_rfl) ?_
  change wpStill _ _ (World.drew W) _ _ _
  simp only [List.take_succ_cons, List.take_zero, List.drop_succ_cons, List.drop_zero]
  iterate 4 still_step
  still_call (ccmp_any h H _)
  iterate 4 still_step
  still_call (ccmp_any l L _)
  refine wpStill_nil ?_
  change wpList _ _ _ _ _ (World.drew _)
  go_wp2_with fail
  refine (cor_any [c3 h H, c3 l L] W.heap.size _ (by simp) ?_).mono ?_
  · exact heap_top W (Obj.cells #[.int .i64 (c3 h H), .int .i64 (c3 l L)] 3) _ rfl
  rintro e w' ⟨rfl, rfl⟩
  go_wp2_with fail
  go_ret
  exact ⟨rfl, (k0.alloc k0.size _).drew⟩

theorem cW_eq (h l H L n m : Nat) (hl : l < 2 ^ 64) (hL : L < 2 ^ 64) (hn : h * 2 ^ 64 + l = n) (hm : H * 2 ^ 64 + L = m) : cW h l H L = c3 n m := by
  unfold cW orI orI orI c3
  rcases Nat.lt_trichotomy n m with h1 | h1 | h1
  · rw [if_pos (show (n : Int) < m by omega)]
    by_cases h2 : (h : Int) < H
    · rw [if_pos h2]; simp
    · rw [if_neg h2, if_neg (show ¬ (H : Int) < h by omega), if_pos rfl, if_pos (show (l : Int) < L by omega)]; simp
  · rw [if_neg (show ¬ (n : Int) < m by omega), if_neg (show ¬ (m : Int) < n by omega), if_neg (show ¬ (h : Int) < H by omega), if_neg (show ¬ (H : Int) < h by omega), if_pos rfl, if_neg (show ¬ (l : Int) < L by omega), if_neg (show ¬ (L : Int) < l by omega)]
    rfl
  · rw [if_neg (show ¬ (n : Int) < m by omega), if_pos (show (m : Int) < n by omega), if_neg (show ¬ (h : Int) < H by omega)]
    by_cases h2 : (H : Int) < h
    · rw [if_pos h2]; simp
    · rw [if_neg h2, if_pos rfl, if_neg (show ¬ (l : Int) < L by omega), if_pos (show (L : Int) < l by omega)]; simp
end Go.Proofs.Ytoljahfofkmdaaa

/-! package wide's Add and Sub: their contracts, whatever the world. -/
namespace Go.Proofs.Ytoljahfofkmdaaa
open Go.RowKit

end Go.Proofs.Ytoljahfofkmdaaa

/-! The contracts of wide and of its reference, one value each. -/
namespace Go.Proofs.Ytoljahfofkmdaaa
open Go Go.RowKit

/-- A function's contract where the answer is one value and memory grows at most. -/
def Dt (f : FuncId) (args : Array Value) (v : Value) : Prop := ∀ w, Calls Try.prog f args w fun e w' => e = .returned v ∧ Below w.heap.size w w'
abbrev wv (h l : Nat) : Value := .agg #[.int .u64 h, .int .u64 l]

theorem dCompare {h l n H L m : Nat} (hl : l < 2 ^ 64) (hL : L < 2 ^ 64) (hn : h * 2 ^ 64 + l = n) (hm : H * 2 ^ 64 + L = m) : Dt 46 #[wv h l, wv H L] (.int .i64 (c3 n m)) := fun w => by
  have := wCompare_any h l H L w
  rwa [cW_eq h l H L n m hl hL hn hm] at this
theorem scl_same {v h l c h' l' c' : Nat} (hs : sclRes v h l c) (hs' : sclRes v h' l' c') (hl : l < 2 ^ 64) (hl' : l' < 2 ^ 64) : h = h' ∧ l = l' ∧ c = c' := by
  unfold sclRes at hs hs'
  split at hs
  · rename_i hv
    rw [if_pos hv] at hs'
    obtain ⟨e1, e2⟩ := of_parts h l h' l' hl hl' (by rw [hs.1, hs'.1])
    exact ⟨e1, e2, by rw [hs.2, hs'.2]⟩
  · rename_i hv
    rw [if_neg hv] at hs'
    exact ⟨by rw [hs.1, hs'.1], by rw [hs.2.1, hs'.2.1], by rw [hs.2.2, hs'.2.2]⟩
theorem dScale {h l n m d A B c : Nat} (hh : h < 2 ^ 64) (hl : l < 2 ^ 64) (hn : h * 2 ^ 64 + l = n) (hm : m < 2 ^ 64) (hd0 : 0 < d) (hd : d < 2 ^ 64) (hB : B < 2 ^ 64) (hs : sclRes (scl n m d true) A B c) :
    Dt 66 #[wv h l, .int .u64 m, .int .u64 d] (.tuple #[wv A B, .int .i64 c]) := fun w => by
  refine (wScale_any h l n m d w hh hl hn hm hd0 hd).mono ?_
  rintro e1 w1 ⟨h', l', c', rfl, _, hl', hs', hb⟩
  obtain ⟨rfl, rfl, rfl⟩ := scl_same hs' hs hl' hB
  exact ⟨rfl, hb⟩
end Go.Proofs.Ytoljahfofkmdaaa

/-! Small laws: halves, exits, a string's iterator. -/
namespace Go.Proofs.Ytoljahfofkmdaaa
open Go Go.RowKit

theorem halves (v : Nat) : v / 2 ^ 64 * 2 ^ 64 + v % 2 ^ 64 = v := by omega
theorem half_lt (v : Nat) : v % 2 ^ 64 < 2 ^ 64 := Nat.mod_lt _ (by decide)
section
variable {id : Nat} {Q : Exit → Act → World → Prop} {a : Act} {w : World}
end

section
variable {P : Program} {ops : Array Oper} {w0 w : World} {L : List Rw} {Q : Exit → Act → World → Prop} {o : Oper} {rest : List Oper} {a : Act} {gi : Nat} {s : ByteArray} {pos : Nat}
/-- An iterator over a string, in a block of its own. -/
structure Iter (w0 : World) (L : List Rw) (gi : Nat) (s : ByteArray) (pos : Nat) (w : World) : Prop where
  here : w.heap[gi]? = some (.stringIter s pos)
  low : w0.heap.size ≤ gi
  apart : ∀ r ∈ L, r.1 ≠ gi
theorem Iter.kept {w1 : World} (h : Iter w0 L gi s pos w) (hb : Below w.heap.size w w1) : Iter w0 L gi s pos w1 :=
  ⟨(hb.block gi (Array.getElem?_eq_some_iff.1 h.here).1).trans h.here, h.low, h.apart⟩
theorem Iter.put {g : Nat} {cs cs' : Array Value} {T T' : TypeId} {w1 : World} (I : Iter w0 L gi s pos w) (j : Nat) (e : L[j]? = some (g, cs, T)) (hp : Put g cs' T' w w1) (L' : List Rw) (hL : ∀ r ∈ L', r.1 ≠ gi) : Iter w0 L' gi s pos w1 :=
  ⟨(hp.rest gi (fun e1 => I.apart _ (List.mem_of_getElem? e) e1.symm)).trans I.here, I.low, hL⟩
end
end Go.Proofs.Ytoljahfofkmdaaa

/-! The contracts of wide, told by whole numbers. -/
namespace Go.Proofs.Ytoljahfofkmdaaa
open Go Go.RowKit

abbrev nv (n : Nat) : Value := wv (n / 2 ^ 64) (n % 2 ^ 64)
abbrev iv (h l : Int) : Value := .agg #[.int .u64 h, .int .u64 l]
section
variable {h l h2 l2 x y m d a b : Int}
theorem nv_iv (n : Nat) : nv n = iv (hiV (n : Int)) (loV (n : Int)) := by
  have e1 : hiV (n : Int) = ((n / 2 ^ 64 : Nat) : Int) := by unfold hiV; omega
  have e2 : loV (n : Int) = ((n % 2 ^ 64 : Nat) : Int) := by unfold loV; omega
  rw [e1, e2]
theorem hi128 {n : Nat} (h : n < 2 ^ 128) : n / 2 ^ 64 < 2 ^ 64 := by omega
theorem up_scl {n m d : Nat} (hd : 0 < d) : upD ((n : Int) * m) d = ((scl n m d true : Nat) : Int) := by
  have e : scl n m d true = n * m / d + (if n * m % d ≠ 0 then 1 else 0) := by
    unfold scl
    by_cases h : n * m % d = 0 <;> simp [h]
  rw [e]
  unfold upD
  generalize hz : n * m = z
  have hzi : (n : Int) * m = (z : Int) := by rw [← hz]; exact (Int.natCast_mul n m).symm
  rw [hzi, show (z : Int) + d - 1 = ((z + d - 1 : Nat) : Int) from by omega, ← Int.natCast_ediv]
  refine congrArg Nat.cast ?_
  have h1 := Nat.div_add_mod z d
  have h2 := Nat.mod_lt z hd
  generalize z / d = q at h1 ⊢
  generalize z % d = r at h1 h2 ⊢
  subst h1
  by_cases h : r = 0
  · subst h
    rw [if_neg (by simp), show d * q + 0 + d - 1 = d * q + (d - 1) from by rw [Nat.add_zero, Nat.add_sub_assoc hd], Nat.mul_add_div hd, Nat.div_eq_of_lt (Nat.sub_lt hd (by decide))]
  · rw [if_pos h, show d * q + r + d - 1 = d * (q + 1) + (r - 1) from by rw [Nat.mul_add, Nat.mul_one]; generalize d * q = t; omega, Nat.mul_add_div hd, Nat.div_eq_of_lt (Nat.lt_of_le_of_lt (Nat.sub_le _ _) h2)]
theorem upD_one (x : Int) : upD x 1 = x := by unfold upD; rw [Int.ediv_one]; omega
/-- wide.Scale, of a product that has room. -/
theorem wscale_v (hx0 : 0 ≤ x) (hx1 : x < 340282366920938463463374607431768211456) (hm0 : 0 ≤ m) (hm1 : m < 18446744073709551616) (hd0 : 1 ≤ d) (hd1 : d < 18446744073709551616) (hv : upD (x * m) d < 340282366920938463463374607431768211456) :
    Dt 66 #[iv (hiV x) (loV x), .int .u64 m, .int .u64 d] (.tuple #[iv (hiV (upD (x * m) d)) (loV (upD (x * m) d)), .int .i64 0]) := by
  obtain ⟨n, rfl⟩ := Int.eq_ofNat_of_zero_le hx0
  obtain ⟨m, rfl⟩ := Int.eq_ofNat_of_zero_le hm0
  obtain ⟨d, rfl⟩ := Int.eq_ofNat_of_zero_le (show 0 ≤ d by omega)
  have e := up_scl (n := n) (m := m) (d := d) (by omega)
  have hv' : scl n m d true < 2 ^ 128 := by rw [e] at hv; omega
  rw [e, ← nv_iv, ← nv_iv]
  exact dScale (hi128 (by omega)) (half_lt n) (halves n) (by omega) (by omega) (by omega) (half_lt _) (sclRes_yes hv' (halves _))
theorem wcmp_v (hx0 : 0 ≤ x) (hy0 : 0 ≤ y) : Dt 46 #[iv (hiV x) (loV x), iv (hiV y) (loV y)] (.int .i64 (cmpI x y)) := by
  obtain ⟨n, rfl⟩ := Int.eq_ofNat_of_zero_le hx0
  obtain ⟨m, rfl⟩ := Int.eq_ofNat_of_zero_le hy0
  rw [← nv_iv, ← nv_iv]
  exact dCompare (half_lt n) (half_lt m) (halves n) (halves m)
end
/- the same, of fractions -/
section
variable {f g : Fq} {n w s : Int}
theorem hl_num (hU : f.U) : iv f.hi f.lo = iv (hiV f.num) (loV f.num) := by rw [hU.hl.1, hU.hl.2]
theorem ftimes_v (hU : f.U) (hk : f.ok = true) (hw : wB w = true) : Dt 66 #[iv f.hi f.lo, .int .u64 w, .int .u64 1] (.tuple #[iv (hiV (f.num * w)) (loV (f.num * w)), .int .i64 0]) := by
  have h1 := wB_iff.1 hw
  have h2 := mul_lt hU.n0 (num_lt hU hk) (show 0 ≤ w by omega) h1.2
  have h3 := num_big hU
  have := wscale_v (x := f.num) (m := w) (d := 1) hU.n0 h3 (by omega) (by omega) (by decide) (by decide) (by rw [upD_one]; exact h2.2)
  rw [upD_one] at this
  rw [hl_num hU]; exact this
end
end Go.Proofs.Ytoljahfofkmdaaa

/-! The reference's comparison of fractions (lines of chapter 5's text, turned to this seat). -/
namespace Go.Proofs.Ytoljahfofkmdaaa
open Go Go.RowKit

abbrev fv (h l w : Nat) : Value := .agg #[.int .u64 h, .int .u64 l, .int .u64 w]
section
variable {a b : Fq}
end
end Go.Proofs.Ytoljahfofkmdaaa

/-! The walker: an operation whose answer is told (a shift); a range over a function whose body may return; a function that holds one. -/
namespace Go.Proofs.Ytoljahfofkmdaaa
open Go Go.RowKit

section
variable {E : Env} {k : List Fr} {l : Sl} {L : List Ob} {all os : List Oper} {o : Oper} {i : Nat}
/-- An operation whose answer is told. -/
theorem ops_opv (v : Value) (hw : wantL all l o = some true) (hd : okD E.n o.dst = true) (hk : knownO l o = true) (h : ∀ w, (execOp (look l) o).run E.P w = .ok (.value v) w) (hn : Ops E k all os (i + 1) (putL o.dst v l) L) : Ops E k all (o :: os) i l L := by
  refine ⟨fun a w ha hs => ?_⟩
  have hg := wantL_spec ha hw
  refine wpListIn_step fun K hK => ?_
  rw [if_pos hg]
  refine ⟨fun _ _ => trivial, ?_⟩
  have hdf : ∀ c, o.op ≠ .defer c := fun c e => by simp [knownO, e] at hk
  rw [Oper.semAt_eq _ _ _ hdf, look_exec ha hk, h]
  exact hK _ _ (hn.out _ _ (ha.put hd v) hs)
end
end Go.Proofs.Ytoljahfofkmdaaa

/-! The walker: operations whose answer is told, in regions that draw their order as well: bits, bytes of a table. -/
namespace Go.Proofs.Ytoljahfofkmdaaa
open Go Go.RowKit

section
variable {E : Env} {k : List Fr} {l : Sl} {L : List Ob} {all os : List Oper} {o : Oper} {i : Nat}
variable {P : Program} {ρ : Operand → Value} {T U : TypeId} {x y : Operand} {kd kd' : IntKind} {a b n : Int}
def orV (a b : Int) : Int := IntKind.u32.wrap (((a % 4294967296).toNat ||| (b % 4294967296).toNat : Nat) : Int)
def andV (a b : Int) : Int := IntKind.u32.wrap (((a % 4294967296).toNat &&& (b % 4294967296).toNat : Nat) : Int)
end
end Go.Proofs.Ytoljahfofkmdaaa

/-! The walker: more told operations on bits: and, and-not, sums that wrap. -/
namespace Go.Proofs.Ytoljahfofkmdaaa
open Go Go.RowKit
section
variable {P : Program} {ρ : Operand → Value} {T U : TypeId} {x y : Operand} {a b n : Int} {o : Oper}
def and64 (a b : Int) : Int := IntKind.u64.wrap (((a % 18446744073709551616).toNat &&& (b % 18446744073709551616).toNat : Nat) : Int)
def andI64 (a b : Int) : Int := IntKind.i64.wrap (((a % 18446744073709551616).toNat &&& (b % 18446744073709551616).toNat : Nat) : Int)
def andNotV (a b : Int) : Int := IntKind.u32.wrap (((a % 4294967296).toNat &&& (4294967295 - (b % 4294967296).toNat) : Nat) : Int)
end
end Go.Proofs.Ytoljahfofkmdaaa

/-! Fractions: which may be, how they stand. -/
namespace Go.Proofs.Ytoljahfofkmdaaa
open Go Go.RowKit

set_option maxRecDepth 100000 in
theorem weight_t (x : Int) (w : World)
 : Calls Try.prog 65 #[.int .u64 x] w fun e w' => e = .returned (.bool (wB x)) ∧ Below w.heap.size w w' := by
 refine enter (Hs.start w) Try.func65 rfl Try.ntmps65 rfl (sq_ (qa0 [] [0] [] (ds_ (sq_ ?_))))
 by_cases q3 : (x : Int) ≥ (1 : Int)
 ·
  by_cases q5 : (x : Int) ≤ (65535 : Int)
  ·
   refine qa [(1, .yes), (4, .yes)] [] [(2, .bool true)] ([(x : Int) ≥ (1 : Int)] ++ ([(x : Int) ≤ (65535 : Int)])) (alA (al1 q3) (al1 q5)) (ds_ (rt ([]) (.bool true) ?_))
   exact fun w' hw => ⟨by rw [show wB x = true from by simp only [wB, decide_eq_true_eq]; omega], hw.below⟩
  ·
   refine qa [(1, .yes), (4, .no)] [] [(2, .bool false)] ([(x : Int) ≥ (1 : Int)] ++ ([¬ ((x : Int) ≤ (65535 : Int))])) (alA (al1 q3) (al1 q5)) (ds_ (rt ([]) (.bool false) ?_))
   exact fun w' hw => ⟨by rw [show wB x = false from by simp only [wB, decide_eq_false_iff_not]; omega], hw.below⟩
 ·
  refine qa [(1, .no)] [] [(2, .bool false)] ([¬ ((x : Int) ≥ (1 : Int))]) (al1 q3) (ds_ (rt ([]) (.bool false) ?_))
  exact fun w' hw => ⟨by rw [show wB x = false from by simp only [wB, decide_eq_false_iff_not]; omega], hw.below⟩

set_option maxRecDepth 100000 in
theorem right_t (p : Option Addr) (n cap : Nat) (l : List Fq) (w : World)
 (hsl : Sv w p l) (hn : n = l.length) (hb : n ≤ 1000)
 : Calls Try.prog 45 #[.slice p n cap] w fun e w' => e = .returned (.bool (l.all Fq.ok)) ∧ Below w.heap.size w w' := by
 refine enter (Hs.start w) Try.func45 rfl Try.ntmps45 rfl (sq_ (qa0 [] [0] [] (ds_ (sq_ (sq_ (qa0 [] [] [(5, .slice p n cap), (6, .int .i64 (n : Nat)), (7, .int .i64 0)] (ds_ (at_block (at_loop (α := Nat) [5, 6, 7] (fun j => [(5, .slice p n cap), (6, .int .i64 (n : Nat)), (7, .int .i64 (j : Nat))]) (fun j => []) (fun j => j ≤ n ∧ ∀ y ∈ l.take j, y.ok = true) (fun j => n - j) 0 (by kernel_rfl) rfl ⟨Nat.zero_le _, all_take0T⟩ ?_)))))))))
 rintro j
 rintro ⟨hj, hI⟩
 refine sq_ ?_
 by_cases q4 : ((j : Nat) : Int) < ((n : Nat) : Int)
 ·
  refine qa [(0, .yes)] [5, 6, 7] [(8, .bool true)] ([((j : Nat) : Int) < ((n : Nat) : Int)]) (al1 q4) (ds_ (sq_ (t_ (at_skip (ds_ (sq_ (at_block (sq_ ?_))))))))
  obtain ⟨b7, o7, rfl⟩ := hsl.pos (i := j) (by omega)
  obtain ⟨x9, hx9⟩ := get_some (l := l) (m := j) (by omega)
  refine ma [(0, .at b7 o7 j), (1, .go (outs b7 (o7 + j * 3) [.int .u64 x9.hi, .int .u64 x9.lo, .int .u64 x9.w])), (3, .go (owns 0 0 3))] [5, 6, 7] (fun γ10 => [(4, .pointer (some ⟨γ10 0, 0, none⟩))]) (fun γ10 L => bx (γ10 0) (#[.int .u64 x9.hi, .int .u64 x9.lo, .int .u64 x9.w]) 45 :: L) (fun γ10 => [(some ⟨b7, o7, none⟩ : Option Addr) = some ⟨b7, o7, none⟩, (j : Nat) = ((j : Nat) : Int), j < n] ++ (cellsP w b7 (o7 + j * 3) [.int .u64 x9.hi, .int .u64 x9.lo, .int .u64 x9.w])) (fun γ10 => (alA (al2 rfl (al2 rfl (al1 (by omega)))) (rd_pre (hsl.get hx9) _ rfl))) (fun γ10 => ds_ (sq_ (ao_ (qo0 2 [(1, .go (owns 0 2 1))] [4, 5, 6, 7] [(12, .int .u64 x9.w)] ?_))))
  rcases q12 : wB x9.w with _ | _
  ·
   refine cD (.bool false) Try.call65 (fun w hw => by have := weight_t x9.w w; rw [q12] at this; exact this) (qo0 7 [] [5, 6, 7] [(20, .bool true)] (on_ (ds_ (t_ (sq_ (qa0 [] [] [(2, .bool false)] (ds_ (rt ([]) (.bool false) ?_))))))))
   exact fun w' hw => ⟨by rw [allF_no hx9 (ok_noW q12)], hw.below⟩
  ·
   refine cD (.bool true) Try.call65 (fun w hw => by have := weight_t x9.w w; rw [q12] at this; exact this) ?_
   by_cases q16 : (x9.hi : Int) ≥ (68719476736 : Int)
   ·
    refine qo 7 [(7, .go (owns 0 0 1)), (8, .yes)] [5, 6, 7] [(20, .bool true)] ([(x9.hi : Int) ≥ (68719476736 : Int)]) (al1 q16) (on_ (ds_ (t_ (sq_ (qa0 [] [] [(2, .bool false)] (ds_ (rt ([]) (.bool false) ?_)))))))
    exact fun w' hw => ⟨by rw [allF_no hx9 (ok_noH (by omega))], hw.below⟩
   ·
    refine qo 7 [(7, .go (owns 0 0 1)), (8, .no)] [5, 6, 7] [(20, .bool false)] ([¬ ((x9.hi : Int) ≥ (68719476736 : Int))]) (al1 q16) (on_ (ds_ (f_ (at_skip (done_block (ds_ (qa [(0, .fit)] [5, 6] [(7, .int .i64 (j + 1 : Nat))] ([Fit .i64 ((j + 1 : Nat))]) (al1 (fit64 (by omega) (by omega))) (Done.drop (L' := []) ?_ (List.Sublist.cons _ (List.Sublist.refl _))))))))))
    exact dr [5, 6, 7] (j + 1) ⟨by omega, all_onT hI hx9 (ok_yesW q12 (by omega))⟩
 ·
  refine qa [(0, .no)] [5, 6, 7] [(8, .bool false)] ([¬ (((j : Nat) : Int) < ((n : Nat) : Int))]) (al1 q4) (ds_ (sq_ (f_ (at_leave _ rfl (ds_ (sq_ (qa0 [] [] [(2, .bool true)] (ds_ (rt ([]) (.bool true) ?_)))))))))
  exact fun w' hw => ⟨by rw [allF_yes hI (by omega)], hw.below⟩

set_option maxRecDepth 100000 in
theorem fcheck_t (a : Fq) (w : World)
 : Calls Try.prog 19 #[.agg #[.int .u64 a.hi, .int .u64 a.lo, .int .u64 a.w]] w fun e w' => e = .returned (.int .i64 (if a.ok = true then 0 else 150)) ∧ Below w.heap.size w w' := by
 refine enter (Hs.start w) Try.func19 rfl Try.ntmps19 rfl (sq_ (ma0 [] [] (fun γ1 => [(1, .pointer (some ⟨γ1 0, 0, none⟩))]) (fun γ1 L => bx (γ1 0) (#[.int .u64 a.hi, .int .u64 a.lo, .int .u64 a.w]) 45 :: L) (fun γ1 => ds_ (sq_ (sq_ (ao_ (mo0 2 [(0, .go (owns 0 0 3))] [] (fun γ2 => [(4, .slice (some ⟨γ2 0, 0, none⟩) 1 1)]) (fun γ2 L => bx (γ2 0) (#[.int .u64 a.hi, .int .u64 a.lo, .int .u64 a.w]) 45 :: L) (fun γ2 => ?_))))))))
 rcases q3 : a.ok with _ | _
 ·
  refine cD (.bool false) Try.call45 (fun w hw => by have := right_t (some ⟨γ2 0, 0, none⟩) 1 1 [a] w (sv_row (hw.row 0 rfl) rfl) rfl (by decide); rw [all1, q3] at this; exact this) (qo0 1 [] [] [(6, .bool true)] (on_ (ds_ (t_ (sq_ (qa0 [] [] [(2, .int .i64 150)] (ds_ (rt ([]) (.int .i64 150) ?_))))))))
  exact fun w' hw => ⟨rfl, hw.below⟩
 ·
  refine cD (.bool true) Try.call45 (fun w hw => by have := right_t (some ⟨γ2 0, 0, none⟩) 1 1 [a] w (sv_row (hw.row 0 rfl) rfl) rfl (by decide); rw [all1, q3] at this; exact this) (qo0 1 [] [] [(6, .bool false)] (on_ (ds_ (f_ (at_skip (ds_ (sq_ (qa0 [] [] [(2, .int .i64 0)] (ds_ (rt ([]) (.int .i64 0) ?_))))))))))
  exact fun w' hw => ⟨rfl, hw.below⟩

set_option maxRecDepth 100000 in
theorem times_t (a : Fq) (m : Int) (w : World)
 (hU : a.U) (hk : a.ok = true) (hm : wB m = true)
 : Calls Try.prog 47 #[.agg #[.int .u64 a.hi, .int .u64 a.lo], .int .u64 m] w fun e w' => e = .returned (iv (hiV (a.num * m)) (loV (a.num * m))) ∧ Below w.heap.size w w' := by
 refine enter (Hs.start w) Try.func47 rfl Try.ntmps47 rfl (sq_ (ma0 [] [1] (fun γ1 => [(2, .pointer (some ⟨γ1 0, 0, none⟩)), (4, .pointer (some ⟨γ1 1, 0, none⟩))]) (fun γ1 L => bx (γ1 1) (#[.int .u64 0, .int .u64 0]) 43 :: bx (γ1 0) (#[.int .u64 a.hi, .int .u64 a.lo]) 43 :: L) (fun γ1 => ds_ (sq_ (ao_ (qo0 2 [(0, .go (owns 1 0 2))] [4] [(8, .agg #[.int .u64 a.hi, .int .u64 a.lo]), (9, .int .u64 m)] (cD (.tuple #[.agg #[.int .u64 (hiV (a.num * m)), .int .u64 (loV (a.num * m))], .int .i64 0]) Try.call66 (fun w hw => ftimes_v hU hk hm w) (mo0 6 [(7, .go (owns 0 0 2))] [4] (fun γ3 => [(5, .pointer (some ⟨γ3 0, 0, none⟩))]) (fun γ3 L => bx (γ3 0) (#[.int .u64 (hiV (a.num * m)), .int .u64 (loV (a.num * m))]) 43 :: L) (fun γ3 => on_ (ds_ (sq_ (ma0 [(0, .go (owns 0 0 2)), (1, .go (owns 1 0 2))] [4] (fun _ => []) (fun _ L => (L.set 1 (bx (γ1 1) (#[.int .u64 (hiV (a.num * m)), .int .u64 (loV (a.num * m))]) 43))) (fun _ => ds_ (rt (owns 1 0 2) (.agg #[.int .u64 (hiV (a.num * m)), .int .u64 (loV (a.num * m))]) ?_))))))))))))))
 exact fun w' hw => ⟨rfl, hw.below⟩

set_option maxRecDepth 100000 in
theorem fcmp_t (a b : Fq) (w : World)
 (hU : a.U) (hV : b.U)
 : Calls Try.prog 17 #[.agg #[.int .u64 a.hi, .int .u64 a.lo, .int .u64 a.w], .agg #[.int .u64 b.hi, .int .u64 b.lo, .int .u64 b.w]] w fun e w' => e = .returned (.int .i64 (cmpF a b)) ∧ Below w.heap.size w w' := by
 refine enter (Hs.start w) Try.func17 rfl Try.ntmps17 rfl (sq_ (ma0 [] [] (fun γ1 => [(2, .pointer (some ⟨γ1 0, 0, none⟩)), (3, .pointer (some ⟨γ1 1, 0, none⟩))]) (fun γ1 L => bx (γ1 1) (#[.int .u64 b.hi, .int .u64 b.lo, .int .u64 b.w]) 45 :: bx (γ1 0) (#[.int .u64 a.hi, .int .u64 a.lo, .int .u64 a.w]) 45 :: L) (fun γ1 => ds_ (sq_ (sq_ (ao_ (mo0 3 [(0, .go (owns 1 0 3)), (1, .go (owns 0 0 3))] [2, 3] (fun γ2 => [(7, .slice (some ⟨γ2 0, 0, none⟩) 2 2)]) (fun γ2 L => bx (γ2 0) (#[.int .u64 a.hi, .int .u64 a.lo, .int .u64 a.w, .int .u64 b.hi, .int .u64 b.lo, .int .u64 b.w]) 45 :: L) (fun γ2 => ?_))))))))
 rcases q3 : (a.ok && b.ok) with _ | _
 ·
  refine cD (.bool false) Try.call45 (fun w hw => by have := right_t (some ⟨γ2 0, 0, none⟩) 2 2 [a, b] w (sv_row (hw.row 0 rfl) rfl) rfl (by decide); rw [all2, q3] at this; exact this) (qo0 1 [] [2, 3] [(9, .bool true)] (on_ (ds_ (t_ (sq_ (qa0 [] [] [(4, .int .i64 0)] (ds_ (rt ([]) (.int .i64 0) ?_))))))))
  exact fun w' hw => ⟨by rw [cmpF_no q3], hw.below⟩
 ·
  refine cD (.bool true) Try.call45 (fun w hw => by have := right_t (some ⟨γ2 0, 0, none⟩) 2 2 [a, b] w (sv_row (hw.row 0 rfl) rfl) rfl (by decide); rw [all2, q3] at this; exact this) (qo0 1 [] [2, 3] [(9, .bool false)] (on_ (ds_ (f_ (at_skip (ds_ (sq_ ?_)))))))
  refine at_calm rfl (by kernel_rfl) (by kernel_rfl) ?_
  refine cm 4 [(1, .go (owns 2 0 2)), (3, .go (owns 1 2 1))] [2, 3] [(11, .agg #[.int .u64 a.hi, .int .u64 a.lo]), (13, .int .u64 b.w)] ([]) (by kernel_rfl) rfl al0 ?_
  refine cK (.agg #[.int .u64 (hiV (a.num * b.w)), .int .u64 (loV (a.num * b.w))]) Try.call47 (fun w hw => times_t a b.w w hU (and_l q3) (wB_of (and_r q3))) ?_
  refine cm 4 [(6, .go (owns 1 0 2)), (8, .go (owns 2 2 1))] [14] [(16, .agg #[.int .u64 b.hi, .int .u64 b.lo]), (18, .int .u64 a.w)] ([]) (by kernel_rfl) rfl al0 ?_
  refine cK (.agg #[.int .u64 (hiV (b.num * a.w)), .int .u64 (loV (b.num * a.w))]) Try.call47 (fun w hw => times_t b a.w w hV (and_r q3) (wB_of (and_l q3))) ?_
  refine cK (.int .i64 (cmpI (a.num * b.w) (b.num * a.w))) Try.call46 (fun w hw => wcmp_v (Int.mul_nonneg hU.n0 hV.w0) (Int.mul_nonneg hV.n0 hU.w0) w) ?_
  refine cm 1 [] [] [(4, .int .i64 (cmpI (a.num * b.w) (b.num * a.w)))] ([]) (by kernel_rfl) rfl al0 ?_
  refine calm_nil' ?_
  refine ds_ (rt ([]) (.int .i64 (cmpI (a.num * b.w) (b.num * a.w))) ?_)
  exact fun w' hw => ⟨by rw [cmpF_yes q3], hw.below⟩
end Go.Proofs.Ytoljahfofkmdaaa

/-! Fractions: what is reckoned with them. -/
namespace Go.Proofs.Ytoljahfofkmdaaa
open Go Go.RowKit
end Go.Proofs.Ytoljahfofkmdaaa

/-! Queues: which may be; which are one. -/
namespace Go.Proofs.Ytoljahfofkmdaaa
open Go Go.RowKit
section
variable {P : Program} {ρ : Operand → Value} {T U : TypeId} {x y : Operand} {a b : Int} {o : Oper}
end
set_option maxRecDepth 100000 in
theorem id_t (k : Int) (w : World)
 : Calls Try.prog 84 #[.int .i64 k] w fun e w' => e = .returned (.bool (idV k)) ∧ Below w.heap.size w w' := by
 refine enter (Hs.start w) Try.func84 rfl Try.ntmps84 rfl (sq_ (qa0 [] [0] [] (ds_ (sq_ ?_))))
 by_cases q3 : (k : Int) ≥ (1 : Int)
 ·
  by_cases q5 : (k : Int) ≤ (16 : Int)
  ·
   refine qa [(1, .yes), (4, .yes)] [] [(2, .bool true)] ([(k : Int) ≥ (1 : Int)] ++ ([(k : Int) ≤ (16 : Int)])) (alA (al1 q3) (al1 q5)) (ds_ (rt ([]) (.bool true) ?_))
   exact fun w' hw => ⟨by rw [show idV k = true from by simp only [idV, decide_eq_true_eq]; omega], hw.below⟩
  ·
   refine qa [(1, .yes), (4, .no)] [] [(2, .bool false)] ([(k : Int) ≥ (1 : Int)] ++ ([¬ ((k : Int) ≤ (16 : Int))])) (alA (al1 q3) (al1 q5)) (ds_ (rt ([]) (.bool false) ?_))
   exact fun w' hw => ⟨by rw [show idV k = false from by simp only [idV, decide_eq_false_iff_not]; omega], hw.below⟩
 ·
  refine qa [(1, .no)] [] [(2, .bool false)] ([¬ ((k : Int) ≥ (1 : Int))]) (al1 q3) (ds_ (rt ([]) (.bool false) ?_))
  exact fun w' hw => ⟨by rw [show idV k = false from by simp only [idV, decide_eq_false_iff_not]; omega], hw.below⟩

set_option maxRecDepth 100000 in
theorem each_t (k : Int) (w : World)
 : Calls Try.prog 85 #[.int .i64 k] w fun e w' => e = .returned (.bool (eachV k)) ∧ Below w.heap.size w w' := by
 refine enter (Hs.start w) Try.func85 rfl Try.ntmps85 rfl (sq_ (qa0 [] [0] [] (ds_ (sq_ ?_))))
 by_cases q3 : (k : Int) ≥ (1 : Int)
 ·
  by_cases q5 : (k : Int) ≤ (8 : Int)
  ·
   refine qa [(1, .yes), (4, .yes)] [] [(2, .bool true)] ([(k : Int) ≥ (1 : Int)] ++ ([(k : Int) ≤ (8 : Int)])) (alA (al1 q3) (al1 q5)) (ds_ (rt ([]) (.bool true) ?_))
   exact fun w' hw => ⟨by rw [show eachV k = true from by simp only [eachV, decide_eq_true_eq]; omega], hw.below⟩
  ·
   refine qa [(1, .yes), (4, .no)] [] [(2, .bool false)] ([(k : Int) ≥ (1 : Int)] ++ ([¬ ((k : Int) ≤ (8 : Int))])) (alA (al1 q3) (al1 q5)) (ds_ (rt ([]) (.bool false) ?_))
   exact fun w' hw => ⟨by rw [show eachV k = false from by simp only [eachV, decide_eq_false_iff_not]; omega], hw.below⟩
 ·
  refine qa [(1, .no)] [] [(2, .bool false)] ([¬ ((k : Int) ≥ (1 : Int))]) (al1 q3) (ds_ (rt ([]) (.bool false) ?_))
  exact fun w' hw => ⟨by rw [show eachV k = false from by simp only [eachV, decide_eq_false_iff_not]; omega], hw.below⟩

set_option maxRecDepth 100000 in
theorem crun_t (r : Rn) (w : World)
 : Calls Try.prog 62 #[.agg #[.int .i64 r.id, .int .i64 r.each, .int .u64 r.th, .int .u64 r.tl, .int .u64 r.tw]] w fun e w' => e = .returned (.int .i64 (if rnB r = true then 0 else 2)) ∧ Below w.heap.size w w' := by
 refine enter (Hs.start w) Try.func62 rfl Try.ntmps62 rfl (sq_ (ma0 [] [] (fun γ1 => [(1, .pointer (some ⟨γ1 0, 0, none⟩))]) (fun γ1 L => bx (γ1 0) (#[.int .i64 r.id, .int .i64 r.each, .int .u64 r.th, .int .u64 r.tl, .int .u64 r.tw]) 67 :: L) (fun γ1 => ds_ (sq_ (sq_ (ao_ (qo0 2 [(1, .go (owns 0 0 1))] [1] [(4, .int .i64 r.id)] ?_)))))))
 rcases q3 : idV r.id with _ | _
 ·
  refine cD (.bool false) Try.call84 (fun w hw => by have := id_t r.id w; rw [q3] at this; exact this) (qo0 13 [] [] [(18, .bool true)] (on_ (ds_ (t_ (sq_ (qa0 [] [] [(2, .int .i64 2)] (ds_ (rt ([]) (.int .i64 2) ?_))))))))
  exact fun w' hw => ⟨by rw [rn_noI q3]; rfl, hw.below⟩
 ·
  refine cD (.bool true) Try.call84 (fun w hw => by have := id_t r.id w; rw [q3] at this; exact this) (qo0 4 [(6, .go (owns 0 1 1))] [1] [(7, .bool false), (9, .int .i64 r.each)] ?_)
  rcases q7 : eachV r.each with _ | _
  ·
   refine cD (.bool false) Try.call85 (fun w hw => by have := each_t r.each w; rw [q7] at this; exact this) (qo0 8 [] [] [(18, .bool true)] (on_ (ds_ (t_ (sq_ (qa0 [] [] [(2, .int .i64 2)] (ds_ (rt ([]) (.int .i64 2) ?_))))))))
   exact fun w' hw => ⟨by rw [rn_noE q7]; rfl, hw.below⟩
  ·
   refine cD (.bool true) Try.call85 (fun w hw => by have := each_t r.each w; rw [q7] at this; exact this) (qo0 5 [(12, .go (owns 0 2 3))] [] [(13, .bool false), (15, .agg #[.int .u64 r.th, .int .u64 r.tl, .int .u64 r.tw])] ?_)
   rcases q11 : r.t.ok with _ | _
   ·
    refine cD (.int .i64 150) Try.call19 (fun w hw => by have := fcheck_t r.t w; rw [q11] at this; exact this) (qo0 2 [] [] [(18, .bool true)] (on_ (ds_ (t_ (sq_ (qa0 [] [] [(2, .int .i64 2)] (ds_ (rt ([]) (.int .i64 2) ?_))))))))
    exact fun w' hw => ⟨by rw [rn_noT q11]; rfl, hw.below⟩
   ·
    refine cD (.int .i64 0) Try.call19 (fun w hw => by have := fcheck_t r.t w; rw [q11] at this; exact this) (qo0 2 [] [] [(18, .bool false)] (on_ (ds_ (f_ (at_skip (ds_ (sq_ (qa0 [] [] [(2, .int .i64 0)] (ds_ (rt ([]) (.int .i64 0) ?_))))))))))
    exact fun w' hw => ⟨by rw [rn_yes q3 q7 q11]; rfl, hw.below⟩

set_option maxRecDepth 100000 in
theorem qcheck_t (p : Option Addr) (n cap : Nat) (ts : List Rn) (w : World)
 (hts : Sv w p ts) (hn : n = ts.length) (hb : n ≤ 1000)
 : Calls Try.prog 39 #[.agg #[.slice p n cap]] w fun e w' => e = .returned (.int .i64 (if chkQ ts = true then 0 else 200)) ∧ Below w.heap.size w w' := by
 refine enter (Hs.start w) Try.func39 rfl Try.ntmps39 rfl (sq_ (ma0 [] [] (fun γ1 => [(1, .pointer (some ⟨γ1 0, 0, none⟩))]) (fun γ1 L => bx (γ1 0) (#[.slice p n cap]) 26 :: L) (fun γ1 => ds_ (sq_ (qa0 [] [1] [(3, .int .i64 0)] (ds_ (sq_ (sq_ (qa0 [(1, .go (owns 0 0 1))] [3] [(7, .slice p n cap), (8, .int .i64 (n : Nat)), (9, .int .i64 0)] (ds_ (at_block (at_loop (α := Nat × Int) [3, 7, 8, 9] (fun ⟨j, la⟩ => [(3, .int .i64 la), (7, .slice p n cap), (8, .int .i64 (n : Nat)), (9, .int .i64 (j : Nat))]) (fun ⟨j, la⟩ => [bx (γ1 0) (#[.slice p n cap]) 26]) (fun ⟨j, la⟩ => j ≤ n ∧ lastI ts j = la ∧ Ris Rn.id (ts.take j) ∧ ∀ y ∈ ts.take j, rnB y = true) (fun ⟨j, la⟩ => n - j) (0, 0) (by kernel_rfl) rfl ⟨Nat.zero_le _, rfl, ris_take0T, all_take0T⟩ ?_))))))))))))
 rintro ⟨j, la⟩
 rintro ⟨hj, hl, hR, hA⟩
 refine sq_ ?_
 by_cases q5 : ((j : Nat) : Int) < ((n : Nat) : Int)
 ·
  refine qa [(0, .yes)] [3, 7, 8, 9] [(10, .bool true)] ([((j : Nat) : Int) < ((n : Nat) : Int)]) (al1 q5) (ds_ (sq_ (t_ (at_skip (ds_ (sq_ (at_block (sq_ ?_))))))))
  obtain ⟨b8, o8, rfl⟩ := hts.pos (i := j) (by omega)
  obtain ⟨x10, hx10⟩ := get_some (l := ts) (m := j) (by omega)
  refine ma [(0, .at b8 o8 j), (1, .go (outs b8 (o8 + j * 5) [.int .i64 x10.id, .int .i64 x10.each, .int .u64 x10.th, .int .u64 x10.tl, .int .u64 x10.tw])), (3, .go (owns 0 0 5))] [3, 7, 8, 9] (fun γ11 => [(5, .pointer (some ⟨γ11 0, 0, none⟩))]) (fun γ11 L => bx (γ11 0) (#[.int .i64 x10.id, .int .i64 x10.each, .int .u64 x10.th, .int .u64 x10.tl, .int .u64 x10.tw]) 67 :: L) (fun γ11 => [(some ⟨b8, o8, none⟩ : Option Addr) = some ⟨b8, o8, none⟩, (j : Nat) = ((j : Nat) : Int), j < n] ++ (cellsP w b8 (o8 + j * 5) [.int .i64 x10.id, .int .i64 x10.each, .int .u64 x10.th, .int .u64 x10.tl, .int .u64 x10.tw])) (fun γ11 => (alA (al2 rfl (al2 rfl (al1 (by omega)))) (rd_pre (hts.get hx10) _ rfl))) (fun γ11 => ds_ (sq_ (sq_ (ao_ (qo0 1 [(0, .go (owns 0 0 5))] [3, 5, 7, 8, 9] [(13, .agg #[.int .i64 x10.id, .int .i64 x10.each, .int .u64 x10.th, .int .u64 x10.tl, .int .u64 x10.tw])] ?_)))))
  rcases q13 : rnB x10 with _ | _
  ·
   refine cD (.int .i64 2) Try.call62 (fun w hw => by have := crun_t x10 w; rw [q13] at this; exact this) (qo0 7 [] [5, 7, 8, 9] [(21, .bool true)] (on_ (ds_ (t_ (sq_ (qa0 [] [] [(2, .int .i64 200)] (ds_ (rt ([]) (.int .i64 200) ?_))))))))
   exact fun w' hw => ⟨by rw [chk_badR hx10 q13]; rfl, hw.below⟩
  ·
   refine cD (.int .i64 0) Try.call62 (fun w hw => by have := crun_t x10 w; rw [q13] at this; exact this) ?_
   by_cases q17 : (x10.id : Int) ≤ (la : Int)
   ·
    refine qo 7 [(5, .go (owns 0 0 1)), (7, .yes)] [5, 7, 8, 9] [(21, .bool true)] ([(x10.id : Int) ≤ (la : Int)]) (al1 q17) (on_ (ds_ (t_ (sq_ (qa0 [] [] [(2, .int .i64 200)] (ds_ (rt ([]) (.int .i64 200) ?_)))))))
    exact fun w' hw => ⟨by rw [chk_badL hx10 hl q13 (by omega)]; rfl, hw.below⟩
   ·
    refine qo 7 [(5, .go (owns 0 0 1)), (7, .no)] [5, 7, 8, 9] [(21, .bool false)] ([¬ ((x10.id : Int) ≤ (la : Int))]) (al1 q17) (on_ (ds_ (f_ (at_skip (ds_ (qa0 [(1, .go (owns 0 0 1))] [7, 8, 9] [(3, .int .i64 x10.id)] (done_block (ds_ (qa [(0, .fit)] [3, 7, 8] [(9, .int .i64 (j + 1 : Nat))] ([Fit .i64 ((j + 1 : Nat))]) (al1 (fit64 (by omega) (by omega))) (Done.drop (L' := [bx (γ1 0) (#[.slice (some ⟨b8, o8, none⟩) n cap]) 26]) ?_ (List.Sublist.cons _ (List.Sublist.cons_cons _ (List.Sublist.refl _)))))))))))))
    exact dr [3, 7, 8, 9] (j + 1, x10.id) ⟨by omega, last_on hx10, ris_onL hR hx10 hl (by omega), all_onT hA hx10 q13⟩
 ·
  refine qa [(0, .no)] [3, 7, 8, 9] [(10, .bool false)] ([¬ (((j : Nat) : Int) < ((n : Nat) : Int))]) (al1 q5) (ds_ (sq_ (f_ (at_leave _ rfl (ds_ (sq_ (qa0 [] [] [(2, .int .i64 0)] (ds_ (rt ([]) (.int .i64 0) ?_)))))))))
  exact fun w' hw => ⟨by rw [chk_good hR hA (by omega)]; rfl, hw.below⟩
end Go.Proofs.Ytoljahfofkmdaaa

/-! The document's answers. -/
namespace Go.Proofs.Ytoljahfofkmdaaa
open Go Go.RowKit

end Go.Proofs.Ytoljahfofkmdaaa

/-! Order: comparing. -/
namespace Go.Proofs.Ytoljahfofkmdaaa
open Go Go.RowKit
theorem bool_eqRun (op : BinOp) (hop : op = .eql ∨ op = .neq) (x y : Operand) (a b r : Bool) (hr : r = (if op = .eql then a == b else !(a == b))) : EqRun Try.prog op 4 x y (.bool a) (.bool b) r := by
 intro w
 subst hr
 have hg : Try.prog.eqGuardType Try.prog.depth 4 = false := by kernel_rfl
 have key : (Op.equal 4 (.bool a) (.bool b)).run Try.prog w = .ok (a == b) w := by
  unfold Op.equal
  rw [show Op.maxDepth = 9999 + 1 from rfl]
  exact run_equalIn_bool' w 9999 4 a b Try.underlying4
 have guard : (eqGuard op 4 x y (.bool a) (.bool b)).run Try.prog w = .ok () w := by
  unfold eqGuard
  rcases hop with rfl | rfl <;> simp [hg]
 rw [Sem.run_bind, guard]
 simp only [Result.andThen_ok]
 rcases hop with rfl | rfl <;> simp [binOp, Sem.run_bind, key]
theorem bool_ne {x y : Operand} (a b : Bool) : EqRun Try.prog .neq 4 x y (.bool a) (.bool b) (!(a == b)) := bool_eqRun _ (.inr rfl) x y a b _ (by simp)
theorem bool_eq {x y : Operand} (a b : Bool) : EqRun Try.prog .eql 4 x y (.bool a) (.bool b) (a == b) := bool_eqRun _ (.inl rfl) x y a b _ (by simp)

set_option maxRecDepth 100000 in
theorem isnan_int (a : Int) (w : World)
 : Calls Try.prog 83 #[.int .i64 a] w fun e w' => e = .returned (.bool false) ∧ Below w.heap.size w w' := by
 refine enter (Hs.start w) Try.func83 rfl Try.ntmps83 rfl (sq_ (qa0 [] [0] [] (ds_ (sq_ (qa [(2, .no)] [] [(2, .bool false)] ([¬ ((a : Int) ≠ (a : Int))]) (al1 (fun h => h rfl)) (ds_ (rt ([]) (.bool false) ?_)))))))
 exact fun w' hw => ⟨rfl, hw.below⟩

set_option maxRecDepth 100000 in
theorem cmp_int (a b : Int) (w : World)
 : Calls Try.prog 61 #[.int .i64 a, .int .i64 b] w fun e w' => e = .returned (.int .i64 (cmpT a b)) ∧ Below w.heap.size w w' := by
 refine enter (Hs.start w) Try.func61 rfl Try.ntmps61 rfl (sq_ (qa0 [] [0, 1] [] (ds_ (sq_ (ao_ (qo0 1 [] [0, 1] [(7, .int .i64 a)] (cD (.bool false) Try.call83 (fun w hw => isnan_int a w) (qo0 1 [] [0, 1] [(5, .bool false)] (on_ (ds_ (sq_ (ao_ (qo0 1 [] [0, 1, 5] [(9, .int .i64 b)] (cD (.bool false) Try.call83 (fun w hw => isnan_int b w) (qo0 1 [] [0, 1, 5] [(6, .bool false)] (on_ (ds_ (sq_ (sq_ (qa0 [] [0, 1, 6] [(11, .bool false)] (ds_ (f_ (at_skip (ds_ (sq_ (sq_ (qa0 [] [0, 1] [(13, .bool false)] (ds_ (f_ (at_skip (ds_ (sq_ (sq_ ?_)))))))))))))))))))))))))))))))))
 by_cases q9 : (a : Int) < (b : Int)
 ·
  refine qa [(2, .yes)] [0, 1] [(16, .bool true)] ([(a : Int) < (b : Int)]) (al1 q9) (ds_ (t_ (sq_ (qa0 [] [] [(4, .int .i64 (-1))] (ds_ (rt ([]) (.int .i64 (-1)) ?_))))))
  exact fun w' hw => ⟨by rw [show cmpT a b = -1 from by simp only [cmpT, if_pos q9]], hw.below⟩
 ·
  refine qa [(2, .no)] [0, 1] [(16, .bool false)] ([¬ ((a : Int) < (b : Int))]) (al1 q9) (ds_ (f_ (at_skip (ds_ (sq_ (sq_ ?_))))))
  by_cases q14 : (a : Int) > (b : Int)
  ·
   refine qa [(2, .yes)] [] [(19, .bool true)] ([(a : Int) > (b : Int)]) (al1 q14) (ds_ (t_ (sq_ (qa0 [] [] [(4, .int .i64 1)] (ds_ (rt ([]) (.int .i64 1) ?_))))))
   exact fun w' hw => ⟨by rw [show cmpT a b = 1 from by simp only [cmpT, if_neg q9, if_pos q14]], hw.below⟩
  ·
   refine qa [(2, .no)] [] [(19, .bool false)] ([¬ ((a : Int) > (b : Int))]) (al1 q14) (ds_ (f_ (at_skip (ds_ (sq_ (qa0 [] [] [(4, .int .i64 0)] (ds_ (rt ([]) (.int .i64 0) ?_))))))))
   exact fun w' hw => ⟨by rw [show cmpT a b = 0 from by simp only [cmpT, if_neg q9, if_neg q14]], hw.below⟩

set_option maxRecDepth 100000 in
theorem isnan_uint64 (a : Int) (w : World)
 : Calls Try.prog 82 #[.int .u64 a] w fun e w' => e = .returned (.bool false) ∧ Below w.heap.size w w' := by
 refine enter (Hs.start w) Try.func82 rfl Try.ntmps82 rfl (sq_ (qa0 [] [0] [] (ds_ (sq_ (qa [(2, .no)] [] [(2, .bool false)] ([¬ ((a : Int) ≠ (a : Int))]) (al1 (fun h => h rfl)) (ds_ (rt ([]) (.bool false) ?_)))))))
 exact fun w' hw => ⟨rfl, hw.below⟩

set_option maxRecDepth 100000 in
theorem cmp_uint64 (a b : Int) (w : World)
 : Calls Try.prog 60 #[.int .u64 a, .int .u64 b] w fun e w' => e = .returned (.int .i64 (cmpT a b)) ∧ Below w.heap.size w w' := by
 refine enter (Hs.start w) Try.func60 rfl Try.ntmps60 rfl (sq_ (qa0 [] [0, 1] [] (ds_ (sq_ (ao_ (qo0 1 [] [0, 1] [(7, .int .u64 a)] (cD (.bool false) Try.call82 (fun w hw => isnan_uint64 a w) (qo0 1 [] [0, 1] [(5, .bool false)] (on_ (ds_ (sq_ (ao_ (qo0 1 [] [0, 1, 5] [(9, .int .u64 b)] (cD (.bool false) Try.call82 (fun w hw => isnan_uint64 b w) (qo0 1 [] [0, 1, 5] [(6, .bool false)] (on_ (ds_ (sq_ (sq_ (qa0 [] [0, 1, 6] [(11, .bool false)] (ds_ (f_ (at_skip (ds_ (sq_ (sq_ (qa0 [] [0, 1] [(13, .bool false)] (ds_ (f_ (at_skip (ds_ (sq_ (sq_ ?_)))))))))))))))))))))))))))))))))
 by_cases q9 : (a : Int) < (b : Int)
 ·
  refine qa [(2, .yes)] [0, 1] [(16, .bool true)] ([(a : Int) < (b : Int)]) (al1 q9) (ds_ (t_ (sq_ (qa0 [] [] [(4, .int .i64 (-1))] (ds_ (rt ([]) (.int .i64 (-1)) ?_))))))
  exact fun w' hw => ⟨by rw [show cmpT a b = -1 from by simp only [cmpT, if_pos q9]], hw.below⟩
 ·
  refine qa [(2, .no)] [0, 1] [(16, .bool false)] ([¬ ((a : Int) < (b : Int))]) (al1 q9) (ds_ (f_ (at_skip (ds_ (sq_ (sq_ ?_))))))
  by_cases q14 : (a : Int) > (b : Int)
  ·
   refine qa [(2, .yes)] [] [(19, .bool true)] ([(a : Int) > (b : Int)]) (al1 q14) (ds_ (t_ (sq_ (qa0 [] [] [(4, .int .i64 1)] (ds_ (rt ([]) (.int .i64 1) ?_))))))
   exact fun w' hw => ⟨by rw [show cmpT a b = 1 from by simp only [cmpT, if_neg q9, if_pos q14]], hw.below⟩
  ·
   refine qa [(2, .no)] [] [(19, .bool false)] ([¬ ((a : Int) > (b : Int))]) (al1 q14) (ds_ (f_ (at_skip (ds_ (sq_ (qa0 [] [] [(4, .int .i64 0)] (ds_ (rt ([]) (.int .i64 0) ?_))))))))
   exact fun w' hw => ⟨by rw [show cmpT a b = 0 from by simp only [cmpT, if_neg q9, if_neg q14]], hw.below⟩
end Go.Proofs.Ytoljahfofkmdaaa

/-! Order: who may be asked, who stands ahead. -/
namespace Go.Proofs.Ytoljahfofkmdaaa
open Go Go.RowKit

set_option maxRecDepth 100000 in
theorem orl_t (p : Option Addr) (n cap : Nat) (l : List Int) (w : World)
 (hsl : Sv w p l) (hn : n = l.length) (hb : n ≤ 1000)
 : Calls Try.prog 59 #[.slice p n cap] w fun e w' => e = .returned (.int .i64 (orL l)) ∧ Below w.heap.size w w' := by
 refine enter (Hs.start w) Try.func59 rfl Try.ntmps59 rfl (sq_ (qa0 [] [0] [] (ds_ (sq_ (qa0 [] [0] [(3, .int .i64 0)] (ds_ (sq_ (sq_ (qa0 [] [3] [(6, .slice p n cap), (7, .int .i64 (n : Nat)), (8, .int .i64 0)] (ds_ (at_block (at_loop (α := Nat) [3, 6, 7, 8] (fun j => [(3, .int .i64 0), (6, .slice p n cap), (7, .int .i64 (n : Nat)), (8, .int .i64 (j : Nat))]) (fun j => []) (fun j => j ≤ n ∧ ∀ y ∈ l.take j, y = 0) (fun j => n - j) 0 (by kernel_rfl) rfl ⟨Nat.zero_le _, all_take0T⟩ ?_))))))))))))
 rintro j
 rintro ⟨hj, hI⟩
 refine sq_ ?_
 by_cases q5 : ((j : Nat) : Int) < ((n : Nat) : Int)
 ·
  refine qa [(0, .yes)] [3, 6, 7, 8] [(9, .bool true)] ([((j : Nat) : Int) < ((n : Nat) : Int)]) (al1 q5) (ds_ (sq_ (t_ (at_skip (ds_ (sq_ (at_block (sq_ ?_))))))))
  obtain ⟨b8, o8, rfl⟩ := hsl.pos (i := j) (by omega)
  obtain ⟨x10, hx10⟩ := get_some (l := l) (m := j) (by omega)
  refine qa [(0, .at b8 o8 j), (1, .go (outs b8 (o8 + j * 1) [.int .i64 x10]))] [3, 6, 7, 8] [(5, .int .i64 x10)] ([(some ⟨b8, o8, none⟩ : Option Addr) = some ⟨b8, o8, none⟩, (j : Nat) = ((j : Nat) : Int), j < n] ++ (cellsP w b8 (o8 + j * 1) [.int .i64 x10])) (alA (al2 rfl (al2 rfl (al1 (by omega)))) (rd_pre (hsl.get hx10) _ rfl)) (ds_ (sq_ ?_))
  by_cases q13 : (x10 : Int) ≠ (0 : Int)
  ·
   refine qa [(2, .yes)] [3, 5, 6, 7, 8] [(14, .bool true)] ([(x10 : Int) ≠ (0 : Int)]) (al1 q13) (ds_ (t_ (sq_ (qa0 [] [] [(2, .int .i64 x10)] (ds_ (rt ([]) (.int .i64 x10) ?_))))))
   exact fun w' hw => ⟨by rw [or_yes hI hx10 q13], hw.below⟩
  ·
   refine qa [(2, .no)] [3, 5, 6, 7, 8] [(14, .bool false)] ([¬ ((x10 : Int) ≠ (0 : Int))]) (al1 q13) (ds_ (f_ (at_skip (done_block (ds_ (qa [(0, .fit)] [3, 6, 7] [(8, .int .i64 (j + 1 : Nat))] ([Fit .i64 ((j + 1 : Nat))]) (al1 (fit64 (by omega) (by omega))) ?_))))))
   exact dr [3, 6, 7, 8] (j + 1) ⟨by omega, all_onT hI hx10 (by omega)⟩
 ·
  refine qa [(0, .no)] [3, 6, 7, 8] [(9, .bool false)] ([¬ (((j : Nat) : Int) < ((n : Nat) : Int))]) (al1 q5) (ds_ (sq_ (f_ (at_leave _ rfl (ds_ (sq_ (qa0 [] [] [(2, .int .i64 0)] (ds_ (rt ([]) (.int .i64 0) ?_)))))))))
  rw [List.take_of_length_le (by omega)] at hI
  exact fun w' hw => ⟨by rw [or_no hI], hw.below⟩

set_option maxRecDepth 100000 in
theorem compare_t (a b : EnA) (w : World)
 (ra : a.Reads w)
 (rb : b.Reads w)
 (h0a : 0 < a.l.length) (h0b : 0 < b.l.length)
 : Calls Try.prog 38 #[.agg #[.slice a.p a.n a.cap, .int .u64 a.th, .int .u64 a.tl, .int .u64 a.tw, .int .u64 a.ord, .bool a.fresh], .agg #[.slice b.p b.n b.cap, .int .u64 b.th, .int .u64 b.tl, .int .u64 b.tw, .int .u64 b.ord, .bool b.fresh]] w fun e w' => e = .returned (.int .i64 (cmpE a.val b.val)) ∧ Below w.heap.size w w' := by
 have hsa : Sv w a.p a.l := ra.sv
 have hna : a.n = a.l.length := ra.hn
 have hca := ra.hc
 have hba := ra.hb
 have hsb : Sv w b.p b.l := rb.sv
 have hnb : b.n = b.l.length := rb.hn
 have hcb := rb.hc
 have hbb := rb.hb
 refine enter (Hs.start w) Try.func38 rfl Try.ntmps38 rfl (sq_ (ma0 [] [] (fun γ1 => [(2, .pointer (some ⟨γ1 0, 0, none⟩)), (3, .pointer (some ⟨γ1 1, 0, none⟩))]) (fun γ1 L => bx (γ1 1) (#[.slice b.p b.n b.cap, .int .u64 b.th, .int .u64 b.tl, .int .u64 b.tw, .int .u64 b.ord, .bool b.fresh]) 47 :: bx (γ1 0) (#[.slice a.p a.n a.cap, .int .u64 a.th, .int .u64 a.tl, .int .u64 a.tw, .int .u64 a.ord, .bool a.fresh]) 47 :: L) (fun γ1 => ds_ (sq_ (sq_ ?_)))))
 rcases q3 : a.fresh with _ | _
 ·
  rcases q5 : b.fresh with _ | _
  ·
   refine qa [(1, .go (owns 1 5 1)), (3, .go (owns 0 5 1)), (4, .eqs false)] [2, 3] [(9, .bool false)] ([EqRun Try.prog .neq 4 (.tmp 6) (.tmp 8) (.bool false) (.bool false) false]) (al1 (bool_ne false false)) (ds_ (f_ (at_skip (ds_ (sq_ ?_)))))
   obtain ⟨b7, o7, hbo7⟩ := hsa.pos (i := 0) (by omega)
   have hsv7 := hsa
   rw [hbo7] at hsv7
   obtain ⟨x8, hx8⟩ := get_some (l := a.l) (m := 0) (by omega)
   obtain ⟨b9, o9, hbo9⟩ := hsb.pos (i := 0) (by omega)
   have hsv9 := hsb
   rw [hbo9] at hsv9
   obtain ⟨x10, hx10⟩ := get_some (l := b.l) (m := 0) (by omega)
   refine at_calmTo (f := 3) 19 rfl (by kernel_rfl) (by kernel_rfl) (by kernel_rfl) (by kernel_rfl) (by kernel_rfl) (by kernel_rfl) ?_
   refine cm 4 [(1, .go (owns 1 1 3)), (3, .go (owns 0 1 3))] [2, 3] [(13, .agg #[.int .u64 a.th, .int .u64 a.tl, .int .u64 a.tw]), (15, .agg #[.int .u64 b.th, .int .u64 b.tl, .int .u64 b.tw])] ([]) (by kernel_rfl) rfl al0 ?_
   refine cK (.int .i64 (cmpF a.t b.t)) Try.call17 (fun w hw => fcmp_t a.t b.t w ra.tU rb.tU) ?_
   refine cm 4 [(6, .go (owns 1 4 1)), (8, .go (owns 0 4 1))] [2, 3, 16] [(18, .int .u64 a.ord), (20, .int .u64 b.ord)] ([]) (by kernel_rfl) rfl al0 ?_
   refine cK (.int .i64 (cmpT a.ord b.ord)) Try.call60 (fun w hw => cmp_uint64 a.ord b.ord w) ?_
   refine cm 8 [(11, .go (owns 1 0 1)), (12, .at b7 o7 0), (13, .go (outs b7 (o7 + 0 * 1) [.int .i64 x8])), (15, .go (owns 0 0 1)), (16, .at b9 o9 0), (17, .go (outs b9 (o9 + 0 * 1) [.int .i64 x10]))] [16, 21] [(25, .int .i64 x8), (29, .int .i64 x10)] ([(a.p : Option Addr) = some ⟨b7, o7, none⟩, 0 = ((0 : Nat) : Int), 0 < a.n] ++ (cellsP w b7 (o7 + 0 * 1) [.int .i64 x8] ++ ([(b.p : Option Addr) = some ⟨b9, o9, none⟩, 0 = ((0 : Nat) : Int), 0 < b.n] ++ (cellsP w b9 (o9 + 0 * 1) [.int .i64 x10])))) (by kernel_rfl) rfl (alA (al2 hbo7 (al2 rfl (al1 (by omega)))) (alA (rd_pre (hsv7.get hx8) _ rfl) (alA (al2 hbo9 (al2 rfl (al1 (by omega)))) (rd_pre (hsv9.get hx10) _ rfl)))) ?_
   refine cK (.int .i64 (cmpT x8 x10)) Try.call61 (fun w hw => cmp_int x8 x10 w) ?_
   refine calm_nil' ?_
   refine done_pre (li' := #[true, true, true, true, true, true, true, true, true, true, true, true, true, true, true, true, true, true, true, false, false, false]) (by kernel_rfl) ?_
   refine any_cutX (V := (Nat → Nat)) (fun γ397 => True) 0 #[true, true, true, true, true, true, true, true, true, true, true, true, true, true, true, true, true, true, true, true, true, true] (fun γ397 => [(4, .int .i64 (orL [(cmpF a.t b.t), (cmpT a.ord b.ord), (cmpT x8 x10)]))]) (fun γ397 => [bx (γ397 0) (#[.int .i64 (cmpF a.t b.t), .int .i64 (cmpT a.ord b.ord), .int .i64 (cmpT x8 x10)]) 3, bx (γ1 1) (#[.slice b.p b.n b.cap, .int .u64 b.th, .int .u64 b.tl, .int .u64 b.tw, .int .u64 b.ord, .bool false]) 47, bx (γ1 0) (#[.slice a.p a.n a.cap, .int .u64 a.th, .int .u64 a.tl, .int .u64 a.tw, .int .u64 a.ord, .bool false]) 47]) ?_ (fun hmx2 => ?_)
   rotate_left
   ·
    refine any_cutX (V := (Nat → Nat)) (fun γ397 => True) 2 #[true, true, true, true, true, true, true, true, true, true, true, true, true, true, true, true, true, true, true, true, false, false] (fun γ397 => [(31, .slice (some ⟨γ397 0, 0, none⟩) 3 3)]) (fun γ397 => [bx (γ397 0) (#[.int .i64 (cmpF a.t b.t), .int .i64 (cmpT a.ord b.ord), .int .i64 (cmpT x8 x10)]) 3, bx (γ1 1) (#[.slice b.p b.n b.cap, .int .u64 b.th, .int .u64 b.tl, .int .u64 b.tw, .int .u64 b.ord, .bool false]) 47, bx (γ1 0) (#[.slice a.p a.n a.cap, .int .u64 a.th, .int .u64 a.tl, .int .u64 a.tw, .int .u64 a.ord, .bool false]) 47]) ?_ (fun hmx1 => ?_)
    ·
     rintro γ397 _
     refine a1 20 rfl ?_
     refine cD (.int .i64 (orL [(cmpF a.t b.t), (cmpT a.ord b.ord), (cmpT x8 x10)])) Try.call59 (fun w hw => orl_t (some ⟨γ397 0, 0, none⟩) 3 3 [(cmpF a.t b.t), (cmpT a.ord b.ord), (cmpT x8 x10)] w (sv_row (hw.row 0 rfl) rfl) rfl (by decide)) ?_
     refine od_ ?_
     refine tk (m := 0) [21] [] [] [(4, .int .i64 (orL [(cmpF a.t b.t), (cmpT a.ord b.ord), (cmpT x8 x10)]))] ([]) #[true, true, true, true, true, true, true, true, true, true, true, true, true, true, true, true, true, true, true, true, true, true] al0 ?_
     exact wk (hmx2 γ397 trivial) [4] [[_], [_], [_]] [0, 1, 2] rfl rfl
    refine a1 19 rfl ?_
    refine mo0 1 [] [] (fun γ397 => [(31, .slice (some ⟨γ397 0, 0, none⟩) 3 3)]) (fun γ397 L => bx (γ397 0) (#[.int .i64 (cmpF a.t b.t), .int .i64 (cmpT a.ord b.ord), .int .i64 (cmpT x8 x10)]) 3 :: L) (fun γ397 => ?_)
    refine od_ ?_
    exact wk (hmx1 γ397 trivial) [31] [[_], [_], [_]] [0, 1, 2] rfl rfl
   rintro γ397 _
   refine any_nil (by kernel_rfl) ?_
   refine ds_ (rt ([]) (.int .i64 (orL [(cmpF a.t b.t), (cmpT a.ord b.ord), (cmpT x8 x10)])) ?_)
   exact fun w' hw => ⟨by rw [cmpE_s (a := a.val) (b := b.val) (q3.trans q5.symm) hx8 hx10]; rfl, hw.below⟩
  ·
   refine qa [(1, .go (owns 1 5 1)), (3, .go (owns 0 5 1)), (4, .eqs true)] [2, 3] [(9, .bool true)] ([EqRun Try.prog .neq 4 (.tmp 6) (.tmp 8) (.bool false) (.bool true) true]) (al1 (bool_ne false true)) (ds_ (t_ (sq_ (sq_ (qa0 [(1, .go (owns 1 5 1))] [] [(11, .bool false)] (ds_ (f_ (at_skip (ds_ (sq_ (qa0 [] [] [(4, .int .i64 1)] (ds_ (rt ([]) (.int .i64 1) ?_)))))))))))))
   exact fun w' hw => ⟨by rw [cmpE_r (a := a.val) (b := b.val) q3 q5], hw.below⟩
 ·
  rcases q502 : b.fresh with _ | _
  ·
   refine qa [(1, .go (owns 1 5 1)), (3, .go (owns 0 5 1)), (4, .eqs true)] [2, 3] [(9, .bool true)] ([EqRun Try.prog .neq 4 (.tmp 6) (.tmp 8) (.bool true) (.bool false) true]) (al1 (bool_ne true false)) (ds_ (t_ (sq_ (sq_ (qa0 [(1, .go (owns 1 5 1))] [] [(11, .bool true)] (ds_ (t_ (sq_ (qa0 [] [] [(4, .int .i64 (-1))] (ds_ (rt ([]) (.int .i64 (-1)) ?_)))))))))))
   exact fun w' hw => ⟨by rw [cmpE_l (a := a.val) (b := b.val) q3 q502], hw.below⟩
  ·
   refine qa [(1, .go (owns 1 5 1)), (3, .go (owns 0 5 1)), (4, .eqs false)] [2, 3] [(9, .bool false)] ([EqRun Try.prog .neq 4 (.tmp 6) (.tmp 8) (.bool true) (.bool true) false]) (al1 (bool_ne true true)) (ds_ (f_ (at_skip (ds_ (sq_ ?_)))))
   obtain ⟨b507, o507, hbo507⟩ := hsa.pos (i := 0) (by omega)
   have hsv507 := hsa
   rw [hbo507] at hsv507
   obtain ⟨x508, hx508⟩ := get_some (l := a.l) (m := 0) (by omega)
   obtain ⟨b509, o509, hbo509⟩ := hsb.pos (i := 0) (by omega)
   have hsv509 := hsb
   rw [hbo509] at hsv509
   obtain ⟨x510, hx510⟩ := get_some (l := b.l) (m := 0) (by omega)
   refine at_calmTo (f := 3) 19 rfl (by kernel_rfl) (by kernel_rfl) (by kernel_rfl) (by kernel_rfl) (by kernel_rfl) (by kernel_rfl) ?_
   refine cm 4 [(1, .go (owns 1 1 3)), (3, .go (owns 0 1 3))] [2, 3] [(13, .agg #[.int .u64 a.th, .int .u64 a.tl, .int .u64 a.tw]), (15, .agg #[.int .u64 b.th, .int .u64 b.tl, .int .u64 b.tw])] ([]) (by kernel_rfl) rfl al0 ?_
   refine cK (.int .i64 (cmpF a.t b.t)) Try.call17 (fun w hw => fcmp_t a.t b.t w ra.tU rb.tU) ?_
   refine cm 4 [(6, .go (owns 1 4 1)), (8, .go (owns 0 4 1))] [2, 3, 16] [(18, .int .u64 a.ord), (20, .int .u64 b.ord)] ([]) (by kernel_rfl) rfl al0 ?_
   refine cK (.int .i64 (cmpT a.ord b.ord)) Try.call60 (fun w hw => cmp_uint64 a.ord b.ord w) ?_
   refine cm 8 [(11, .go (owns 1 0 1)), (12, .at b507 o507 0), (13, .go (outs b507 (o507 + 0 * 1) [.int .i64 x508])), (15, .go (owns 0 0 1)), (16, .at b509 o509 0), (17, .go (outs b509 (o509 + 0 * 1) [.int .i64 x510]))] [16, 21] [(25, .int .i64 x508), (29, .int .i64 x510)] ([(a.p : Option Addr) = some ⟨b507, o507, none⟩, 0 = ((0 : Nat) : Int), 0 < a.n] ++ (cellsP w b507 (o507 + 0 * 1) [.int .i64 x508] ++ ([(b.p : Option Addr) = some ⟨b509, o509, none⟩, 0 = ((0 : Nat) : Int), 0 < b.n] ++ (cellsP w b509 (o509 + 0 * 1) [.int .i64 x510])))) (by kernel_rfl) rfl (alA (al2 hbo507 (al2 rfl (al1 (by omega)))) (alA (rd_pre (hsv507.get hx508) _ rfl) (alA (al2 hbo509 (al2 rfl (al1 (by omega)))) (rd_pre (hsv509.get hx510) _ rfl)))) ?_
   refine cK (.int .i64 (cmpT x508 x510)) Try.call61 (fun w hw => cmp_int x508 x510 w) ?_
   refine calm_nil' ?_
   refine done_pre (li' := #[true, true, true, true, true, true, true, true, true, true, true, true, true, true, true, true, true, true, true, false, false, false]) (by kernel_rfl) ?_
   refine any_cutX (V := (Nat → Nat)) (fun γ897 => True) 0 #[true, true, true, true, true, true, true, true, true, true, true, true, true, true, true, true, true, true, true, true, true, true] (fun γ897 => [(4, .int .i64 (orL [(cmpF a.t b.t), (cmpT a.ord b.ord), (cmpT x508 x510)]))]) (fun γ897 => [bx (γ897 0) (#[.int .i64 (cmpF a.t b.t), .int .i64 (cmpT a.ord b.ord), .int .i64 (cmpT x508 x510)]) 3, bx (γ1 1) (#[.slice b.p b.n b.cap, .int .u64 b.th, .int .u64 b.tl, .int .u64 b.tw, .int .u64 b.ord, .bool true]) 47, bx (γ1 0) (#[.slice a.p a.n a.cap, .int .u64 a.th, .int .u64 a.tl, .int .u64 a.tw, .int .u64 a.ord, .bool true]) 47]) ?_ (fun hmx2 => ?_)
   rotate_left
   ·
    refine any_cutX (V := (Nat → Nat)) (fun γ897 => True) 2 #[true, true, true, true, true, true, true, true, true, true, true, true, true, true, true, true, true, true, true, true, false, false] (fun γ897 => [(31, .slice (some ⟨γ897 0, 0, none⟩) 3 3)]) (fun γ897 => [bx (γ897 0) (#[.int .i64 (cmpF a.t b.t), .int .i64 (cmpT a.ord b.ord), .int .i64 (cmpT x508 x510)]) 3, bx (γ1 1) (#[.slice b.p b.n b.cap, .int .u64 b.th, .int .u64 b.tl, .int .u64 b.tw, .int .u64 b.ord, .bool true]) 47, bx (γ1 0) (#[.slice a.p a.n a.cap, .int .u64 a.th, .int .u64 a.tl, .int .u64 a.tw, .int .u64 a.ord, .bool true]) 47]) ?_ (fun hmx1 => ?_)
    ·
     rintro γ897 _
     refine a1 20 rfl ?_
     refine cD (.int .i64 (orL [(cmpF a.t b.t), (cmpT a.ord b.ord), (cmpT x508 x510)])) Try.call59 (fun w hw => orl_t (some ⟨γ897 0, 0, none⟩) 3 3 [(cmpF a.t b.t), (cmpT a.ord b.ord), (cmpT x508 x510)] w (sv_row (hw.row 0 rfl) rfl) rfl (by decide)) ?_
     refine od_ ?_
     refine tk (m := 0) [21] [] [] [(4, .int .i64 (orL [(cmpF a.t b.t), (cmpT a.ord b.ord), (cmpT x508 x510)]))] ([]) #[true, true, true, true, true, true, true, true, true, true, true, true, true, true, true, true, true, true, true, true, true, true] al0 ?_
     exact wk (hmx2 γ897 trivial) [4] [[_], [_], [_]] [0, 1, 2] rfl rfl
    refine a1 19 rfl ?_
    refine mo0 1 [] [] (fun γ897 => [(31, .slice (some ⟨γ897 0, 0, none⟩) 3 3)]) (fun γ897 L => bx (γ897 0) (#[.int .i64 (cmpF a.t b.t), .int .i64 (cmpT a.ord b.ord), .int .i64 (cmpT x508 x510)]) 3 :: L) (fun γ897 => ?_)
    refine od_ ?_
    exact wk (hmx1 γ897 trivial) [31] [[_], [_], [_]] [0, 1, 2] rfl rfl
   rintro γ897 _
   refine any_nil (by kernel_rfl) ?_
   refine ds_ (rt ([]) (.int .i64 (orL [(cmpF a.t b.t), (cmpT a.ord b.ord), (cmpT x508 x510)])) ?_)
   exact fun w' hw => ⟨by rw [cmpE_s (a := a.val) (b := b.val) (q3.trans q502.symm) hx508 hx510]; rfl, hw.below⟩

end Go.Proofs.Ytoljahfofkmdaaa

/-! The walker: slices.SortFunc on a slice of one's own, by the library's contract. -/
namespace Go.Proofs.Ytoljahfofkmdaaa
open Go Go.RowKit Go.Shelf Go.Proofs
open Go.Sort (flatK get_flatK HoldsK putRowK size_flatK)

section
variable {α : Type} [Enc α] [Inhabited α]
theorem flatK_is (l : List α) : flatK Enc.enc (Enc.k α) l.toArray = (l.flatMap Enc.enc).toArray := by
  have hk := Enc.pos (α := α)
  apply Array.ext
  · rw [size_flatK, List.size_toArray, List.size_toArray, flat_len]
  · intro t h1 h2
    have ht : t < l.length * Enc.k α := by rw [← flat_len]; exact h2
    have hi : t / Enc.k α < l.length := Nat.div_lt_of_lt_mul (by rw [Nat.mul_comm]; exact ht)
    have hj : t % Enc.k α < Enc.k α := Nat.mod_lt _ hk
    have hg := flat_get l (t / Enc.k α) hi (t % Enc.k α) hj
    rw [Nat.mul_comm, Nat.div_add_mod] at hg
    have h3 := get_flatK Enc.enc (Enc.k α) l.toArray t (by simpa using ht)
    rw [getElem!_pos (flatK Enc.enc (Enc.k α) l.toArray) t h1] at h3
    rw [h3]
    have e1 : l.toArray[t / Enc.k α]! = l[t / Enc.k α] := by rw [getElem!_pos l.toArray _ (by simpa using hi)]; simp
    rw [e1]
    have h4 : t % Enc.k α < (Enc.enc l[t / Enc.k α]).length := by rw [Enc.len]; exact hj
    rw [getElem!_pos (Enc.enc l[t / Enc.k α]) _ h4]
    rw [List.getElem?_eq_getElem h4, List.getElem?_eq_getElem (by simpa using h2)] at hg
    simp only [Option.some.injEq] at hg
    simpa using hg.symm
theorem holdsK_own {w : World} {g n cap : Nat} {cs : Array Value} {T : TypeId} {l : List α} (hg : w.heap[g]? = some (.cells cs T (0, 0))) (hn : n = l.length) (h : OwnS (Enc.k α) (l.flatMap Enc.enc) n cap cs) : HoldsK Enc.enc (Enc.k α) w g 0 l.toArray := by
  intro j hj
  have hj' : j < n * Enc.k α := by rw [hn]; simpa using hj
  have e0 : j < (l.flatMap Enc.enc).toArray.size := by rw [← flatK_is]; exact hj
  rw [Nat.zero_add]
  constructor
  · rw [cell_own hg, h.get j hj', flatK_is, id, getElem!_pos _ j e0, List.getElem?_eq_getElem (by simpa using e0)]
    simp
  · simp [World.frozen?, hg]
theorem turn_putRow {w : World} {g m n cap : Nat} {cs : Array Value} {T : TypeId} {l l' : List α} (hg : w.heap[g]? = some (.cells cs T (0, 0))) (hn : n = l.length) (hl : l'.length = l.length) (h : OwnS (Enc.k α) (l.flatMap Enc.enc) n cap cs) :
    ∃ cs', Turn g (.cells cs' T (0, 0)) w (putRowK Enc.enc (Enc.k α) (Go.Sort.ahead w m) g 0 l'.toArray) ∧ OwnS (Enc.k α) (l'.flatMap Enc.enc) n cap cs' := by
  have hsz : (l'.flatMap Enc.enc).length = n * Enc.k α := by rw [flat_len, hl, hn]
  have hle : n * Enc.k α ≤ cs.size := by rw [h.csz]; exact Nat.mul_le_mul_right _ h.le
  refine ⟨Go.Sort.putCells id 0 (flatK Enc.enc (Enc.k α) l'.toArray) cs, ⟨?_, fun k hk => ?_, ?_, rfl, rfl, rfl, Nat.le_add_right _ _⟩, ⟨hsz, h.le, h.max, ?_, ?_⟩⟩
  · unfold putRowK Go.Sort.putRow Go.Sort.mapBlock Go.Sort.ahead
    simp [Array.getElem?_modify, hg, Go.Sort.onCells]
  · unfold putRowK Go.Sort.putRow Go.Sort.mapBlock Go.Sort.ahead
    simp only [Array.getElem?_modify]
    rw [if_neg (fun e => hk e.symm)]
  · unfold putRowK Go.Sort.putRow Go.Sort.mapBlock Go.Sort.ahead
    simp
  · rw [← h.csz]; simp [Go.Sort.putCells]
  · rw [flatK_is]
    apply List.ext_getElem?
    intro j
    rw [List.getElem?_take]
    by_cases hj : j < n * Enc.k α
    · rw [if_pos hj, Array.getElem?_toList]
      unfold Go.Sort.putCells
      rw [Array.getElem?_mapIdx, Array.getElem?_eq_getElem (by omega)]
      simp only [Option.map_some, Nat.zero_le, true_and, Nat.zero_add, Nat.sub_zero, List.size_toArray, id]
      rw [if_pos (by omega), getElem!_pos _ j (by simpa [hsz] using hj), List.getElem?_eq_getElem (by omega)]
      simp
    · rw [if_neg hj, List.getElem?_eq_none (by omega)]
theorem below_grow (w : World) (os : Array Obj) : Below w.heap.size w (Go.Sort.grow w os) := by
  refine ⟨rfl, rfl, rfl, ?_, fun k hk => ?_, Nat.le_refl _⟩
  · simp [Go.Sort.grow]
  · simp only [Go.Sort.grow]
    rw [Array.getElem?_append_left hk]
/-- The same, where the comparing function is known in whatever world that holds the row and what else is one's own. -/
theorem sort_ownR {P : Program} {ρ : Ren} (L : SlLaysF0.n6 P ρ) {T : TypeId} (aE : ∀ w, (isAgg (ρ.t 24)).run P w = .ok true w) (zE : ∀ w, (Go.sizeOf (ρ.t 24)).run P w = .ok (Enc.k α) w) (cf : α → α → Int) (hO : Go.Sort.SWO (ltOf cf))
    (hT : ∀ x y, (ltOf cf) x y = false → (ltOf cf) y x = false → x = y) (g : Nat) (cb : Array Value) (eg : ∀ args w, (callFunc g args).run P w = .ok (.enter g args) w) {w0 w : World} {X Y : List Ob} {p : Option Addr} {n cap : Nat} {l : List α} (hH : Hs w0 (Y ++ X) w) (hS : SlO T Y p n cap l) (hb : n ≤ 1000000)
    (hcmp : ∀ (b : Ob) (W : World), Hs w0 (b :: X) W → ∀ x y : α, Calls P g (#[.agg (Enc.enc x).toArray, .agg (Enc.enc y).toArray] ++ cb) W fun e w' => e = .returned (.int .i64 (cf x y)) ∧ Below W.heap.size W w') :
    Calls P (ρ.f 6) #[.slice p n cap, .func (.func g) #[] cb] w fun e w' => e = .returned (.tuple #[]) ∧ ∃ Y', SlO T Y' p n cap (l.mergeSort fun x y => !(ltOf cf) y x) ∧ Hs w0 (Y' ++ X) w' := by
  rcases hS with ⟨rfl, rfl, rfl, rfl, rfl⟩ | ⟨blk, cs, rfl, rfl, hn, hw⟩
  · refine (AnyF.slices_SortFunc_none L none 0 _ w).mono ?_
    rintro e w' ⟨rfl, rfl⟩
    exact ⟨rfl, [], by simpa using SlO.nil, hH⟩
  · have hg := hH.row 0 rfl
    have hs : l.toArray.size = n := by simpa using hn.symm
    have hl : (l.mergeSort fun x y => !(ltOf cf) y x).length = l.length := List.length_mergeSort l
    have hcl : CmpLays P g cb Enc.enc (Enc.k α) cf blk 0 n w := by
      intro m os dk hdk x y
      have hdl : dk.toList.length = l.length := by rw [← hn, ← hdk]; rfl
      obtain ⟨cs', ht, hw'⟩ := turn_putRow (m := m) hg hn hdl hw
      have h2 := (hH.turnHead ht).kept (below_grow _ os)
      refine (hcmp _ _ h2 x y).mono ?_
      rintro e w' ⟨rfl, hb'⟩
      refine ⟨rfl, ?_⟩
      obtain ⟨q, os', hw2⟩ := below_grows hb'
      exact ⟨q, os', hw2⟩
    have := AnyQ.slices_SortFunc_total L (Enc.k α) aE zE Enc.enc Enc.len Enc.one cf hO g cb blk 0 cap l.toArray w eg (by rw [hs]; exact hcl) (holdsK_own hg hn hw) (hs_lt hg) (by omega) hT
    rw [hs] at this
    refine this.mono ?_
    rintro e w' ⟨rfl, m, os, rfl⟩
    obtain ⟨cs', ht, hw'⟩ := turn_putRow (m := m) hg hn hl hw
    refine ⟨rfl, [(blk, .cells cs' T (0, 0))], .inr ⟨blk, cs', rfl, rfl, by rw [hl]; exact hn, hw'⟩, ?_⟩
    have h2 := hH.turnHead ht
    exact h2.kept (below_grow _ _)
end
end Go.Proofs.Ytoljahfofkmdaaa

/-! The library's sort of entities: its bodies, as the kit's command lays them (written out). -/
namespace Go.Proofs.Ytoljahfofkmdaaa
open Go Go.Shelf Go.Proofs
def sortEL_ren : Go.Shelf.Ren := ⟨fun | 6 => 37 | 15 => 58 | 14 => 57 | 28 => 80 | 29 => 81 | 20 => 72 | 21 => 73 | 22 => 74 | 23 => 75 | 24 => 76 | 25 => 77 | 26 => 78 | 27 => 79 | 46 => 90 | 47 => 91 | 48 => 92 | 49 => 93 | 50 => 94 | 57 => 99 | n => n, fun | 22 => 34 | 24 => 47 | 25 => 82 | 3 => 3 | 39 => 57 | 0 => 0 | 53 => 123 | 55 => 41 | 4 => 4 | 46 => 117 | 45 => 116 | 50 => 63 | 5 => 5 | 9 => 9 | 66 => 128 | 70 => 132 | 76 => 142 | 77 => 143 | n => n, fun | n => n⟩
theorem sortEL : Go.Proofs.SlLaysF0.n6 Try.prog sortEL_ren where
  mixed := by kernel_rfl
  f6 := ⟨"slices.SortFunc[[]mainsheet/api.Entity,mainsheet/api.Entity]", by decide, Try.func37.trans (congrArg some (by kernel_rfl))⟩
  f14 := ⟨"slices.pdqsortCmpFunc[mainsheet/api.Entity]", by decide, Try.func57.trans (congrArg some (by kernel_rfl))⟩
  f15 := Try.func58.trans (congrArg some (by kernel_rfl))
  f20 := ⟨"slices.insertionSortCmpFunc[mainsheet/api.Entity]", by decide, Try.func72.trans (congrArg some (by kernel_rfl))⟩
  f21 := ⟨"slices.heapSortCmpFunc[mainsheet/api.Entity]", by decide, Try.func73.trans (congrArg some (by kernel_rfl))⟩
  f22 := ⟨"slices.breakPatternsCmpFunc[mainsheet/api.Entity]", by decide, Try.func74.trans (congrArg some (by kernel_rfl))⟩
  f23 := ⟨"slices.choosePivotCmpFunc[mainsheet/api.Entity]", by decide, Try.func75.trans (congrArg some (by kernel_rfl))⟩
  f24 := ⟨"slices.reverseRangeCmpFunc[mainsheet/api.Entity]", by decide, Try.func76.trans (congrArg some (by kernel_rfl))⟩
  f25 := ⟨"slices.partialInsertionSortCmpFunc[mainsheet/api.Entity]", by decide, Try.func77.trans (congrArg some (by kernel_rfl))⟩
  f26 := ⟨"slices.partitionEqualCmpFunc[mainsheet/api.Entity]", by decide, Try.func78.trans (congrArg some (by kernel_rfl))⟩
  f27 := ⟨"slices.partitionCmpFunc[mainsheet/api.Entity]", by decide, Try.func79.trans (congrArg some (by kernel_rfl))⟩
  f28 := Try.func80.trans (congrArg some (by kernel_rfl))
  f29 := Try.func81.trans (congrArg some (by kernel_rfl))
  f46 := ⟨"slices.siftDownCmpFunc[mainsheet/api.Entity]", by decide, Try.func90.trans (congrArg some (by kernel_rfl))⟩
  f47 := Try.func91.trans (congrArg some (by kernel_rfl))
  f48 := Try.func92.trans (congrArg some (by kernel_rfl))
  f49 := ⟨"slices.medianAdjacentCmpFunc[mainsheet/api.Entity]", by decide, Try.func93.trans (congrArg some (by kernel_rfl))⟩
  f50 := ⟨"slices.medianCmpFunc[mainsheet/api.Entity]", by decide, Try.func94.trans (congrArg some (by kernel_rfl))⟩
  f57 := ⟨"slices.order2CmpFunc[mainsheet/api.Entity]", by decide, Try.func99.trans (congrArg some (by kernel_rfl))⟩
  t0 := Try.underlying0
  a0 := Try.isAgg0
  z0 := Try.sizeOf0
  v0 := Try.zeroValue0
  t3 := Try.underlying3
  a3 := Try.isAgg3
  z3 := Try.sizeOf3
  v3 := Try.zeroValue3
  t4 := Try.underlying4
  a4 := Try.isAgg4
  z4 := Try.sizeOf4
  v4 := Try.zeroValue4
  t5 := Try.underlying5
  a5 := Try.isAgg5
  z5 := Try.sizeOf5
  v5 := Try.zeroValue5
  t9 := Try.underlying9
  a9 := Try.isAgg9
  z9 := Try.sizeOf9
  v9 := Try.zeroValue9
  t22 := Try.underlying34
  a22 := Try.isAgg34
  z22 := Try.sizeOf34
  v22 := Try.zeroValue34
  t25 := Try.underlying82
  a25 := Try.isAgg82
  z25 := Try.sizeOf82
  v25 := Try.zeroValue82
  t39 := Try.underlying57
  a39 := Try.isAgg57
  z39 := Try.sizeOf57
  v39 := Try.zeroValue57
  t45 := Try.underlying116
  a45 := Try.isAgg116
  z45 := Try.sizeOf116
  v45 := Try.zeroValue116
  t46 := Try.underlying117
  a46 := Try.isAgg117
  z46 := Try.sizeOf117
  v46 := Try.zeroValue117
  t50 := Try.underlying63
  a50 := Try.isAgg63
  z50 := Try.sizeOf63
  v50 := Try.zeroValue63
  t53 := Try.underlying123
  a53 := Try.isAgg123
  z53 := Try.sizeOf123
  v53 := Try.zeroValue123
  t55 := Try.underlying41
  a55 := Try.isAgg41
  z55 := Try.sizeOf41
  v55 := Try.zeroValue41
  t66 := Try.underlying128
  a66 := Try.isAgg128
  z66 := Try.sizeOf128
  v66 := Try.zeroValue128
  t70 := Try.underlying132
  a70 := Try.isAgg132
  z70 := Try.sizeOf132
  v70 := Try.zeroValue132
  t76 := Try.underlying142
  a76 := Try.isAgg142
  z76 := Try.sizeOf142
  v76 := Try.zeroValue142
  t77 := Try.underlying143
  a77 := Try.isAgg143
  z77 := Try.sizeOf143
  v77 := Try.zeroValue143
end Go.Proofs.Ytoljahfofkmdaaa

/-! Entities of one's own, and the library's sort of them. -/
namespace Go.Proofs.Ytoljahfofkmdaaa
open Go Go.RowKit Go.Shelf Go.Proofs

section
variable {T : TypeId} {Yi Y Z L : List Ob} {al bl : List IntsA} {x y : IntsA} {w w0 : World}
theorem GotR.consE (h : SlO T Y x.p x.n x.cap x.l) (h2 : GotR T Z al) : GotR T (Y ++ Z) (x :: al) := by
  obtain ⟨Ys, rfl, hl, hs⟩ := h2
  refine ⟨Y :: Ys, rfl, by simp [hl], fun i V v h1 h3 => ?_⟩
  cases i with
  | zero => cases h1; cases h3; exact h
  | succ i => exact hs i V v (by simpa using h1) (by simpa using h3)
theorem GotR.uncons (h : GotR T Yi (x :: al)) : ∃ Y Z, Yi = Y ++ Z ∧ SlO T Y x.p x.n x.cap x.l ∧ GotR T Z al := by
  obtain ⟨Ys, rfl, hl, hs⟩ := h
  cases Ys with
  | nil => simp at hl
  | cons Y Ys => exact ⟨Y, Ys.flatten, rfl, hs 0 Y x rfl rfl, Ys, rfl, by simpa using hl, fun i V v h1 h3 => hs (i + 1) V v (by simpa using h1) (by simpa using h3)⟩
theorem GotR.perm (hp : bl.Perm al) : ∀ {Yi : List Ob}, GotR T Yi bl → ∃ Yj, Yj.Perm Yi ∧ GotR T Yj al := by
  induction hp with
  | nil => exact fun h => ⟨_, .refl _, h⟩
  | cons x _ ih =>
    intro Yi h
    obtain ⟨Y, Z, rfl, h1, h2⟩ := h.uncons
    obtain ⟨Z', hz, h3⟩ := ih h2
    exact ⟨Y ++ Z', hz.append_left Y, h3.consE h1⟩
  | swap x y l =>
    intro Yi h
    obtain ⟨Y, Z, rfl, h1, h2⟩ := h.uncons
    obtain ⟨Y2, Z2, rfl, h3, h4⟩ := h2.uncons
    refine ⟨Y2 ++ (Y ++ Z2), ?_, (h4.consE h1).consE h3⟩
    rw [← List.append_assoc, ← List.append_assoc]
    exact List.perm_append_comm.append_right Z2
  | trans _ _ ih1 ih2 =>
    intro Yi h
    obtain ⟨Z, hz, h1⟩ := ih1 h
    obtain ⟨V, hv, h2⟩ := ih2 h1
    exact ⟨V, hv.trans hz, h2⟩
end
def EnA.row (x : EnA) : IntsA := ⟨x.p, x.n, x.cap, x.l⟩
structure EnA.U (x : EnA) : Prop where
  t : x.t.U
  o0 : 0 ≤ x.ord
  o1 : x.ord < 18446744073709551616
def GotE (T : TypeId) (Yi : List Ob) (el : List EnA) : Prop := GotR T Yi (el.map EnA.row)
section
variable {T : TypeId} {Yi Y Z L : List Ob} {el fl : List EnA} {x y : EnA} {w w0 : World}
theorem GotE.nil : GotE T [] [] := GotR.nil
theorem EnA.Reads.of (h : x.row.Reads w) (hU : x.U) : x.Reads w := ⟨h.sv, h.hn, h.hc, h.hb, hU.t, hU.o0, hU.o1⟩
theorem EnA.Reads.U (h : x.Reads w) : x.U := ⟨h.tU, h.o0, h.o1⟩
theorem GotE.reads (h : GotE T Yi el) (hU : ∀ x ∈ el, x.U) (hw : Hs w0 L w) (hs : List.Sublist Yi L) : ∀ x ∈ el, x.Reads w := fun x hx => .of (GotR.reads h hw hs _ (List.mem_map_of_mem hx)) (hU x hx)
theorem GotE.snoc (h : GotE T Yi el) (hx : SlO T Y y.p y.n y.cap y.l) : GotE T (Yi ++ Y) (el ++ [y]) := by
  unfold GotE
  rw [List.map_append]
  exact GotR.snoc h hx
theorem GotE.perm (hp : el.Perm fl) (h : GotE T Yi el) : ∃ Yj, Yj.Perm Yi ∧ GotE T Yj fl := GotR.perm (hp.map _) h
end
abbrev encSub (el : List EnA) : Enc { x : EnA // x ∈ el } := ⟨fun x => Enc.enc x.1, Enc.k EnA, fun x => Enc.len x.1, fun x v h => Enc.one x.1 v h, Enc.pos (α := EnA)⟩
theorem flat_sub (el : List EnA) : (el.attach.flatMap (encSub el).enc) = el.flatMap Enc.enc := by
  conv => rhs; rw [← List.attach_map_subtype_val el, List.flatMap_map]
  rfl
theorem flat_sub' (el : List EnA) (l : List { x : EnA // x ∈ el }) : (l.flatMap (encSub el).enc) = (l.map Subtype.val).flatMap Enc.enc := by
  rw [List.flatMap_map]
  rfl
theorem swoE (el : List EnA) (hR : ∀ x ∈ el, rightE x.val = true) : Go.Sort.SWO (ltOf fun x y : { x : EnA // x ∈ el } => cmpE x.1.val y.1.val) := by
  have hok : ∀ x : { x : EnA // x ∈ el }, x.1.val.t.ok = true := fun x => (rt_iff.1 (hR x.1 x.2)).2
  have hlt : ∀ x y : { x : EnA // x ∈ el }, ltOf (fun x y : { x : EnA // x ∈ el } => cmpE x.1.val y.1.val) x y = true ↔ AltP x.1.val y.1.val := fun x y => by
    unfold ltOf
    rw [decide_eq_true_eq]
    exact cmpE_neg (hok x) (hok y)
  refine ⟨fun x => ?_, fun x y z h1 h2 => ?_, fun x y z h1 h2 => ?_⟩
  · rw [← Bool.not_eq_true, hlt]; exact alt_irr
  · rw [hlt] at *; exact (alt_all (hok x) (hok y) (hok z)).1 h1 h2
  · rw [← Bool.not_eq_true, hlt] at *; exact (alt_all (hok x) (hok y) (hok z)).2.1 h1 h2
/-- slices.SortFunc of entities of one's own, under order.compare. -/
theorem sortE_own {w0 w : World} {X Y : List Ob} {p : Option Addr} {n cap : Nat} {el : List EnA} (hH : Hs w0 (Y ++ X) w) (hS : SlO 47 Y p n cap el) (hb : n ≤ 1000000) (hR : ∀ x ∈ el, rightE x.val = true) (hN : (el.map fun x => firstM x.val).Nodup)
    (hrd : ∀ (b : Ob) (W : World), Hs w0 (b :: X) W → ∀ x ∈ el, x.Reads W) :
    Calls Try.prog 37 #[.slice p n cap, .func (.func 38) #[] #[]] w fun e w' => e = .returned (.tuple #[]) ∧ ∃ Y' el', el'.Perm el ∧ SortP (el'.map EnA.val) ∧ SlO 47 Y' p n cap el' ∧ Hs w0 (Y' ++ X) w' := by
  by_cases hn : n = 0
  · subst hn
    refine (AnyF.slices_SortFunc_none sortEL p cap _ w).mono ?_
    rintro e w' ⟨rfl, rfl⟩
    have he : el = [] := List.length_eq_zero_iff.1 hS.len.symm
    subst he
    exact ⟨rfl, Y, [], .refl _, List.Pairwise.nil, hS, hH⟩
  · have hl := hS.len
    letI : Inhabited { x : EnA // x ∈ el } := ⟨⟨el[0]'(by omega), List.getElem_mem _⟩⟩
    letI := encSub el
    have hS' : SlO 47 Y p n cap el.attach := by
      rcases hS with ⟨_, _, h, _, _⟩ | ⟨g, cs, h1, h2, h3, h4⟩
      · exact absurd h hn
      · exact .inr ⟨g, cs, h1, h2, by rw [List.length_attach]; exact h3, by show OwnS (Enc.k EnA) (el.attach.flatMap (encSub el).enc) n cap cs; rw [flat_sub]; exact h4⟩
    have hok : ∀ x : { x : EnA // x ∈ el }, x.1.val.t.ok = true := fun x => (rt_iff.1 (hR x.1 x.2)).2
    have hlt : ∀ x y : { x : EnA // x ∈ el }, ltOf (fun x y : { x : EnA // x ∈ el } => cmpE x.1.val y.1.val) x y = true ↔ AltP x.1.val y.1.val := fun x y => by
      unfold ltOf
      rw [decide_eq_true_eq]
      exact cmpE_neg (hok x) (hok y)
    refine (sort_ownR (α := { x : EnA // x ∈ el }) sortEL Try.isAgg47 Try.sizeOf47 (fun x y => cmpE x.1.val y.1.val) (swoE el hR) (fun x y h1 h2 => ?_) 38 #[] (fun args w => Try.call38 args w) hH hS' hb
      (fun b W hW x y => compare_t x.1 y.1 W (hrd b W hW x.1 x.2) (hrd b W hW y.1 y.2) (rt_iff.1 (hR x.1 x.2)).1 (rt_iff.1 (hR y.1 y.2)).1)).mono ?_
    · rw [← Bool.not_eq_true, hlt] at h1 h2
      exact Subtype.ext (nodup_inj hN x.2 y.2 ((alt_all (hok x) (hok y) (hok y)).2.2.2.1 h1 h2).2.2.2)
    · rintro e w' ⟨rfl, Y', hY, hH'⟩
      have hp := List.mergeSort_perm el.attach (fun x y => !(ltOf fun x y : { x : EnA // x ∈ el } => cmpE x.1.val y.1.val) y x)
      have hsw := swoE el hR
      have hs := List.pairwise_mergeSort (le := fun x y => !(ltOf fun x y : { x : EnA // x ∈ el } => cmpE x.1.val y.1.val) y x)
        (fun a b c h1 h2 => by
          simp only [Bool.not_eq_true'] at *
          exact hsw.ntrans c b a h2 h1)
        (fun a b => by
          simp only [Bool.or_eq_true, Bool.not_eq_true']
          rw [← Bool.not_eq_true, ← Bool.not_eq_true, hlt, hlt]
          by_cases h : AltP b.1.val a.1.val
          · exact .inr ((alt_all (hok b) (hok a) (hok a)).2.2.1 h)
          · exact .inl h) el.attach
      generalize el.attach.mergeSort (fun x y => !(ltOf fun x y : { x : EnA // x ∈ el } => cmpE x.1.val y.1.val) y x) = sl at hY hp hs
      refine ⟨rfl, Y', sl.map Subtype.val, ?_, ?_, ?_, hH'⟩
      · have := hp.map Subtype.val
        rwa [List.attach_map_subtype_val] at this
      · unfold SortP
        rw [List.pairwise_map, List.pairwise_map]
        refine hs.imp fun {a b} h => ?_
        simp only [Bool.not_eq_true'] at h
        rw [ahead_not (hR b.1 b.2) (hR a.1 a.2), ← hlt, Bool.not_eq_true]
        exact h
      · rcases hY with ⟨_, _, h, _, _⟩ | ⟨g, cs, h1, h2, h3, h4⟩
        · exact absurd h hn
        · refine .inr ⟨g, cs, h1, h2, by rw [List.length_map]; exact h3, ?_⟩
          have h5 : OwnS (Enc.k EnA) (sl.flatMap (encSub el).enc) n cap cs := h4
          rwa [flat_sub'] at h5
end Go.Proofs.Ytoljahfofkmdaaa

/-! Order: few entities, few members. -/
namespace Go.Proofs.Ytoljahfofkmdaaa
open Go Go.RowKit

set_option maxRecDepth 100000 in
theorem ints_t (p : Option Addr) (n cap : Nat) (l : List Int) (w : World)
 (hsl : Sv w p l) (hn : n = l.length) (hcp : n ≤ cap) (hb : n ≤ 9223372036854775807)
 : Calls Try.prog 31 #[.slice p n cap] w fun e w' => ∃ q' n' c' Y, e = .returned (.slice q' n' c') ∧ SlO 3 Y q' n' c' (l.take 17) ∧ Below w.heap.size w w' ∧ Hs w Y w' := by
 refine enter (Hs.start w) Try.func31 rfl Try.ntmps31 rfl (sq_ (qa0 [] [0] [] (ds_ (sq_ (ao_ (mo 6 [(5, .sl (.slice p (min n 17) cap))] [] (fun γ2 => [(3, .slice (some ⟨γ2 0, 0, none⟩) 0 0), (8, .slice p (min n 17) cap)]) (fun γ2 L => bx (γ2 0) (#[]) 3 :: L) (fun γ2 => [SlRun Try.prog 40 (.slice p n cap) none (some (.int .i64 (if (17 : Int) < ((n : Nat) : Int) then 17 else (n : Nat)))) none (.slice p (min n 17) cap)]) (fun γ2 => (al1 (by rw [min_if17]; exact slE_hi (P := Try.prog) (h := (min n 17)) (T := 40) (e := 3) (k := 1) (by_ := 8) (by kernel_rfl) (by omega)))) (fun γ2 => ops_append (α := Int) [] ([bx (γ2 0) (#[]) 3]) ([]) (mvE rfl) rfl (by kernel_rfl) (by kernel_rfl) (p := (some ⟨γ2 0, 0, none⟩)) (n := 0) (cap := 0) (m := (min n 17)) (yv := .slice p (min n 17) cap) (by kernel_rfl) (by kernel_rfl) (T := 3) (by_ := 8) (by kernel_rfl) ([]) (l.take (min n 17)) (SlO.lit (by rfl) (by rfl) (by simp [maxLen])) (fun w hw => src_svn Try.underlying40 ((hsl.kept hw.below).take (min n 17)) (by rw [List.length_take]; omega)) (by rw [List.length_take]; omega) (by have hmx : maxLen = 9223372036854775807 := rfl; omega) (by have hmx : maxLen = 9223372036854775807 := rfl; omega) (fun Y3 p3 cap3 hO3 => qo0 1 [] [] [(2, .slice p3 (0 + (min n 17)) cap3)] (on_ (ds_ (rt ([]) (.slice p3 (0 + (min n 17)) cap3) ?_)))))))))))
 exact fun w' hw => ⟨_, _, _, _, rfl, SlO.asE hO3 (by rw [List.nil_append, take_min hn]), hw.below, one_tail14 (Hs.pick [Y3] [0] [] (by kernel_rfl) hw)⟩

end Go.Proofs.Ytoljahfofkmdaaa
