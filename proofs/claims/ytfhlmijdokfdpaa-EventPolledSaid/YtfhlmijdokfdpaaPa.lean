/- Ports: what they are, and the plain laws on them: no program in sight. -/
import Derived.Test.YtfhlmijdokfdpaaPg
namespace Go.Proofs.Ytfhlmijdokfdpaa
open Go Go.RowKit


/-- A port. -/
structure Port where
  num : Int
  vcpu : Int
  peer : Int
  pending : Bool
  masked : Bool
deriving DecidableEq
def Port.enc (x : Port) : List Value := [.int .i64 x.num, .int .i64 x.vcpu, .int .i64 x.peer, .bool x.pending, .bool x.masked]
abbrev Port.val (x : Port) : Value := .agg #[.int .i64 x.num, .int .i64 x.vcpu, .int .i64 x.peer, .bool x.pending, .bool x.masked]
/-- May this be a virtual CPU's number? -/
def vcpuB (n : Int) : Bool := decide (1 ≤ n) && decide (n ≤ 16)
theorem Port.len (x : Port) : x.enc.length = 5 := rfl
/-- Ascending numbers. -/
def Asc (l : List Port) : Prop := ∀ (i j : Nat) (x y : Port), i < j → l[i]? = some x → l[j]? = some y → x.num < y.num
def posB (l : List Port) (k : Int) : Nat := (l.takeWhile fun x => decide (x.num < k)).length
def hasB (l : List Port) (k : Int) : Bool := l.any fun x => decide (x.num = k)
def BsI (l : List Port) (k : Int) (lo hi : Nat) : Prop := (∀ (t : Nat) (x : Port), t < lo → l[t]? = some x → x.num < k) ∧ (∀ (t : Nat) (x : Port), hi ≤ t → l[t]? = some x → k ≤ x.num)
section
variable {l : List Port} {k : Int} {lo hi m n : Nat} {x : Port}
theorem bs_start (hn : l.length = n) : BsI l k 0 n := ⟨fun t x h => by omega, fun t x h e => by rw [List.getElem?_eq_none (by omega)] at e; cases e⟩
theorem bs_low (h : BsI l k lo hi) (ha : Asc l) (hx : l[m]? = some x) (hk : x.num < k) : BsI l k (m + 1) hi :=
  ⟨fun t y ht e => by
    by_cases htm : t = m
    · subst htm; rw [hx] at e; cases e; exact hk
    · have := ha t m y x (by omega) e hx; omega, h.2⟩
theorem bs_high (h : BsI l k lo hi) (ha : Asc l) (hx : l[m]? = some x) (hk : k ≤ x.num) : BsI l k lo m :=
  ⟨h.1, fun t y ht e => by
    by_cases htm : t = m
    · subst htm; rw [hx] at e; cases e; exact hk
    · have := ha m t x y (by omega) hx e; omega⟩
theorem take_len {p : Port → Bool} : ∀ (l : List Port) (i : Nat), i ≤ l.length → (∀ t x, t < i → l[t]? = some x → p x = true) → (∀ x, l[i]? = some x → p x = false) → (l.takeWhile p).length = i
  | [], i, h, _, _ => by simp at h; simp [h]
  | a :: l, 0, _, _, h2 => by rw [List.takeWhile_cons, h2 a rfl]; rfl
  | a :: l, i + 1, h, h1, h2 => by
    rw [List.takeWhile_cons, h1 0 a (Nat.succ_pos _) rfl]
    simp only [if_true, List.length_cons]
    rw [take_len l i (by simpa using h) (fun t x ht e => h1 (t + 1) x (by omega) (by simpa using e)) (fun x e => h2 x (by simpa using e))]
theorem bs_end (h : BsI l k hi hi) (hl : hi ≤ l.length) : posB l k = hi :=
  take_len l hi hl (fun t x ht e => decide_eq_true (h.1 t x ht e)) (fun x e => decide_eq_false (by have := h.2 hi x (Nat.le_refl _) e; omega))
theorem bs_found (hx : l[m]? = some x) (hk : x.num = k) : true = hasB l k := by
  unfold hasB
  exact (List.any_eq_true.2 ⟨x, List.mem_of_getElem? hx, decide_eq_true hk⟩).symm
theorem bs_none (h : BsI l k hi hi) (hl : l.length ≤ hi) : false = hasB l k := by
  unfold hasB
  refine (List.any_eq_false.2 fun y hy => ?_).symm
  obtain ⟨t, ht⟩ := List.mem_iff_getElem?.1 hy
  have := h.1 t y (by have := (List.getElem?_eq_some_iff.1 ht).1; omega) ht
  simp; omega
theorem bs_other (h : BsI l k hi hi) (ha : Asc l) (hx : l[hi]? = some x) (hk : ¬ x.num = k) : false = hasB l k := by
  unfold hasB
  refine (List.any_eq_false.2 fun y hy => ?_).symm
  obtain ⟨t, ht⟩ := List.mem_iff_getElem?.1 hy
  have hge := h.2 hi x (Nat.le_refl _) hx
  by_cases h1 : t < hi
  · have := h.1 t y h1 ht; simp; omega
  · by_cases h2 : t = hi
    · subst h2; rw [hx] at ht; cases ht; simpa using hk
    · have := ha hi t x y (by omega) hx ht; simp; omega
end



def risB : Int → List Port → Bool
  | _, [] => true
  | last, x :: l => decide (last < x.num) && decide (x.num ≤ 32) && vcpuB x.vcpu && risB x.num l
def getB (l : List Port) (k : Int) : Option Port := l.find? fun x => decide (x.num = k)
def linkB (l : List Port) (x : Port) : Bool := decide (x.peer = 0) || match getB l x.peer with | none => false | some y => decide (y.peer = x.num) && !decide (y.num = x.num)
/-- May ports be? -/
def rightB (l : List Port) : Bool := risB 0 l && l.all (linkB l)
section
variable {l : List Port} {k n : Nat} {last j : Int} {x y : Port}
theorem drop_cons {α : Type} {l : List α} {k : Nat} {x : α} (h : l[k]? = some x) : l.drop k = x :: l.drop (k + 1) := by
  obtain ⟨hk, rfl⟩ := List.getElem?_eq_some_iff.1 h
  exact List.drop_eq_getElem_cons hk
theorem ris_bad (h : risB last (l.drop k) = risB 0 l) (hx : l[k]? = some x) (hb : (decide (last < x.num) && decide (x.num ≤ 32) && vcpuB x.vcpu) = false) : rightB l = false := by
  rw [drop_cons hx, risB, hb] at h
  unfold rightB
  rw [← h]; rfl
theorem ris_on (h : risB last (l.drop k) = risB 0 l) (hx : l[k]? = some x) (hb : (decide (last < x.num) && decide (x.num ≤ 32) && vcpuB x.vcpu) = true) : risB x.num (l.drop (k + 1)) = risB 0 l := by
  rw [drop_cons hx, risB, hb] at h
  rw [← h]; rfl
theorem ris_t (h1 : last < x.num) (h2 : x.num ≤ 32) (h3 : vcpuB x.vcpu = true) : (decide (last < x.num) && decide (x.num ≤ 32) && vcpuB x.vcpu) = true := by simp [h1, h2, h3]
theorem ris_f (h : ¬ (last < x.num ∧ x.num ≤ 32 ∧ vcpuB x.vcpu = true)) : (decide (last < x.num) && decide (x.num ≤ 32) && vcpuB x.vcpu) = false := by
  cases hb : (decide (last < x.num) && decide (x.num ≤ 32) && vcpuB x.vcpu) with
  | false => rfl
  | true => simp only [Bool.and_eq_true, decide_eq_true_eq] at hb; exact absurd ⟨hb.1.1, hb.1.2, hb.2⟩ h
theorem ris_end (h : risB last (l.drop k) = risB 0 l) (hn : l.length = k) : risB 0 l = true := by
  rw [← h, ← hn, List.drop_length]; rfl
theorem link_bad (h : (l.drop k).all (linkB l) = l.all (linkB l)) (hx : l[k]? = some x) (hb : linkB l x = false) : rightB l = false := by
  rw [drop_cons hx, List.all_cons, hb] at h
  unfold rightB
  rw [← h, Bool.false_and, Bool.and_false]
theorem link_on (h : (l.drop k).all (linkB l) = l.all (linkB l)) (hx : l[k]? = some x) (hb : linkB l x = true) : (l.drop (k + 1)).all (linkB l) = l.all (linkB l) := by
  rw [drop_cons hx, List.all_cons, hb] at h
  rw [← h, Bool.true_and]
theorem right_end (h : (l.drop k).all (linkB l) = l.all (linkB l)) (hn : l.length = k) (hr : risB 0 l = true) : rightB l = true := by
  unfold rightB
  rw [← h, ← hn, List.drop_length, hr]; rfl
theorem ris_mem : ∀ (l : List Port) (last : Int), risB last l = true → ∀ x ∈ l, last < x.num ∧ x.num ≤ 32 ∧ vcpuB x.vcpu = true
  | [], _, _, x, hx => by cases hx
  | a :: l, last, h, x, hx => by
    rw [risB] at h
    simp only [Bool.and_eq_true, decide_eq_true_eq] at h
    rcases List.mem_cons.1 hx with rfl | hx
    · exact ⟨h.1.1.1, h.1.1.2, h.1.2⟩
    · have := ris_mem l a.num h.2 x hx
      exact ⟨by omega, this.2⟩
theorem ris_asc : ∀ (l : List Port) (last : Int), risB last l = true → Asc l
  | [], _, _ => fun i j x y _ h => by simp at h
  | a :: l, last, h => fun i j x y hij hi hj => by
    rw [risB] at h
    simp only [Bool.and_eq_true, decide_eq_true_eq] at h
    match i, j, hij with
    | 0, j + 1, _ =>
      simp at hi; subst hi
      exact (ris_mem l a.num h.2 y (List.mem_of_getElem? (by simpa using hj))).1
    | i + 1, j + 1, hij => exact ris_asc l a.num h.2 i j x y (by omega) (by simpa using hi) (by simpa using hj)
theorem ris_all (h : risB 0 l = true) : ∀ x ∈ l, 1 ≤ x.num ∧ x.num ≤ 32 := fun x hx => by
  have := ris_mem l 0 h x hx
  exact ⟨by omega, this.2.1⟩
theorem get_none (h : getB l j = none) : hasB l j = false := by
  unfold getB at h
  unfold hasB
  refine List.any_eq_false.2 fun x hx => ?_
  simpa using List.find?_eq_none.1 h x hx
theorem get_yes (h : getB l j = some y) : y ∈ l ∧ y.num = j ∧ hasB l j = true := by
  unfold getB at h
  have h1 := List.mem_of_find?_eq_some h
  have h2 : y.num = j := by simpa using List.find?_some h
  exact ⟨h1, h2, List.any_eq_true.2 ⟨y, h1, decide_eq_true h2⟩⟩
theorem get_pos (ha : Asc l) (h : getB l j = some y) : l[posB l j]? = some y ∧ posB l j < l.length := by
  obtain ⟨hm, hj, _⟩ := get_yes h
  obtain ⟨i, hi⟩ := List.mem_iff_getElem?.1 hm
  have hl := (List.getElem?_eq_some_iff.1 hi).1
  have : posB l j = i := take_len l i (by omega) (fun t x ht e => decide_eq_true (by have := ha t i x y ht e hi; omega)) (fun x e => decide_eq_false (by rw [hi] at e; cases e; omega))
  rw [this]
  exact ⟨hi, hl⟩
theorem link_none (h0 : ¬ x.peer = 0) (h : getB l x.peer = none) : linkB l x = false := by
  unfold linkB
  rw [h, decide_eq_false h0]; rfl
theorem link_some (h0 : ¬ x.peer = 0) (h : getB l x.peer = some y) : linkB l x = (decide (y.peer = x.num) && !decide (y.num = x.num)) := by
  unfold linkB
  rw [h, decide_eq_false h0]; rfl
theorem link_zero (h0 : x.peer = 0) : linkB l x = true := by
  unfold linkB
  rw [decide_eq_true h0]; rfl
end



/-- Where the first of a number stands; -1: nowhere. -/
def findI (l : List Port) (k : Int) : Int := if hasB l k then ((l.findIdx fun x => decide (x.num = k)) : Nat) else -1
section
variable {l : List Port} {k : Int} {j n : Nat} {x : Port}
theorem find_hit (h : ∀ t y, t < j → l[t]? = some y → ¬ y.num = k) (hx : l[j]? = some x) (hk : x.num = k) : (j : Int) = findI l k := by
  have hh : hasB l k = true := List.any_eq_true.2 ⟨x, List.mem_of_getElem? hx, decide_eq_true hk⟩
  have hj : j < l.length := (List.getElem?_eq_some_iff.1 hx).1
  have hi : (l.findIdx fun x => decide (x.num = k)) = j := by
    rw [List.findIdx_eq hj]
    refine ⟨?_, fun t ht => ?_⟩
    · have : l[j] = x := (List.getElem?_eq_some_iff.1 hx).2
      rw [this]; exact decide_eq_true hk
    · exact decide_eq_false (h t _ ht (List.getElem?_eq_getElem (by omega)))
  unfold findI
  rw [hh, hi]; rfl
theorem find_miss (h : ∀ t y, t < j → l[t]? = some y → ¬ y.num = k) (hn : l.length = j) : (-1 : Int) = findI l k := by
  have hh : hasB l k = false := List.any_eq_false.2 fun y hy => by
    obtain ⟨t, ht⟩ := List.mem_iff_getElem?.1 hy
    have := h t y (by have := (List.getElem?_eq_some_iff.1 ht).1; omega) ht
    simpa using this
  unfold findI
  rw [hh]; rfl
/-- May the port at t be, among the others? -/
def OkAt (l : List Port) (t : Nat) (x : Port) : Prop := 1 ≤ x.num ∧ x.num ≤ 32 ∧ (∀ y, 0 < t → l[t - 1]? = some y → y.num < x.num) ∧ vcpuB x.vcpu = true ∧ (x.peer = 0 ∨ ∃ y, getB l x.peer = some y ∧ findI l x.peer ≠ t ∧ y.peer = x.num)
theorem find_none (h : getB l k = none) : findI l k = -1 := by
  unfold findI
  rw [get_none h]; rfl
theorem find_some {y : Port} (h : getB l k = some y) : ∃ j : Nat, findI l k = j ∧ l[j]? = some y ∧ ∀ t z, t < j → l[t]? = some z → ¬ z.num = k := by
  obtain ⟨_, hk, hh⟩ := get_yes h
  refine ⟨l.findIdx fun x => decide (x.num = k), by unfold findI; rw [hh]; rfl, ?_, fun t z ht hz e => ?_⟩
  · unfold getB at h
    rw [List.find?_eq_some_iff_getElem] at h
    obtain ⟨_, i, hi, he, hb⟩ := h
    have : (l.findIdx fun x => decide (x.num = k)) = i := by
      rw [List.findIdx_eq hi]
      exact ⟨by rw [he]; exact decide_eq_true hk, fun t ht => by simpa using hb t ht⟩
    rw [this, List.getElem?_eq_getElem hi, he]
  · have := List.not_of_lt_findIdx ht
    have hlt := (List.getElem?_eq_some_iff.1 hz)
    obtain ⟨h1, h2⟩ := hlt
    rw [h2] at this
    simp [e] at this
theorem ris_of : ∀ (l : List Port) (last : Int), (∀ (t : Nat) (x : Port), l[t]? = some x → (t = 0 → last < x.num) ∧ (∀ y, 0 < t → l[t - 1]? = some y → y.num < x.num) ∧ x.num ≤ 32 ∧ vcpuB x.vcpu = true) → risB last l = true
  | [], _, _ => rfl
  | a :: l, last, h => by
    have h0 := h 0 a rfl
    rw [risB, ris_t (h0.1 rfl) h0.2.2.1 h0.2.2.2, Bool.true_and]
    refine ris_of l a.num fun t x hx => ?_
    have h1 := h (t + 1) x (by simpa using hx)
    refine ⟨fun e => h1.2.1 a (Nat.succ_pos _) (by subst e; rfl), fun y ht hy => h1.2.1 y (Nat.succ_pos _) ?_, h1.2.2⟩
    obtain ⟨s, rfl⟩ : ∃ s, t = s + 1 := ⟨t - 1, by omega⟩
    simpa using hy
theorem right_ok (h : rightB l = true) (hx : l[j]? = some x) : OkAt l j x := by
  unfold rightB at h
  rw [Bool.and_eq_true, List.all_eq_true] at h
  obtain ⟨h1, h2⟩ := h
  have hm := List.mem_of_getElem? hx
  have a1 := ris_mem l 0 h1 x hm
  have ha := ris_asc l 0 h1
  refine ⟨by omega, a1.2.1, fun y ht hy => ha (j - 1) j y x (by omega) hy hx, a1.2.2, ?_⟩
  by_cases h0 : x.peer = 0
  · exact .inl h0
  · right
    have hl := h2 x hm
    cases hg : getB l x.peer with
    | none => rw [link_none h0 hg] at hl; cases hl
    | some y =>
      rw [link_some h0 hg] at hl
      simp only [Bool.and_eq_true, decide_eq_true_eq, Bool.not_eq_true', decide_eq_false_iff_not] at hl
      refine ⟨y, rfl, fun e => ?_, hl.1⟩
      obtain ⟨i, hi, hy, _⟩ := find_some hg
      rw [hi] at e
      obtain rfl : i = j := by omega
      rw [hx] at hy; cases hy
      exact hl.2 rfl
theorem right_bad (hx : l[j]? = some x) (h : ¬ OkAt l j x) : rightB l = false := by
  cases hr : rightB l with
  | false => rfl
  | true => exact absurd (right_ok hr hx) h
theorem right_good (h : ∀ (t : Nat) (x : Port), l[t]? = some x → OkAt l t x) : rightB l = true := by
  have hr : risB 0 l = true := ris_of l 0 fun t x hx => by
    obtain ⟨h1, h2, h3, h4, _⟩ := h t x hx
    exact ⟨fun _ => by omega, h3, h2, h4⟩
  have ha := ris_asc l 0 hr
  unfold rightB
  rw [hr, Bool.true_and, List.all_eq_true]
  intro x hm
  obtain ⟨t, hx⟩ := List.mem_iff_getElem?.1 hm
  obtain ⟨_, _, _, _, h5⟩ := h t x hx
  rcases h5 with h0 | ⟨y, hg, hne, hp⟩
  · exact link_zero h0
  · by_cases h0 : x.peer = 0
    · exact link_zero h0
    · rw [link_some h0 hg]
      simp only [Bool.and_eq_true, decide_eq_true_eq, Bool.not_eq_true', decide_eq_false_iff_not]
      refine ⟨hp, fun e => hne ?_⟩
      obtain ⟨_, hk, _⟩ := get_yes hg
      exact (find_hit (fun s z hs hz e2 => by have := ha s t z x hs hz hx; omega) hx (by omega)).symm
end


/-- What event.port hands back. -/
def portV (p : Option Addr) (l : List Port) (k : Int) : Value := if hasB l k = true then .pointer (p.map fun a => ⟨a.block, a.off + posB l k * 5, none⟩) else .pointer none
theorem portV_out {p : Option Addr} {l : List Port} {k : Int} (hall : ∀ x ∈ l, 1 ≤ x.num ∧ x.num ≤ 32) (h : ¬ (1 ≤ k ∧ k ≤ 32)) : portV p l k = .pointer none := by
  have : hasB l k = false := List.any_eq_false.2 fun x hx => by
    have := hall x hx
    simp; omega
  simp [portV, this]
theorem pos_lt {l : List Port} {k : Int} (ha : Asc l) (h : hasB l k = true) : posB l k < l.length := by
  obtain ⟨x, hx, _⟩ := posk_at (f := Port.num) ha h
  exact (List.getElem?_eq_some_iff.1 hx).1
theorem portV_none {p : Option Addr} {l : List Port} {k : Int} (h : getB l k = none) : portV p l k = .pointer none := by simp [portV, get_none h]
theorem portV_some {b o : Nat} {l : List Port} {k : Int} {y : Port} (h : getB l k = some y) : portV (some ⟨b, o, none⟩) l k = .pointer (some ⟨b, o + posB l k * 5, none⟩) := by
  obtain ⟨_, _, hh⟩ := get_yes h
  simp [portV, hh]

/-- A port, if there is one. -/
def optV : Option Port → Value
  | some x => .tuple #[x.val, .bool true]
  | none => .tuple #[.agg #[.int .i64 0, .int .i64 0, .int .i64 0, .bool false, .bool false], .bool false]

theorem right_ris {l : List Port} (h : rightB l = true) : risB 0 l = true := by
  unfold rightB at h
  simp only [Bool.and_eq_true] at h
  exact h.1
def eGet (l : List Port) (k : Int) : Option Port := if rightB l = true then getB l k else none
/-- A poll, number by number. -/
def pollGo (l : List Port) (own : Int) : List Int → Bool → Int → Bool × Int
  | [], pd, e => (pd && decide (e = 0), e)
  | n :: ns, pd, e => match getB l n with
    | none => (false, 4)
    | some x => pollGo l own ns (pd || x.pending) (if x.vcpu = own then e else 2)
def pollV (l : List Port) (own : Int) (ns : List Int) : Bool × Int :=
  if rightB l = true then if vcpuB own = true ∧ 1 ≤ ns.length ∧ ns.length ≤ 32 then pollGo l own ns false 0 else (false, 2) else (false, 260)
theorem pollV_of {l : List Port} {own : Int} {ns : List Int} (h : rightB l = true) (h1 : vcpuB own = true) (h2 : 1 ≤ ns.length) (h3 : ns.length ≤ 32) : pollV l own ns = pollGo l own ns false 0 := by
  unfold pollV
  rw [if_pos h, if_pos ⟨h1, h2, h3⟩]
theorem pollV_no {l : List Port} {own : Int} {ns : List Int} (h : rightB l = true) (h1 : ¬ (vcpuB own = true ∧ 1 ≤ ns.length ∧ ns.length ≤ 32)) : pollV l own ns = (false, 2) := by
  unfold pollV
  rw [if_pos h, if_neg h1]

def rpollGo (l : List Port) (own : Int) : List Int → Bool → Bool → Bool × Int
  | [], pd, ow => if ow = true then (pd, 0) else (false, 2)
  | n :: ns, pd, ow => match getB l n with
    | none => (false, 4)
    | some x => rpollGo l own ns (pd || x.pending) (ow && decide (x.vcpu = own))
def rpollV (l : List Port) (own : Int) (ns : List Int) : Bool × Int := if vcpuB own = true ∧ 1 ≤ ns.length ∧ ns.length ≤ 32 then rpollGo l own ns false true else (false, 2)
theorem rpollV_of {l : List Port} {own : Int} {ns : List Int} (h1 : vcpuB own = true) (h2 : 1 ≤ ns.length) (h3 : ns.length ≤ 32) : rpollV l own ns = rpollGo l own ns false true := by
  unfold rpollV
  rw [if_pos ⟨h1, h2, h3⟩]
theorem rpollV_no {l : List Port} {own : Int} {ns : List Int} (h1 : ¬ (vcpuB own = true ∧ 1 ≤ ns.length ∧ ns.length ≤ 32)) : rpollV l own ns = (false, 2) := by
  unfold rpollV
  rw [if_neg h1]
/-- The two polls are one. -/
theorem poll_same (l : List Port) (own : Int) : ∀ (ns : List Int) (pd ow : Bool), rpollGo l own ns pd ow = pollGo l own ns pd (if ow = true then 0 else 2)
  | [], pd, ow => by cases ow <;> simp [rpollGo, pollGo]
  | n :: ns, pd, ow => by
    simp only [rpollGo, pollGo]
    cases getB l n with
    | none => rfl
    | some x =>
      simp only
      rw [poll_same l own ns]
      cases ow <;> by_cases h : x.vcpu = own <;> simp [h]
theorem poll_eq {l : List Port} {own : Int} {ns : List Int} (h : rightB l = true) : rpollV l own ns = pollV l own ns := by
  unfold rpollV pollV
  rw [if_pos h]
  split
  · exact poll_same l own ns false true
  · rfl
section
variable {α : Type} {l l2 : List α} {j : Nat} {x y : α}
theorem same_on (h : l.take j = l2.take j) (hx : l[j]? = some x) (hy : l2[j]? = some y) (e : x = y) : l.take (j + 1) = l2.take (j + 1) := by
  rw [List.take_add_one, List.take_add_one, h, hx, hy, e]
theorem same_no [DecidableEq α] (hx : l[j]? = some x) (hy : l2[j]? = some y) (e : ¬ x = y) : false = decide (l = l2) := by
  refine (decide_eq_false fun h => e ?_).symm
  rw [h, hy] at hx
  exact (Option.some.inj hx).symm
theorem same_yes [DecidableEq α] (h : l.take j = l2.take j) (h1 : l.length ≤ j) (h2 : l2.length ≤ j) : true = decide (l = l2) := by
  rw [List.take_of_length_le h1, List.take_of_length_le h2] at h
  exact (decide_eq_true h).symm
theorem same_len [DecidableEq α] (h : ¬ l.length = l2.length) : false = decide (l = l2) := (decide_eq_false fun e => h (by rw [e])).symm
end

instance : Enc Port := ⟨Port.enc, 5, fun _ => rfl, fun x v h => by simp [Port.enc] at h; rcases h with rfl | rfl | rfl | rfl | rfl <;> rfl, by decide⟩
end Go.Proofs.Ytfhlmijdokfdpaa
