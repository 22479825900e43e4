/- Plain laws: rows by rising numbers, and the search in them. No program in sight. -/
import Derived.Test.YtfhlmijdokfdpaaEd
namespace Go.Proofs.Ytfhlmijdokfdpaa
open Go Go.RowKit

theorem get_some {α : Type} {l : List α} {m : Nat} (h : m < l.length) : ∃ x, l[m]? = some x := ⟨l[m], List.getElem?_eq_getElem h⟩
theorem half (a b : Nat) : Value.int .u64 (Int.fdiv ((a : Int) + (b : Int)) (2 ^ 1)) = .int .u64 (((a + b) / 2 : Nat) : Int) := by
  congr 1
  rw [Int.fdiv_eq_ediv_of_nonneg _ (by decide)]
  omega

section
variable {α : Type} (f : α → Int)
/-- Rising numbers. -/
def AscK (l : List α) : Prop := ∀ (i j : Nat) (x y : α), i < j → l[i]? = some x → l[j]? = some y → f x < f y
def posK (l : List α) (k : Int) : Nat := (l.takeWhile fun x => decide (f x < k)).length
def hasK (l : List α) (k : Int) : Bool := l.any fun x => decide (f x = k)
def BsK (l : List α) (k : Int) (lo hi : Nat) : Prop := (∀ (t : Nat) (x : α), t < lo → l[t]? = some x → f x < k) ∧ (∀ (t : Nat) (x : α), hi ≤ t → l[t]? = some x → k ≤ f x)
variable {f} {l : List α} {k : Int} {lo hi m n : Nat} {x : α}
theorem bsk_start : BsK f l k 0 l.length := ⟨fun t x h => by omega, fun t x h e => by rw [List.getElem?_eq_none (by omega)] at e; cases e⟩
theorem bsk_low (h : BsK f l k lo hi) (ha : AscK f l) (hx : l[m]? = some x) (hk : f x < k) : BsK f l k (m + 1) hi :=
  ⟨fun t y ht e => by
    by_cases htm : t = m
    · subst htm; rw [hx] at e; cases e; exact hk
    · have := ha t m y x (by omega) e hx; omega, h.2⟩
theorem bsk_high (h : BsK f l k lo hi) (ha : AscK f l) (hx : l[m]? = some x) (hk : ¬ f x < k) : BsK f l k lo m :=
  ⟨h.1, fun t y ht e => by
    by_cases htm : t = m
    · subst htm; rw [hx] at e; cases e; omega
    · have := ha m t x y (by omega) hx e; omega⟩
theorem take_lenK {p : α → Bool} : ∀ (l : List α) (i : Nat), i ≤ l.length → (∀ t x, t < i → l[t]? = some x → p x = true) → (∀ x, l[i]? = some x → p x = false) → (l.takeWhile p).length = i
  | [], i, h, _, _ => by simp at h; simp [h]
  | a :: l, 0, _, _, h2 => by rw [List.takeWhile_cons, h2 a rfl]; rfl
  | a :: l, i + 1, h, h1, h2 => by
    rw [List.takeWhile_cons, h1 0 a (Nat.succ_pos _) rfl]
    simp only [if_true, List.length_cons]
    rw [take_lenK l i (by simpa using h) (fun t x ht e => h1 (t + 1) x (by omega) (by simpa using e)) (fun x e => h2 x (by simpa using e))]
theorem bsk_end (h : BsK f l k lo hi) (hh : ¬ lo < hi) (h1 : lo ≤ hi) (hl : hi ≤ l.length) : posK f l k = lo := by
  obtain rfl : lo = hi := by omega
  exact take_lenK l lo hl (fun t x ht e => decide_eq_true (h.1 t x ht e)) (fun x e => decide_eq_false (by have := h.2 lo x (Nat.le_refl _) e; omega))
theorem hask_found (hx : l[m]? = some x) (hk : f x = k) : hasK f l k = true := List.any_eq_true.2 ⟨x, List.mem_of_getElem? hx, decide_eq_true hk⟩
theorem hask_none (h : BsK f l k lo hi) (hh : ¬ lo < hi) (h1 : lo ≤ hi) (hl : ¬ lo < l.length) : hasK f l k = false := by
  unfold hasK
  refine List.any_eq_false.2 fun y hy => ?_
  obtain ⟨t, ht⟩ := List.mem_iff_getElem?.1 hy
  have := h.1 t y (by have := (List.getElem?_eq_some_iff.1 ht).1; omega) ht
  simp; omega
theorem hask_other (h : BsK f l k lo hi) (hh : ¬ lo < hi) (h1 : lo ≤ hi) (ha : AscK f l) (hx : l[lo]? = some x) (hk : ¬ f x = k) : hasK f l k = false := by
  obtain rfl : lo = hi := by omega
  unfold hasK
  refine List.any_eq_false.2 fun y hy => ?_
  obtain ⟨t, ht⟩ := List.mem_iff_getElem?.1 hy
  have hge := h.2 lo x (Nat.le_refl _) hx
  by_cases h1 : t < lo
  · have := h.1 t y h1 ht; simp; omega
  · by_cases h2 : t = lo
    · subst h2; rw [hx] at ht; cases ht; simpa using hk
    · have := ha lo t x y (by omega) hx ht; simp; omega
theorem posk_le : posK f l k ≤ l.length := List.IsPrefix.length_le (List.takeWhile_prefix _)
/-- Of a number that is there, the place holds it. -/
theorem posk_at (ha : AscK f l) (h : hasK f l k = true) : ∃ x, l[posK f l k]? = some x ∧ f x = k := by
  obtain ⟨x, hx, hk⟩ := List.any_eq_true.1 h
  have hk : f x = k := of_decide_eq_true hk
  obtain ⟨t, ht⟩ := List.mem_iff_getElem?.1 hx
  have : posK f l k = t := take_lenK l t (by have := (List.getElem?_eq_some_iff.1 ht).1; omega) (fun s y hs hy => decide_eq_true (by have := ha s t y x hs hy ht; omega)) (fun y hy => by rw [ht] at hy; cases hy; exact decide_eq_false (by omega))
  exact ⟨x, by rw [this]; exact ht, hk⟩
end
section
variable {l : List Int} {k x : Int} {j : Nat}
/-- The first place of a number; -1: nowhere. -/
def idxI (l : List Int) (k : Int) : Int := if k ∈ l then ((l.findIdx fun x => decide (x = k)) : Nat) else -1
theorem idx_hit (h : ∀ (t : Nat) (y : Int), t < j → l[t]? = some y → ¬ y = k) (hx : l[j]? = some x) (hk : k = x) : (j : Int) = idxI l k := by
  subst hk
  have hj : j < l.length := (List.getElem?_eq_some_iff.1 hx).1
  have hi : (l.findIdx fun x => decide (x = k)) = j := by
    rw [List.findIdx_eq hj]
    refine ⟨?_, fun t ht => ?_⟩
    · have : l[j] = k := (List.getElem?_eq_some_iff.1 hx).2
      rw [this]; exact decide_eq_true rfl
    · exact decide_eq_false (h t _ ht (List.getElem?_eq_getElem (by omega)))
  unfold idxI
  rw [if_pos (List.mem_of_getElem? hx), hi]
theorem idx_miss (h : ∀ (t : Nat) (y : Int), t < j → l[t]? = some y → ¬ y = k) (hn : l.length ≤ j) : (-1 : Int) = idxI l k := by
  unfold idxI
  rw [if_neg fun hm => by
    obtain ⟨t, ht⟩ := List.mem_iff_getElem?.1 hm
    exact h t k (by have := (List.getElem?_eq_some_iff.1 ht).1; omega) ht rfl]
theorem idx_in (h : idxI l k ≥ 0) : true = decide (k ∈ l) := by
  unfold idxI at h
  split at h
  · rename_i hm; exact (decide_eq_true hm).symm
  · omega
theorem idx_out (h : ¬ idxI l k ≥ 0) : false = decide (k ∈ l) := by
  unfold idxI at h
  split at h
  · omega
  · rename_i hm; exact (decide_eq_false hm).symm
end
theorem Sv.none {α : Type} [Enc α] {w : World} {l : List α} (h : Sv w Option.none l) : l = [] := by
  cases l with
  | nil => rfl
  | cons x l =>
    obtain ⟨b, o, e⟩ := h.addr (by simp)
    cases e
end Go.Proofs.Ytfhlmijdokfdpaa
