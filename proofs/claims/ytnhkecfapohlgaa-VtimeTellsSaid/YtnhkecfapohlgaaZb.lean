/- Texts of this proof, one behind the other. -/
import Derived.Test.YtnhkecfapohlgaaZa
import Derived.Test.YtnhkecfapohlgaaProg
import Derived.WalkKit
import Derived.Lib.Hide
import Derived.BigRegion
import Derived.BigQuiet
import Derived.Deep.QuietTactic
import Derived.KernelRfl
import Derived.Deep.WholeRow
import Derived.Laws.CopyOwn
import Derived.WalkSmall
import Derived.ChangeKeysEq
import Derived.StillTailTactics
import Derived.Lib.OthersKept
import Derived.Laws.RangeAny
import Derived.LoopTactic
import Derived.MapKept
import Derived.Laws.MakeOwn
import Derived.Lib.Tables
/-! Rows by rising keys: plain laws. -/
namespace Go.Proofs.Ytnhkecfapohlgaa
open Go Go.RowKit

/-- Keys rise. -/
def Ris {α : Type} (f : α → Int) (l : List α) : Prop := l.Pairwise fun x y => f x < f y
/-- The same, asked pair by pair. -/
def risK {α : Type} (f : α → Int) : List α → Bool
  | [] => true
  | [_] => true
  | x :: y :: l => decide (f x < f y) && risK f (y :: l)
def getK {α : Type} (f : α → Int) (l : List α) (k : Int) : Option α := l.find? fun x => decide (f x = k)
section
variable {α : Type} {f : α → Int} {l l' : List α} {x y z : α} {k : Int} {i j n : Nat}
theorem ris_iffK : ∀ l : List α, risK f l = true ↔ Ris f l
  | [] => by simp [risK, Ris]
  | [x] => by simp [risK, Ris]
  | x :: y :: l => by
    rw [risK, Bool.and_eq_true, decide_eq_true_eq, ris_iffK (y :: l)]
    unfold Ris
    rw [List.pairwise_cons (a := x)]
    constructor
    · rintro ⟨h1, h2⟩
      refine ⟨fun z hz => ?_, h2⟩
      rcases List.mem_cons.1 hz with rfl | hz
      · exact h1
      · have := (List.pairwise_cons.1 h2).1 z hz; omega
    · rintro ⟨h1, h2⟩; exact ⟨h1 y (List.mem_cons_self ..), h2⟩
theorem Ris.at (h : Ris f l) (hij : i < j) (hx : l[i]? = some x) (hy : l[j]? = some y) : f x < f y := by
  obtain ⟨h1, e1⟩ := List.getElem?_eq_some_iff.1 hx
  obtain ⟨h2, e2⟩ := List.getElem?_eq_some_iff.1 hy
  have := List.pairwise_iff_getElem.1 h i j h1 h2 hij
  rwa [e1, e2] at this
theorem Ris.asc (h : Ris f l) : AscK f l := fun _ _ _ _ hij hx hy => h.at hij hx hy
theorem Ris.inj (h : Ris f l) (hx : x ∈ l) (hy : y ∈ l) (e : f x = f y) : x = y := by
  obtain ⟨i, hi⟩ := List.mem_iff_getElem?.1 hx
  obtain ⟨j, hj⟩ := List.mem_iff_getElem?.1 hy
  rcases Nat.lt_trichotomy i j with h1 | h1 | h1
  · have := h.at h1 hi hj; omega
  · subst h1; rw [hi] at hj; exact Option.some.inj hj
  · have := h.at h1 hj hi; omega
theorem getK_iff (h : Ris f l) : getK f l k = some x ↔ x ∈ l ∧ f x = k := by
  constructor
  · intro hg
    exact ⟨List.mem_of_find?_eq_some hg, by simpa using List.find?_some hg⟩
  · rintro ⟨hm, rfl⟩
    unfold getK
    cases hg : l.find? fun y => decide (f y = f x) with
    | none =>
      have := List.find?_eq_none.1 hg x hm
      simp at this
    | some y =>
      have h1 := List.mem_of_find?_eq_some hg
      have h2 : f y = f x := by simpa using List.find?_some hg
      rw [h.inj h1 hm h2]
theorem getK_mem (h : getK f l k = some x) : x ∈ l ∧ f x = k := ⟨List.mem_of_find?_eq_some h, by simpa using List.find?_some h⟩
theorem hasK_get : hasK f l k = (getK f l k).isSome := by
  unfold hasK getK
  rw [Bool.eq_iff_iff, List.any_eq_true, List.find?_isSome]
theorem hasK_none (h : getK f l k = none) : hasK f l k = false := by rw [hasK_get, h]; rfl
theorem hasK_some (h : getK f l k = some x) : hasK f l k = true := by rw [hasK_get, h]; rfl
theorem pos_getK (h : Ris f l) (hg : getK f l k = some x) : l[posK f l k]? = some x := by
  obtain ⟨y, hy, he⟩ := posk_at h.asc (hasK_some hg)
  have := getK_mem hg
  rw [h.inj this.1 (List.mem_of_getElem? hy) (by omega)]; exact hy
/-- Where it would be: all ahead are less, all behind are not. -/
theorem pos_cut (h : Ris f l) : (∀ x ∈ l.take (posK f l k), f x < k) ∧ (∀ x ∈ l.drop (posK f l k), k ≤ f x) ∧ posK f l k ≤ l.length := by
  have hs : ∀ l : List α, Ris f l → (∀ x ∈ l.take (posK f l k), f x < k) ∧ (∀ x ∈ l.drop (posK f l k), k ≤ f x) ∧ posK f l k ≤ l.length := by
    intro l
    induction l with
    | nil => intro _; simp [posK]
    | cons a l ih =>
      intro h
      have hp := List.pairwise_cons.1 h
      by_cases ha : f a < k
      · have e : posK f (a :: l) k = posK f l k + 1 := by unfold posK; rw [List.takeWhile_cons, if_pos (by simpa using ha)]; simp
        obtain ⟨h1, h2, h3⟩ := ih hp.2
        rw [e]
        refine ⟨fun x hx => ?_, fun x hx => ?_, by simp; omega⟩
        · rw [List.take_succ_cons] at hx
          rcases List.mem_cons.1 hx with rfl | hx
          · exact ha
          · exact h1 x hx
        · rw [List.drop_succ_cons] at hx; exact h2 x hx
      · have e : posK f (a :: l) k = 0 := by unfold posK; rw [List.takeWhile_cons, if_neg (by simpa using ha)]; rfl
        rw [e]
        refine ⟨fun x hx => by simp at hx, fun x hx => ?_, Nat.zero_le _⟩
        rw [List.drop_zero] at hx
        rcases List.mem_cons.1 hx with rfl | hx
        · omega
        · have := hp.1 x hx; omega
  exact hs l h
/-- One more, put where it belongs. -/
def insK (f : α → Int) (l : List α) (z : α) : List α := l.take (posK f l (f z)) ++ [z] ++ l.drop (posK f l (f z))
/-- One in the place of another. -/
def putK (f : α → Int) (l : List α) (z : α) : List α := l.set (posK f l (f z)) z
/-- One left out. -/
def delK (f : α → Int) (l : List α) (k : Int) : List α := l.take (posK f l k) ++ l.drop (posK f l k + 1)
theorem Ris.filter (h : Ris f l) (p : α → Bool) : Ris f (l.filter p) := List.Pairwise.filter _ h
/-- Rows whose keys are between bounds are no more than there are keys. -/
theorem risK_len : ∀ (l : List α) (lo hi : Int), Ris f l → (∀ x ∈ l, lo ≤ f x ∧ f x ≤ hi) → lo ≤ hi + 1 → (l.length : Int) ≤ hi - lo + 1
  | [], lo, hi, _, _, h => by simp; omega
  | a :: l, lo, hi, h, hb, hlh => by
    have p := List.pairwise_cons.1 h
    have ha := hb a (List.mem_cons_self ..)
    have := risK_len l (f a + 1) hi p.2 (fun x hx => ⟨by have := p.1 x hx; omega, (hb x (List.mem_cons_of_mem _ hx)).2⟩) (by omega)
    simp only [List.length_cons]; omega
end
end Go.Proofs.Ytnhkecfapohlgaa

/-! Timers: what they are; plain. -/
namespace Go.Proofs.Ytnhkecfapohlgaa
open Go Go.RowKit

structure Tim where
  id : Int
  due : Int
deriving DecidableEq, Inhabited
instance : Enc Tim := ⟨fun x => [.int .i64 x.id, .int .i64 x.due], 2, fun _ => rfl, fun x v h => by simp at h; rcases h with rfl | rfl <;> rfl, by decide⟩
def cmpT (a b : Int) : Int := if a < b then -1 else if a > b then 1 else 0
def idB (k : Int) : Bool := decide (0 ≤ k ∧ k < 32)
def timB (now : Int) (t : Tim) : Bool := decide (0 ≤ t.id ∧ t.id < 32 ∧ now < t.due ∧ t.due ≤ 1125899906842624)
/-- May a wheel be? -/
def wheelB (now : Int) (ts : List Tim) : Bool := decide (0 ≤ now ∧ now ≤ 1125899906842624) && risK Tim.id ts && ts.all (timB now)
structure GoodW (now : Int) (ts : List Tim) : Prop where
  n0 : 0 ≤ now
  n1 : now ≤ 1125899906842624
  rs : Ris Tim.id ts
  tm : ∀ t ∈ ts, 0 ≤ t.id ∧ t.id < 32 ∧ now < t.due ∧ t.due ≤ 1125899906842624
section
variable {now k : Int} {ts : List Tim} {x t : Tim} {j : Nat}
theorem GoodW.len (h : GoodW now ts) : ts.length ≤ 32 := by
  have := risK_len ts 0 31 h.rs (fun t ht => by have := h.tm t ht; omega) (by omega)
  omega
theorem all_onT {α : Type} {l : List α} {x : α} {p : α → Prop} (h : ∀ y ∈ l.take j, p y) (hx : l[j]? = some x) (e : p x) : ∀ y ∈ l.take (j + 1), p y := by
  rw [List.take_add_one, hx]
  intro y hy
  rcases List.mem_append.1 hy with hy | hy
  · exact h y hy
  · simp only [Option.toList_some, List.mem_singleton] at hy; subst hy; exact e
theorem all_take0T {α : Type} {l : List α} {p : α → Prop} : ∀ y ∈ l.take 0, p y := by simp
theorem ris_take0T {α : Type} {f : α → Int} {l : List α} : Ris f (l.take 0) := by rw [List.take_zero]; exact List.Pairwise.nil
theorem ris_take_onT {α : Type} {f : α → Int} {l : List α} {x : α} (h : Ris f (l.take j)) (hx : l[j]? = some x) (hp : j = 0 ∨ ∃ y, l[j - 1]? = some y ∧ f y < f x) : Ris f (l.take (j + 1)) := by
  rw [List.take_add_one, hx]
  refine List.pairwise_append.2 ⟨h, by simp, fun a ha b hb => ?_⟩
  simp only [Option.toList_some, List.mem_singleton] at hb
  subst hb
  obtain ⟨i, hi⟩ := List.mem_iff_getElem?.1 ha
  have hij : i < j := by
    have := (List.getElem?_eq_some_iff.1 hi).1
    simp only [List.length_take] at this
    omega
  rcases hp with rfl | ⟨y, hy, hlt⟩
  · omega
  · by_cases e : i = j - 1
    · subst e
      rw [List.getElem?_take, if_pos hij, hy] at hi
      cases hi; exact hlt
    · have hy' : (l.take j)[j - 1]? = some y := by rw [List.getElem?_take, if_pos (by omega)]; exact hy
      have := h.at (show i < j - 1 by omega) hi hy'
      omega
end
section
variable {α : Type} {l l2 : List α} {x y : α} {j : Nat}
theorem dsame_on (h : l.take j = l2.take j) (hx : l[j]? = some x) (hy : l2[j]? = some y) (e : x = y) : l.take (j + 1) = l2.take (j + 1) := by
  rw [List.take_add_one, List.take_add_one, h, hx, hy, e]
theorem dsame_no [DecidableEq α] (hx : l[j]? = some x) (hy : l2[j]? = some y) (e : ¬ x = y) : false = decide (l = l2) := by
  refine (decide_eq_false fun h => e ?_).symm
  rw [h, hy] at hx
  exact (Option.some.inj hx).symm
theorem dsame_yes [DecidableEq α] (h : l.take j = l2.take j) (h1 : l.length ≤ j) (h2 : l2.length ≤ j) : true = decide (l = l2) := by
  rw [List.take_of_length_le h1, List.take_of_length_le h2] at h
  exact (decide_eq_true h).symm
theorem dsame_len [DecidableEq α] (h : ¬ l.length = l2.length) : false = decide (l = l2) := (decide_eq_false fun e => h (by rw [e])).symm
end
section
variable {α : Type} {f : α → Int} {l : List α} {x y : α} {k : Int} {j : Nat}
theorem getK_on (hI : getK f (l.drop j) k = getK f l k) (hx : l[j]? = some x) (e : ¬ f x = k) : getK f (l.drop (j + 1)) k = getK f l k := by
  rw [← hI, ← List.getElem_cons_drop (List.getElem?_eq_some_iff.1 hx).1, (List.getElem?_eq_some_iff.1 hx).2]
  simp [getK, e]
theorem getK_at (hI : getK f (l.drop j) k = getK f l k) (hx : l[j]? = some x) (e : f x = k) : getK f l k = some x := by
  rw [← hI, ← List.getElem_cons_drop (List.getElem?_eq_some_iff.1 hx).1, (List.getElem?_eq_some_iff.1 hx).2]
  simp [getK, e]
theorem getK_end (hI : getK f (l.drop j) k = getK f l k) (h : l.length ≤ j) : getK f l k = none := by
  rw [← hI, List.drop_of_length_le h]; rfl
end
/-- When a timer is due, of a wheel that may be. -/
def atO (now : Int) (ts : List Tim) (k : Int) : Option Tim := if wheelB now ts = true then getK Tim.id ts k else none
def atV (o : Option Tim) : Value := match o with
  | some x => .tuple #[.int .i64 x.due, .bool true]
  | none => .tuple #[.int .i64 0, .bool false]
end Go.Proofs.Ytnhkecfapohlgaa

/-! Fractions: what they are, what is reckoned with them; plain. -/
namespace Go.Proofs.Ytnhkecfapohlgaa
open Go Go.RowKit

structure Fq where
  hi : Int
  lo : Int
  w : Int
deriving DecidableEq, Inhabited
instance : Enc Fq := ⟨fun x => [.int .u64 x.hi, .int .u64 x.lo, .int .u64 x.w], 3, fun _ => rfl, fun x v h => by simp at h; rcases h with rfl | rfl | rfl <;> rfl, by decide⟩
abbrev zF : Fq := ⟨0, 0, 0⟩
def numV (h l : Int) : Int := h * 18446744073709551616 + l
def Fq.num (f : Fq) : Int := numV f.hi f.lo
structure Fq.U (f : Fq) : Prop where
  h0 : 0 ≤ f.hi
  h1 : f.hi < 18446744073709551616
  l0 : 0 ≤ f.lo
  l1 : f.lo < 18446744073709551616
  w0 : 0 ≤ f.w
  w1 : f.w < 18446744073709551616
def wB (w : Int) : Bool := decide (1 ≤ w ∧ w ≤ 65535)
def Fq.ok (f : Fq) : Bool := wB f.w && decide (f.hi < 68719476736)
def hiV (n : Int) : Int := n / 18446744073709551616
def loV (n : Int) : Int := n % 18446744073709551616
abbrev mkF (n w : Int) : Fq := ⟨hiV n, loV n, w⟩
def cmpI (a b : Int) : Int := if a < b then -1 else if b < a then 1 else 0
def cmpF (a b : Fq) : Int := if (a.ok && b.ok) = true then cmpI (a.num * b.w) (b.num * a.w) else 0
def withV (w h l e : Int) : Fq × Int := if e = 0 ∧ h < 68719476736 then (⟨h, l, w⟩, 0) else (zF, 131)
def subV (a b : Int) : Int := if a < b then 0 else a - b
def addV (f : Fq) (n : Int) : Fq × Int := if f.ok = true then withV f.w (hiV (f.num + n)) (loV (f.num + n)) 0 else (zF, 150)
def lessV (f : Fq) (n : Int) : Fq × Int := if f.ok = true then (mkF (subV f.num n) f.w, 0) else (zF, 150)
def upD (a d : Int) : Int := (a + d - 1) / d
def overV (f : Fq) (w : Int) : Fq × Int := if f.ok = true then (if wB w = true then withV w (hiV (upD (f.num * w) f.w)) (loV (upD (f.num * w) f.w)) 0 else (zF, 2)) else (zF, 150)
def floorV (t : Fq) (s : Int) : Fq := mkF (subV t.num (s * t.w)) t.w
def behV (f t : Fq) (s : Int) : Bool := (f.ok && t.ok) && decide (cmpF f (floorV t s) < 0)
def raiseV (f t : Fq) (s : Int) : Fq × Int := if (f.ok && t.ok) = true then (if behV f t s = true then overV (floorV t s) f.w else (f, 0)) else (zF, 150)

theorem all1 (a : Fq) : List.all [a] Fq.ok = a.ok := Bool.and_true _
theorem all2 (a b : Fq) : List.all [a, b] Fq.ok = (a.ok && b.ok) := by show (a.ok && (b.ok && true)) = _; rw [Bool.and_true]
theorem allF_no {l : List Fq} {j : Nat} {x : Fq} (hx : l[j]? = some x) (h : x.ok = false) : l.all Fq.ok = false := by rw [List.all_eq_false]; exact ⟨x, List.mem_of_getElem? hx, by rw [h]; decide⟩
theorem allF_yes {l : List Fq} {j : Nat} (h : ∀ y ∈ l.take j, y.ok = true) (hj : l.length ≤ j) : l.all Fq.ok = true := by rw [List.take_of_length_le hj] at h; exact List.all_eq_true.2 h
section
variable {a b f t : Fq} {n w s x y h l e : Int}
theorem and_l {p q : Bool} (h : (p && q) = true) : p = true := (Bool.and_eq_true p q ▸ h).1
theorem and_r {p q : Bool} (h : (p && q) = true) : q = true := (Bool.and_eq_true p q ▸ h).2
theorem wB_iff : wB w = true ↔ 1 ≤ w ∧ w ≤ 65535 := by unfold wB; rw [decide_eq_true_eq]
theorem ok_iff : f.ok = true ↔ (1 ≤ f.w ∧ f.w ≤ 65535) ∧ f.hi < 68719476736 := by unfold Fq.ok; rw [Bool.and_eq_true, wB_iff, decide_eq_true_eq]
theorem wB_of (h : f.ok = true) : wB f.w = true := wB_iff.2 (ok_iff.1 h).1
theorem ok_noW (h : wB f.w = false) : f.ok = false := by unfold Fq.ok; rw [h]; rfl
theorem ok_noH (h : ¬ f.hi < 68719476736) : f.ok = false := by unfold Fq.ok; rw [decide_eq_false h, Bool.and_false]
theorem ok_yesW (h : wB f.w = true) (h2 : f.hi < 68719476736) : f.ok = true := by unfold Fq.ok; rw [h, decide_eq_true h2]; rfl
theorem num_hl (h0 : 0 ≤ l) (h1 : l < 18446744073709551616) : hiV (numV h l) = h ∧ loV (numV h l) = l := by unfold hiV loV numV; omega
theorem Fq.U.hl (h : f.U) : hiV f.num = f.hi ∧ loV f.num = f.lo := num_hl h.l0 h.l1
theorem hi_r (h0 : 0 ≤ n) (h1 : n < 340282366920938463463374607431768211456) : 0 ≤ hiV n ∧ hiV n < 18446744073709551616 := by unfold hiV; omega
theorem lo_r : 0 ≤ loV n ∧ loV n < 18446744073709551616 := by unfold loV; omega
theorem Fq.U.n0 (h : f.U) : 0 ≤ f.num := by have := h.h0; have := h.l0; unfold Fq.num numV; omega
theorem num_lt (h : f.U) (hk : f.ok = true) : f.num < 1267650600228229401496703205376 := by have := (ok_iff.1 hk).2; have := h.l1; unfold Fq.num numV; omega
theorem num_big (h : f.U) : f.num < 340282366920938463463374607431768211456 := by have := h.h1; have := h.l1; unfold Fq.num numV; omega
theorem mk_U (h0 : 0 ≤ n) (h1 : n < 340282366920938463463374607431768211456) (h2 : 0 ≤ w) (h3 : w < 18446744073709551616) : (mkF n w).U := ⟨(hi_r h0 h1).1, (hi_r h0 h1).2, lo_r.1, lo_r.2, h2, h3⟩
theorem z_U : zF.U := by constructor <;> decide
theorem mul_lt (h0 : 0 ≤ x) (h1 : x < 1267650600228229401496703205376) (h2 : 0 ≤ w) (h3 : w ≤ 65535) : 0 ≤ x * w ∧ x * w < 340282366920938463463374607431768211456 := by
  refine ⟨Int.mul_nonneg h0 h2, ?_⟩
  have h4 : x * w ≤ 1267650600228229401496703205376 * w := Int.mul_le_mul_of_nonneg_right (by omega) h2
  omega
theorem up_r (h0 : 0 ≤ x) (hd : 1 ≤ y) : 0 ≤ upD x y ∧ upD x y ≤ x := by
  unfold upD
  refine ⟨Int.ediv_nonneg (by omega) (by omega), ?_⟩
  have h2 : x * 1 ≤ x * y := Int.mul_le_mul_of_nonneg_left hd h0
  rw [Int.mul_one] at h2
  by_cases hx : x = 0
  · subst hx; rw [Int.ediv_eq_zero_of_lt (by omega) (by omega)]; omega
  · have h3 : 1 * y ≤ x * y := Int.mul_le_mul_of_nonneg_right (by omega) (by omega)
    have h4 : (x + y - 1) < (x + 1) * y := by rw [Int.add_mul]; omega
    have := Int.ediv_lt_of_lt_mul (by omega) h4
    omega
theorem with_no (h : e ≠ 0 ∨ ¬ n < 68719476736) : withV w n l e = (zF, 131) := by unfold withV; rw [if_neg (by omega)]
theorem with_yes (h : e = 0) (h2 : n < 68719476736) : withV w n l e = (⟨n, l, w⟩, 0) := by unfold withV; rw [if_pos ⟨h, h2⟩]
theorem sub_lt (h : x < y) : subV x y = 0 := by unfold subV; rw [if_pos h]
theorem sub_ge (h : ¬ x < y) : subV x y = x - y := by unfold subV; rw [if_neg h]
theorem sub_r (h0 : 0 ≤ x) (h1 : 0 ≤ y) : 0 ≤ subV x y ∧ subV x y ≤ x := by unfold subV; split <;> omega
theorem cmpF_no (h : (a.ok && b.ok) = false) : cmpF a b = 0 := by unfold cmpF; rw [h]; rfl
theorem cmpF_yes (h : (a.ok && b.ok) = true) : cmpF a b = cmpI (a.num * b.w) (b.num * a.w) := by unfold cmpF; rw [if_pos h]
theorem add_no (h : f.ok = false) : addV f n = (zF, 150) := by unfold addV; rw [h]; rfl
theorem add_yes (h : f.ok = true) : addV f n = withV f.w (hiV (f.num + n)) (loV (f.num + n)) 0 := by unfold addV; rw [if_pos h]
theorem less_noV (h : f.ok = false) : lessV f n = (zF, 150) := by unfold lessV; rw [h]; rfl
theorem less_yesV (h : f.ok = true) : lessV f n = (mkF (subV f.num n) f.w, 0) := by unfold lessV; rw [if_pos h]
theorem over_no (h : f.ok = false) : overV f w = (zF, 150) := by unfold overV; rw [h]; rfl
theorem over_arg (h : f.ok = true) (h2 : wB w = false) : overV f w = (zF, 2) := by unfold overV; rw [if_pos h, h2]; rfl
theorem over_yes (h : f.ok = true) (h2 : wB w = true) : overV f w = withV w (hiV (upD (f.num * w) f.w)) (loV (upD (f.num * w) f.w)) 0 := by unfold overV; rw [if_pos h, if_pos h2]
theorem beh_no (h : (f.ok && t.ok) = false) : behV f t s = false := by unfold behV; rw [h]; rfl
theorem beh_yes (h : (f.ok && t.ok) = true) : behV f t s = decide (cmpF f (floorV t s) < 0) := by unfold behV; rw [h]; rfl
theorem raise_no (h : (f.ok && t.ok) = false) : raiseV f t s = (zF, 150) := by unfold raiseV; rw [h]; rfl
theorem raise_same (h : (f.ok && t.ok) = true) (h2 : behV f t s = false) : raiseV f t s = (f, 0) := by unfold raiseV; rw [if_pos h, h2]; rfl
theorem raise_up (h : (f.ok && t.ok) = true) (h2 : behV f t s = true) : raiseV f t s = overV (floorV t s) f.w := by unfold raiseV; rw [if_pos h, if_pos h2]
theorem add_r (hU : f.U) (hk : f.ok = true) (h0 : 0 ≤ n) (h1 : n < 18446744073709551616) : 0 ≤ f.num + n ∧ f.num + n < 340282366920938463463374607431768211456 := by have := hU.n0; have := num_lt hU hk; omega
theorem upN_r (hU : f.U) (hk : f.ok = true) (hw : wB w = true) : 0 ≤ upD (f.num * w) f.w ∧ upD (f.num * w) f.w < 340282366920938463463374607431768211456 := by
  have h1 := wB_iff.1 hw
  have h2 := mul_lt hU.n0 (num_lt hU hk) (show 0 ≤ w by omega) h1.2
  have h3 := up_r h2.1 (ok_iff.1 hk).1.1
  omega
theorem floor_r (hU : t.U) (hk : t.ok = true) (h0 : 0 ≤ s) : 0 ≤ subV t.num (s * t.w) ∧ subV t.num (s * t.w) < 1267650600228229401496703205376 := by
  have h1 := num_lt hU hk
  have h2 := sub_r hU.n0 (Int.mul_nonneg h0 hU.w0)
  omega
theorem floor_U (hU : t.U) (hk : t.ok = true) (h0 : 0 ≤ s) : (floorV t s).U := by
  have := floor_r hU hk h0
  exact mk_U this.1 (by omega) hU.w0 hU.w1
theorem less_r (hU : f.U) (hk : f.ok = true) (h0 : 0 ≤ n) : 0 ≤ subV f.num n ∧ subV f.num n < 1267650600228229401496703205376 := by
  have h1 := num_lt hU hk
  have h2 := sub_r hU.n0 h0
  omega
end
end Go.Proofs.Ytnhkecfapohlgaa

/-! Laws on cells that hold a number of 128 bits. -/
namespace Go.Proofs.Ytnhkecfapohlgaa
open Go.RowKit

theorem wide_size : (Try.prog.info? 31).map (·.size) = some 2 := by kernel_rfl
/-- Block g of w holds a number of two halves. -/
@[reducible] def IsW (w : World) (g : Nat) (h l : Int) : Prop := IsR w g #[.int .u64 h, .int .u64 l] 31
section
variable {ops : Array Oper} {rest : List Oper} {o : Oper} {a : Act} {w : World} {Q : Exit → Act → World → Prop}
theorem wpW_store (hgd : o.guard = none) (x y : Operand) (ho : o.op = .store 31 x y) (g : Nat) (hx : a.eval x = .pointer (some ⟨g, 0, none⟩)) (h l h0 l0 : Int) (hy : a.eval y = .agg #[.int .u64 h, .int .u64 l])
    (hg : IsW w g h0 l0) (hK : ∀ w1 : World, Put g #[.int .u64 h, .int .u64 l] 31 w w1 → wpList Try.prog ops Q rest (a.put o.dst undef) w1) : wpList Try.prog ops Q (o :: rest) a w :=
  wpR_store hgd _ x y ho g hx _ _ hy _ hg wide_size rfl (by simp [Value.oneCell']) hK
theorem wpW_load (hgd : o.guard = none) (x : Operand) (ho : o.op = .load 31 x) (g : Nat) (hx : a.eval x = .pointer (some ⟨g, 0, none⟩)) (h l : Int)
    (hg : IsW w g h l) (hK : wpList Try.prog ops Q rest (a.put o.dst (.agg #[.int .u64 h, .int .u64 l])) w) : wpList Try.prog ops Q (o :: rest) a w :=
  wpList_load_row hgd _ x ho g hx _ _ _ _ hg Try.underlying31 rfl wide_size hK
variable {fn : Func} {R : Ending → World → Prop} {tmps : Array Value} {p q r : Tmp} {g : Nat} {h l : Int}
theorem retW (hf : fn.results = #[.cell p 31]) (hp : tmps.getD p undef = .pointer (some ⟨g, 0, none⟩)) (hg : IsW w g h l) (hR : R (.returned (.agg #[.int .u64 h, .int .u64 l])) w) :
    bodyPost Try.prog fn R .ret { tmps, defers := [] } w := ret_row hf hp hg Try.underlying31 rfl wide_size hR
theorem retW1 (hf : fn.results = #[.cell p 31, .tmp q]) (hp : tmps.getD p undef = .pointer (some ⟨g, 0, none⟩)) (v : Value) (hq : tmps.getD q undef = v) (hg : IsW w g h l)
    (hR : R (.returned (.tuple #[.agg #[.int .u64 h, .int .u64 l], v])) w) : bodyPost Try.prog fn R .ret { tmps, defers := [] } w := ret_row_tmp hf hp v hq hg Try.underlying31 rfl wide_size hR
end
end Go.Proofs.Ytnhkecfapohlgaa

/-! Plain lemmas on rows of 256 bits, and on numbers of 128 bits: no program in sight. -/
namespace Go.Proofs.Ytnhkecfapohlgaa
open Go.RowKit

/-- The row of the 256 lowest bits of a number. -/
def bA (n : Nat) : Array Value := Array.ofFn (n := 256) fun i => .bool (n.testBit i.val)

theorem bA_size (n : Nat) : (bA n).size = 256 := by simp [bA]
theorem bA_get (n k : Nat) (h : k < 256) : (bA n)[k]? = some (.bool (n.testBit k)) := by simp [bA, h]
theorem bA_ext (m n : Nat) (h : ∀ k, k < 256 → m.testBit k = n.testBit k) : bA m = bA n := by
  unfold bA; congr 1; funext i; rw [h _ i.isLt]
theorem bA_mod (n : Nat) : bA (n % 2 ^ 256) = bA n := bA_ext _ _ fun k h => by rw [Nat.testBit_mod_two_pow]; simp [h]
theorem bA_set (m k : Nat) (v : Bool) (hm : m < 2 ^ k) : (bA m).setIfInBounds k (.bool v) = bA (m + v.toNat * 2 ^ k) := by
  apply Array.ext_getElem?
  intro j
  rw [Array.getElem?_setIfInBounds]
  by_cases hj : j < 256
  · rw [bA_get _ _ hj, bA_get _ _ hj, bA_size]
    have e : (m + v.toNat * 2 ^ k).testBit j = if k = j then v else m.testBit j := by
      rw [show m + v.toNat * 2 ^ k = 2 ^ k * v.toNat + m from by rw [Nat.mul_comm]; omega, Nat.testBit_two_pow_mul_add _ hm]
      by_cases h1 : j < k
      · simp [h1, show ¬ k = j from by omega]
      · by_cases h2 : k = j
        · subst h2; cases v <;> simp
        · have h3 : m.testBit j = false := Nat.testBit_lt_two_pow (Nat.lt_of_lt_of_le hm (Nat.pow_le_pow_right (by omega) (by omega)))
          simp [h1, h2, h3]
          have : j - k ≠ 0 := by omega
          cases v
          · simp
          · exact Nat.testBit_lt_two_pow (Nat.one_lt_two_pow this)
    rw [e]
    by_cases h2 : k = j <;> simp [h2, hj]
  · have h1 : (bA m)[j]? = none := by simp [bA_size]; omega
    have h2 : (bA (m + v.toNat * 2 ^ k))[j]? = none := by simp [bA_size]; omega
    rw [h1, h2, bA_size]
    by_cases h2 : k = j
    · simp [h2, hj]
    · simp [h2]
theorem bA_oneCell (n : Nat) : (bA n).all (·.oneCell') = true := by
  rw [Array.all_eq_true]
  intro i hi
  simp [bA, Value.oneCell']
theorem bA_zero : bA 0 = Array.replicate 256 (.bool false) := by
  apply Array.ext_getElem?
  intro j
  by_cases hj : j < 256
  · rw [bA_get _ _ hj]; simp [hj]
  · have h1 : (bA 0)[j]? = none := by simp [bA_size]; omega
    rw [h1]; simp; omega

theorem mod_succ (a k : Nat) : a % 2 ^ (k + 1) = a % 2 ^ k + (a.testBit k).toNat * 2 ^ k := by
  rw [Nat.mod_pow_succ, Nat.testBit_eq_decide_div_mod_eq]
  have : a / 2 ^ k % 2 < 2 := Nat.mod_lt _ (by omega)
  by_cases h : a / 2 ^ k % 2 = 1
  · simp [h]
  · have h0 : a / 2 ^ k % 2 = 0 := by omega
    simp [h0]

theorem sum_plain (x y u v p : Nat) (hp : 0 < p) (c n : Nat) (hx : x < p) (hy : y < p) (hu : u ≤ 1) (hv : v ≤ 1) (hc : c = (decide (p ≤ x + y)).toNat) (hn : n = u + v + c) :
    (x + u * p + (y + v * p)) % (p * 2) = (x + y) % p + (n % 2) * p ∧ (p * 2 ≤ x + u * p + (y + v * p) ↔ 2 ≤ n) := by
  have hr : x + y = (x + y) % p + c * p := by
    subst hc
    by_cases h : p ≤ x + y
    · rw [Nat.mod_eq_sub_mod h, Nat.mod_eq_of_lt (by omega)]; simp [h]
    · rw [Nat.mod_eq_of_lt (by omega)]; simp [h]
  have hr' : (x + y) % p < p := Nat.mod_lt _ hp
  generalize (x + y) % p = r at *
  have e : x + u * p + (y + v * p) = r + n * p := by subst hn; rw [Nat.add_mul, Nat.add_mul]; omega
  rw [e]
  have hc1 : c ≤ 1 := by subst hc; cases decide (p ≤ x + y) <;> simp
  clear hr hc e
  have hn3 : n = 0 ∨ n = 1 ∨ n = 2 ∨ n = 3 := by omega
  rcases hn3 with h | h | h | h <;> subst h
  · refine ⟨?_, by omega⟩; rw [Nat.mod_eq_of_lt (by omega)]
  · refine ⟨?_, by omega⟩; rw [Nat.mod_eq_of_lt (by omega)]
  · refine ⟨?_, by omega⟩; rw [Nat.mod_eq_sub_mod (by omega), Nat.mod_eq_of_lt (by omega)]; omega
  · refine ⟨?_, by omega⟩; rw [Nat.mod_eq_sub_mod (by omega), Nat.mod_eq_of_lt (by omega)]; omega

/-- One place of a sum. -/
def sAt (a b k : Nat) : Nat := a % 2 ^ k + b % 2 ^ k
theorem sum_step (a b k n : Nat) (hn : n = (a.testBit k).toNat + (b.testBit k).toNat + (decide (2 ^ k ≤ sAt a b k)).toNat) :
    sAt a b (k + 1) % 2 ^ (k + 1) = sAt a b k % 2 ^ k + (n % 2 == 1).toNat * 2 ^ k ∧ decide (2 ^ (k + 1) ≤ sAt a b (k + 1)) = decide (2 ≤ n) := by
  unfold sAt at *
  rw [mod_succ a, mod_succ b, Nat.pow_succ]
  have h := sum_plain (a % 2 ^ k) (b % 2 ^ k) (a.testBit k).toNat (b.testBit k).toNat (2 ^ k) (Nat.two_pow_pos k) _ n (Nat.mod_lt _ (Nat.two_pow_pos k)) (Nat.mod_lt _ (Nat.two_pow_pos k))
    (by cases a.testBit k <;> simp) (by cases b.testBit k <;> simp) rfl hn
  rw [h.1]
  refine ⟨?_, by simp only [h.2]⟩
  have : n % 2 = 0 ∨ n % 2 = 1 := by omega
  rcases this with e | e <;> simp [e]

/-- Two rows are one where they agree at each place. -/
def bF (f : Nat → Bool) : Array Value := Array.ofFn (n := 256) fun i => .bool (f i.val)
theorem bF_size (f : Nat → Bool) : (bF f).size = 256 := by simp [bF]
theorem bF_get (f : Nat → Bool) (k : Nat) (h : k < 256) : (bF f)[k]? = some (.bool (f k)) := by simp [bF, h]
theorem bA_bF (n : Nat) : bA n = bF n.testBit := rfl
theorem bF_ext (f g : Nat → Bool) (h : ∀ k, k < 256 → f k = g k) : bF f = bF g := by
  unfold bF; congr 1; funext i; rw [h _ i.isLt]
theorem bF_set (f g : Nat → Bool) (k : Nat) (v : Bool) (hk : g k = v) (h : ∀ j, j < 256 → j ≠ k → g j = f j) : (bF f).setIfInBounds k (.bool v) = bF g := by
  apply Array.ext_getElem?
  intro j
  rw [Array.getElem?_setIfInBounds]
  by_cases hj : j < 256
  · rw [bF_get _ _ hj, bF_get _ _ hj, bF_size]
    by_cases h2 : k = j
    · subst h2; simp [hj, hk]
    · simp [h2, h j hj (fun e => h2 e.symm)]
  · have h1 : (bF f)[j]? = none := by simp [bF_size]; omega
    have h2 : (bF g)[j]? = none := by simp [bF_size]; omega
    rw [h1, h2, bF_size]
    by_cases h2 : k = j
    · simp [h2, hj]
    · simp [h2]

theorem twice_step (a k : Nat) (hk : 1 ≤ k) : (2 * a) % 2 ^ (k + 1) = (2 * a) % 2 ^ k + (a.testBit (k - 1)).toNat * 2 ^ k := by
  rw [mod_succ]
  obtain ⟨j, rfl⟩ : ∃ j, k = j + 1 := ⟨k - 1, by omega⟩
  rw [Nat.testBit_succ, Nat.mul_div_cancel_left _ (by omega)]
  rfl

/-- One place of a difference. -/
def tAt (a b k : Nat) : Nat := (2 ^ k + a % 2 ^ k - b % 2 ^ k) % 2 ^ k
theorem div_succ (a k : Nat) : a / 2 ^ k = 2 * (a / 2 ^ (k + 1)) + (a.testBit k).toNat := by
  rw [Nat.pow_succ, ← Nat.div_div_eq_div_mul, Nat.testBit_eq_decide_div_mod_eq]
  generalize a / 2 ^ k = q
  by_cases h : q % 2 = 1
  · simp [h]; omega
  · simp [h]; omega
theorem less_stop (a b k : Nat) (h : a / 2 ^ (k + 1) = b / 2 ^ (k + 1)) (hne : a.testBit k ≠ b.testBit k) : decide (a < b) = b.testBit k := by
  have h1 := div_succ a k
  have h2 := div_succ b k
  rw [h] at h1
  generalize b / 2 ^ (k + 1) = q at h1 h2
  have h3 : ∀ x y : Nat, x / 2 ^ k < y / 2 ^ k → x < y := fun x y hxy => by
    rcases Nat.lt_or_ge x y with h | h
    · exact h
    · exact absurd (Nat.div_le_div_right (c := 2 ^ k) h) (by omega)
  cases hb : b.testBit k <;> cases ha : a.testBit k <;> simp [ha, hb] at h1 h2 hne ⊢
  · have := h3 b a (by omega); omega
  · exact h3 a b (by omega)
theorem less_go (a b k : Nat) (h : a / 2 ^ (k + 1) = b / 2 ^ (k + 1)) (he : a.testBit k = b.testBit k) : a / 2 ^ k = b / 2 ^ k := by
  rw [div_succ a, div_succ b, h, he]

theorem prod_step (a m k : Nat) : a * (m / 2 ^ k) = 2 * (a * (m / 2 ^ (k + 1))) + (if m.testBit k then a else 0) := by
  rw [div_succ m k, Nat.mul_add, ← Nat.mul_assoc, Nat.mul_comm a 2, Nat.mul_assoc]
  cases m.testBit k <;> simp
theorem bit_tmod (m j : Nat) : (((m : Int) / 2 ^ j).tmod 2 == 1) = m.testBit j := by
  rw [Nat.testBit_eq_decide_div_mod_eq]
  have e : (m : Int) / 2 ^ j = ((m / 2 ^ j : Nat) : Int) := by simp
  rw [e, Int.tmod_eq_emod_of_nonneg (Int.natCast_nonneg _), Bool.eq_iff_iff]
  generalize m / 2 ^ j = z
  simp only [beq_iff_eq, decide_eq_true_eq]
  omega
theorem quot_step (a d k : Nat) (hd : 0 < d) :
    (if 2 * (a / 2 ^ (k + 1) % d) + (a.testBit k).toNat < d then a / 2 ^ k % d = 2 * (a / 2 ^ (k + 1) % d) + (a.testBit k).toNat ∧ a / 2 ^ k / d = 2 * (a / 2 ^ (k + 1) / d)
      else a / 2 ^ k % d = 2 * (a / 2 ^ (k + 1) % d) + (a.testBit k).toNat - d ∧ a / 2 ^ k / d = 2 * (a / 2 ^ (k + 1) / d) + 1) := by
  rw [div_succ a k]
  have h1 := Nat.div_add_mod (a / 2 ^ (k + 1)) d
  have h2 := Nat.mod_lt (a / 2 ^ (k + 1)) hd
  generalize a / 2 ^ (k + 1) = A at *
  have hx : (a.testBit k).toNat ≤ 1 := by cases a.testBit k <;> simp
  generalize (a.testBit k).toNat = x at *
  generalize A % d = r at *
  generalize A / d = q at *
  subst h1
  split
  · rename_i h
    have e : 2 * (d * q + r) + x = d * (2 * q) + (2 * r + x) := by rw [Nat.mul_add, ← Nat.mul_assoc, ← Nat.mul_assoc, Nat.mul_comm 2 d]; omega
    rw [e]
    exact ⟨by rw [Nat.mul_add_mod, Nat.mod_eq_of_lt h], by rw [Nat.mul_add_div hd, Nat.div_eq_of_lt h]; rfl⟩
  · rename_i h
    have e : 2 * (d * q + r) + x = d * (2 * q + 1) + (2 * r + x - d) := by rw [Nat.mul_add, ← Nat.mul_assoc, Nat.mul_add, ← Nat.mul_assoc, Nat.mul_comm 2 d, Nat.mul_one]; generalize d * 2 * q = z; omega
    have h' : 2 * r + x - d < d := by omega
    rw [e]
    exact ⟨by rw [Nat.mul_add_mod, Nat.mod_eq_of_lt h'], by rw [Nat.mul_add_div hd, Nat.div_eq_of_lt h']⟩
end Go.Proofs.Ytnhkecfapohlgaa

/-! The small functions of package wide: their contracts, whatever the world. -/
namespace Go.Proofs.Ytnhkecfapohlgaa
open Go.RowKit

/-- One part of 32 bits of a number. -/
@[irreducible] def dg (n i : Nat) : Nat := n / 2 ^ (32 * i) % 2 ^ 32
/-- A number's seven parts. -/
def qA (n : Nat) : Array Value := Array.ofFn (n := 7) fun i => .int .u64 (dg n i.val)
theorem qA_lit (n : Nat) : qA n = #[.int .u64 (dg n 0), .int .u64 (dg n 1), .int .u64 (dg n 2), .int .u64 (dg n 3), .int .u64 (dg n 4), .int .u64 (dg n 5), .int .u64 (dg n 6)] := by
  simp [qA, Array.ofFn_succ]
theorem qA_size (n : Nat) : (qA n).size = 7 := by simp [qA]
theorem qA_get (n k : Nat) (h : k < 7) : (qA n)[k]? = some (.int .u64 (dg n k)) := by simp [qA, h]
theorem qA_set (n m k : Nat) (v : Int) (hv : (dg m k : Int) = v) (h : ∀ j, j < 7 → j ≠ k → dg m j = dg n j) : (qA n).setIfInBounds k (.int .u64 v) = qA m := by
  apply Array.ext_getElem?
  intro j
  rw [Array.getElem?_setIfInBounds]
  by_cases hj : j < 7
  · rw [qA_get _ _ hj, qA_get _ _ hj, qA_size]
    by_cases h2 : k = j
    · subst h2; simp [hj, hv]
    · simp [h2, h j hj (fun e => h2 e.symm)]
  · have h1 : (qA n)[j]? = none := by simp [qA_size]; omega
    have h2 : (qA m)[j]? = none := by simp [qA_size]; omega
    rw [h1, h2, qA_size]
    by_cases h2 : k = j
    · simp [h2, hj]
    · simp [h2]

theorem wOf_any (n : Int) (w : World) :
    Calls Try.prog 43 #[.int .u64 n] w fun e w' => e = .returned (.agg #[.int .u64 0, .int .u64 n]) ∧ Below w.heap.size w w' := by
  go_enter Try.func43, Try.ntmps43
  go_wp2
  exact bodyPost_ret (v := .agg #[.int .u64 0, .int .u64 n]) (by simp [results, Try.results43, go_sem]) rfl ⟨rfl, (Below.refl _ _).alloc (Nat.le_refl _) _⟩

theorem and32 (x : Nat) (h : x < 2 ^ 64) : bits BinOp.and IntKind.u64 (x : Int) 4294967295 = ((x % 2 ^ 32 : Nat) : Int) := by
  have := bits_and_u64_nat x 4294967295 (by omega) (by omega)
  rw [show ((4294967295 : Nat) : Int) = 4294967295 from rfl] at this
  rw [this, show (4294967295 : Nat) = 2 ^ 32 - 1 from rfl, Nat.and_two_pow_sub_one_eq_mod]

theorem of_dg (h l n : Nat) (hh : h < 2 ^ 64) (hl : l < 2 ^ 64) (hn : h * 2 ^ 64 + l = n) :
    (#[.int .u64 ((l % 2 ^ 32 : Nat) : Int), .int .u64 ((l / 2 ^ 32 : Nat) : Int), .int .u64 ((h % 2 ^ 32 : Nat) : Int), .int .u64 ((h / 2 ^ 32 : Nat) : Int), .int .u64 0, .int .u64 0, .int .u64 0] : Array Value) = qA n := by
  subst hn
  rw [qA_lit]
  unfold dg
  simp only [Nat.mul_zero, Nat.reduceMul, Nat.reducePow]
  congr 1
  simp only [List.cons.injEq, Value.int.injEq, true_and, and_true]
  omega

set_option maxRecDepth 100000 in
theorem wof_any (h l n : Nat) (w : World) (hh : h < 2 ^ 64) (hl : l < 2 ^ 64) (hn : h * 2 ^ 64 + l = n) :
    Calls Try.prog 89 #[.agg #[.int .u64 h, .int .u64 l]] w fun e w' => e = .returned (.agg (qA n)) ∧ Below w.heap.size w w' := by
  have e1 := and32 l hl
  have e2 := and32 h hh
  have e3 : (l : Int) / 4294967296 = ((l / 2 ^ 32 : Nat) : Int) := by omega
  have e4 : (h : Int) / 4294967296 = ((h / 2 ^ 32 : Nat) : Int) := by omega
  have HE := Lib.hid (of_dg h l n hh hl hn)
  generalize l % 2 ^ 32 = a at *
  generalize l / 2 ^ 32 = b at *
  generalize h % 2 ^ 32 = c at *
  generalize h / 2 ^ 32 = d at *
  clear hh hl hn
  go_enter Try.func89, Try.ntmps89
  go_wp2
  refine bodyPost_ret (v := .agg (qA n)) (by rw [← HE.out]; simp [results, Try.results89, go_sem]) rfl ⟨rfl, ((Below.refl _ _).alloc (Nat.le_refl _) _).alloc (by simp) _⟩

theorem or32 (a b : Nat) (ha : a < 2 ^ 32) (hb : b < 2 ^ 32) : bits BinOp.or IntKind.u64 (IntKind.u64.wrap ((a : Int) * 4294967296)) (b : Int) = ((a * 2 ^ 32 + b : Nat) : Int) := by
  have e : IntKind.u64.wrap ((a : Int) * 4294967296) = ((a * 2 ^ 32 : Nat) : Int) := by rw [IntKind.wrap_u64]; omega
  rw [e, bits_or_u64_nat _ _ (by omega) (by omega), nat_join 32 _ _ (by omega) hb]
theorem dg_lt (n i : Nat) : dg n i < 2 ^ 32 := by unfold dg; exact Nat.mod_lt _ (by decide)
theorem dg_low (n : Nat) : (dg n 3 * 2 ^ 32 + dg n 2) * 2 ^ 64 + (dg n 1 * 2 ^ 32 + dg n 0) = n % 2 ^ 128 := by
  unfold dg; simp only [Nat.mul_zero, Nat.reduceMul, Nat.reducePow]; omega
/-- Whether a number has no more than 128 bits. -/
def few (n : Nat) : Bool := decide (n < 2 ^ 128)
theorem dg_high (n : Nat) (hn : n < 2 ^ 224) : few n = (decide (dg n 4 = 0) && decide (dg n 5 = 0) && decide (dg n 6 = 0)) := by
  unfold dg few; simp only [Nat.reduceMul, Nat.reducePow] at *
  rw [Bool.eq_iff_iff]; simp only [Bool.and_eq_true, decide_eq_true_eq]; omega

/-- Three parts are 0. -/
def nought (q4 q5 q6 : Nat) : Bool := decide (q4 = 0) && decide (q5 = 0) && decide (q6 = 0)

set_option maxRecDepth 100000 in
set_option maxHeartbeats 1000000 in
theorem qwide_aux (q0 q1 q2 q3 q4 q5 q6 h l : Nat) (w : World) (e1 : bits BinOp.or IntKind.u64 (IntKind.u64.wrap ((q3 : Int) * 4294967296)) (q2 : Int) = (h : Int)) (e2 : bits BinOp.or IntKind.u64 (IntKind.u64.wrap ((q1 : Int) * 4294967296)) (q0 : Int) = (l : Int)) :
    Calls Try.prog 91 #[.agg #[.int .u64 q0, .int .u64 q1, .int .u64 q2, .int .u64 q3, .int .u64 q4, .int .u64 q5, .int .u64 q6]] w fun e w' =>
      e = .returned (.tuple #[.agg #[.int .u64 h, .int .u64 l], .bool (nought q4 q5 q6)]) ∧ Below w.heap.size w w' := by
  by_cases z4 : q4 = 0
  · have t4 : ((q4 : Int) == 0) = true := by rw [z4]; rfl
    by_cases z5 : q5 = 0
    · have t5 : ((q5 : Int) == 0) = true := by rw [z5]; rfl
      obtain ⟨b, hb⟩ : ∃ b, ((q6 : Int) == 0) = b := ⟨_, rfl⟩
      have HF := Lib.hid (show nought q4 q5 q6 = b by unfold nought; rw [decide_eq_true z4, decide_eq_true z5, Bool.true_and, Bool.true_and, ← hb, Bool.eq_iff_iff]; simp)
      clear z4 z5
      go_enter Try.func91, Try.ntmps91
      go_wp2
      go_region
      go_wp2
      exact bodyPost_ret (v := .tuple #[.agg #[.int .u64 h, .int .u64 l], .bool b]) (by simp [results, Try.results91, go_sem]) rfl ⟨by rw [HF.out], (((Below.refl _ _).alloc (Nat.le_refl _) _).alloc (by simp) _).drew⟩
    · have t5 : ((q5 : Int) == 0) = false := by simpa using z5
      have HF := Lib.hid (show nought q4 q5 q6 = false by unfold nought; rw [decide_eq_false z5, Bool.and_false, Bool.false_and])
      clear z4 z5
      go_enter Try.func91, Try.ntmps91
      go_wp2
      go_region
      go_wp2
      exact bodyPost_ret (v := .tuple #[.agg #[.int .u64 h, .int .u64 l], .bool false]) (by simp [results, Try.results91, go_sem]) rfl ⟨by rw [HF.out], (((Below.refl _ _).alloc (Nat.le_refl _) _).alloc (by simp) _).drew⟩
  · have t4 : ((q4 : Int) == 0) = false := by simpa using z4
    have HF := Lib.hid (show nought q4 q5 q6 = false by unfold nought; rw [decide_eq_false z4, Bool.false_and, Bool.false_and])
    clear z4
    go_enter Try.func91, Try.ntmps91
    go_wp2
    go_region
    go_wp2
    exact bodyPost_ret (v := .tuple #[.agg #[.int .u64 h, .int .u64 l], .bool false]) (by simp [results, Try.results91, go_sem]) rfl ⟨by rw [HF.out], (((Below.refl _ _).alloc (Nat.le_refl _) _).alloc (by simp) _).drew⟩

theorem two32 (a b : Nat) (ha : a < 2 ^ 32) (hb : b < 2 ^ 32) : a * 2 ^ 32 + b < 2 ^ 64 := by omega
theorem qwide_any (n : Nat) (w : World) (hn : n < 2 ^ 224) :
    Calls Try.prog 91 #[.agg (qA n)] w fun e w' => ∃ h l : Nat, e = .returned (.tuple #[.agg #[.int .u64 h, .int .u64 l], .bool (few n)]) ∧ h < 2 ^ 64 ∧ l < 2 ^ 64 ∧ h * 2 ^ 64 + l = n % 2 ^ 128 ∧ Below w.heap.size w w' := by
  rw [qA_lit]
  refine (qwide_aux (dg n 0) (dg n 1) (dg n 2) (dg n 3) (dg n 4) (dg n 5) (dg n 6) _ _ w (or32 _ _ (dg_lt n 3) (dg_lt n 2)) (or32 _ _ (dg_lt n 1) (dg_lt n 0))).mono ?_
  rintro e w' ⟨rfl, hb⟩
  exact ⟨_, _, by rw [dg_high n hn]; rfl, two32 _ _ (dg_lt n 3) (dg_lt n 2), two32 _ _ (dg_lt n 1) (dg_lt n 0), dg_low n, hb⟩

end Go.Proofs.Ytnhkecfapohlgaa

/-! package wide's quotient on seven parts: its contract, whatever the world. -/
namespace Go.Proofs.Ytnhkecfapohlgaa
open Go.RowKit

theorem quart_info : (Try.prog.info? 126).map (fun i => (i.zero, i.size)) = some (some (.agg #[.int .u64 0, .int .u64 0, .int .u64 0, .int .u64 0, .int .u64 0, .int .u64 0, .int .u64 0]), 7) := by kernel_rfl
theorem zero_of_info' {P : Program} {t : TypeId} {v : Value} {n : Nat} (h : (P.info? t).map (fun i => (i.zero, i.size)) = some (some v, n)) (w : World) : (zeroValue t).run P w = .ok v w := by
  cases hq : P.info? t with
  | none => simp [hq] at h
  | some i => simp [hq] at h; simp [zeroValue, typeInfo, hq, h.1]
theorem setCell_drewN (w : World) (n : Nat) (p : Addr) (v : Value) : (w.drewN n).setCell p v = (w.setCell p v).drewN n := rfl
theorem qA_at (n k : Nat) (h : k < (qA n).size) : (qA n)[k] = .int .u64 (dg n k) := by simp [qA]
theorem qA_zero : qA 0 = #[.int .u64 0, .int .u64 0, .int .u64 0, .int .u64 0, .int .u64 0, .int .u64 0, .int .u64 0] := by
  rw [qA_lit]; unfold dg; simp

theorem quart_size (n : Nat) : (Try.prog.info? 126).map (·.size) = some (qA n).size := by
  rw [qA_size]
  have := quart_info
  cases hq : Try.prog.info? 126 with
  | none => simp [hq] at this
  | some i => simp [hq] at this ⊢; exact this.2
theorem qA_oneCell (n : Nat) : (qA n).all (·.oneCell') = true := by rw [qA_lit]; simp [Value.oneCell']
/-- Block g of w holds a number's parts. -/
@[reducible] def IsQ (w : World) (g n : Nat) : Prop := IsR w g (qA n) 126
section
variable {ops : Array Oper} {rest : List Oper} {o : Oper} {a : Act} {w : World} {Q : Exit → Act → World → Prop}
theorem wpQ_store (hgd : o.guard = none) (x y : Operand) (ho : o.op = .store 126 x y) (g : Nat) (hx : a.eval x = .pointer (some ⟨g, 0, none⟩)) (n m : Nat) (hy : a.eval y = .agg (qA n))
    (hg : IsQ w g m) (hK : ∀ w1 : World, Put g (qA n) 126 w w1 → wpList Try.prog ops Q rest (a.put o.dst undef) w1) : wpList Try.prog ops Q (o :: rest) a w :=
  wpR_store hgd _ x y ho g hx _ _ hy _ hg (quart_size n) (by rw [qA_size, qA_size]) (qA_oneCell n) hK
theorem wpQ_load (hgd : o.guard = none) (x : Operand) (ho : o.op = .load 126 x) (g : Nat) (hx : a.eval x = .pointer (some ⟨g, 0, none⟩)) (n : Nat)
    (hg : IsQ w g n) (hK : wpList Try.prog ops Q rest (a.put o.dst (.agg (qA n))) w) : wpList Try.prog ops Q (o :: rest) a w :=
  wpList_load_row hgd _ x ho g hx _ _ _ _ hg Try.underlying126 rfl (quart_size n) hK
variable {fn : Func} {R : Ending → World → Prop} {tmps : Array Value} {p q r : Tmp} {g n : Nat}
theorem retQ (hf : fn.results = #[.cell p 126]) (hp : tmps.getD p undef = .pointer (some ⟨g, 0, none⟩)) (hg : IsQ w g n) (hR : R (.returned (.agg (qA n))) w) :
    bodyPost Try.prog fn R .ret { tmps, defers := [] } w := ret_row hf hp hg Try.underlying126 rfl (quart_size n) hR
theorem retQ1 (hf : fn.results = #[.cell p 126, .tmp q]) (hp : tmps.getD p undef = .pointer (some ⟨g, 0, none⟩)) (v : Value) (hq : tmps.getD q undef = v) (hg : IsQ w g n)
    (hR : R (.returned (.tuple #[.agg (qA n), v])) w) : bodyPost Try.prog fn R .ret { tmps, defers := [] } w := ret_row_tmp hf hp v hq hg Try.underlying126 rfl (quart_size n) hR
end

/-- The quotient's digits, set at one place. -/
theorem over_set (q i b : Nat) (_hi : i < 7) (hb : b < 32) :
    dg ((2 * q + 1) * 2 ^ (32 * i + b)) i = dg (q * 2 ^ (32 * i + b + 1)) i + 2 ^ b ∧ dg (q * 2 ^ (32 * i + b + 1)) i % 2 ^ (b + 1) = 0 ∧
      ∀ j, j ≠ i → dg ((2 * q + 1) * 2 ^ (32 * i + b)) j = dg (q * 2 ^ (32 * i + b + 1)) j := by
  have e1 : (2 * q + 1) * 2 ^ (32 * i + b) = ((2 * q + 1) * 2 ^ b) * 2 ^ (32 * i) := by rw [Nat.pow_add, Nat.mul_comm (2 ^ (32 * i)), Nat.mul_assoc]
  have e2 : q * 2 ^ (32 * i + b + 1) = (q * 2 ^ (b + 1)) * 2 ^ (32 * i) := by rw [Nat.add_assoc, Nat.pow_add, Nat.mul_comm (2 ^ (32 * i)), Nat.mul_assoc]
  have e3 : 2 ^ 32 = 2 ^ (b + 1) * 2 ^ (31 - b) := by rw [← Nat.pow_add]; congr 1; omega
  have d1 : dg (q * 2 ^ (32 * i + b + 1)) i = (q % 2 ^ (31 - b)) * 2 ^ (b + 1) := by
    unfold dg
    rw [e2, Nat.mul_div_cancel _ (Nat.two_pow_pos _), e3, Nat.mul_comm q, Nat.mul_mod_mul_left, Nat.mul_comm]
  have hp := Nat.two_pow_pos b
  have e4 : (2 * q + 1) * 2 ^ b = 2 ^ (b + 1) * q + 2 ^ b := by rw [Nat.pow_succ, Nat.add_mul, Nat.one_mul, Nat.mul_comm (2 ^ b) 2, Nat.mul_assoc, Nat.mul_assoc, Nat.mul_comm q]
  refine ⟨?_, ?_, fun j hj => ?_⟩
  · rw [d1]
    unfold dg
    rw [e1, Nat.mul_div_cancel _ (Nat.two_pow_pos _), e4, e3, Nat.mod_mul, Nat.mul_add_mod, Nat.mod_eq_of_lt (show 2 ^ b < 2 ^ (b + 1) by rw [Nat.pow_succ]; omega), Nat.mul_add_div (Nat.two_pow_pos _),
      Nat.div_eq_of_lt (show 2 ^ b < 2 ^ (b + 1) by rw [Nat.pow_succ]; omega), Nat.add_zero, Nat.mul_comm (2 ^ (b + 1)), Nat.add_comm]
    rfl
  · rw [d1]; exact Nat.mul_mod_left _ _
  · unfold dg
    rcases Nat.lt_or_ge j i with h | h
    · have z : ∀ x, x * 2 ^ (32 * i) / 2 ^ (32 * j) % 2 ^ 32 = 0 := fun x => by
        have : 2 ^ (32 * i) = 2 ^ (32 * (i - j - 1)) * 2 ^ 32 * 2 ^ (32 * j) := by rw [← Nat.pow_add, ← Nat.pow_add]; congr 1; omega
        rw [this, ← Nat.mul_assoc, Nat.mul_div_cancel _ (Nat.two_pow_pos _), ← Nat.mul_assoc]; exact Nat.mul_mod_left _ _
      rw [e1, e2, z, z]
    · have h' : i < j := by omega
      have z : 2 ^ (32 * j) = 2 ^ (32 * i) * (2 ^ (b + 1) * 2 ^ (32 * (j - i) - (b + 1))) := by rw [← Nat.pow_add, ← Nat.pow_add]; congr 1; omega
      rw [e1, e2, z, Nat.mul_comm _ (2 ^ (32 * i)), Nat.mul_comm _ (2 ^ (32 * i)), Nat.mul_div_mul_left _ _ (Nat.two_pow_pos _), Nat.mul_div_mul_left _ _ (Nat.two_pow_pos _), ← Nat.div_div_eq_div_mul, ← Nat.div_div_eq_div_mul, e4,
        Nat.mul_add_div (Nat.two_pow_pos _), Nat.div_eq_of_lt (show 2 ^ b < 2 ^ (b + 1) by rw [Nat.pow_succ]; omega), Nat.add_zero, Nat.mul_div_cancel _ (Nat.two_pow_pos _)]

theorem over_or (r x y b : Nat) (_hr : r < 2 ^ 64) (hy : y < 2 ^ 32) (hx : x = y / 2 ^ b % 2) :
    bits BinOp.or IntKind.u64 (IntKind.u64.wrap ((r : Int) * 2)) (bits BinOp.and IntKind.u64 ((y : Int) / 2 ^ b) 1) = (((2 * r + x) % 2 ^ 64 : Nat) : Int) := by
  have h1 : (y : Int) / 2 ^ b = ((y / 2 ^ b : Nat) : Int) := by simp
  have h2 : y / 2 ^ b < 2 ^ 64 := Nat.lt_of_le_of_lt (Nat.div_le_self _ _) (by omega)
  rw [h1, show (1 : Int) = ((1 : Nat) : Int) from rfl, bits_and_u64_nat _ _ h2 (by decide), nat_mask1, ← hx]
  have h3 : IntKind.u64.wrap ((r : Int) * 2) = ((2 * r % 2 ^ 64 : Nat) : Int) := by rw [IntKind.wrap_u64]; omega
  have h4 : x < 2 := by subst hx; exact Nat.mod_lt _ (by decide)
  rw [h3, bits_or_u64_nat _ _ (by omega) (by omega), nat_join 1 _ _ (by omega) (by omega)]
  congr 1
  omega
theorem over_bor (y b : Nat) (hb : b < 32) (hy : y < 2 ^ 32) (h0 : y % 2 ^ (b + 1) = 0) : bits BinOp.or IntKind.u64 (y : Int) (IntKind.u64.wrap (2 ^ b)) = ((y + 2 ^ b : Nat) : Int) := by
  have hp : 2 ^ b < 2 ^ 32 := Nat.pow_lt_pow_right (by decide) hb
  have e : IntKind.u64.wrap (2 ^ b) = ((2 ^ b : Nat) : Int) := by
    rw [IntKind.wrap_u64]
    have : ((2 ^ b : Nat) : Int) = (2 : Int) ^ b := by simp
    omega
  rw [e, bits_or_u64_nat _ _ (by omega) (by omega), nat_join (b + 1) _ _ h0 (Nat.pow_lt_pow_right (by decide) (by omega))]
theorem over_bit (n i b : Nat) (hb : b < 32) : dg n i / 2 ^ b % 2 = (n.testBit (32 * i + b)).toNat := by
  have h : (dg n i).testBit b = n.testBit (32 * i + b) := by
    unfold dg
    rw [Nat.testBit_mod_two_pow, Nat.testBit_div_two_pow]
    simp [hb, Nat.add_comm]
  rw [← h, Nat.testBit_eq_decide_div_mod_eq]
  have : dg n i / 2 ^ b % 2 < 2 := Nat.mod_lt _ (by decide)
  by_cases h1 : dg n i / 2 ^ b % 2 = 1
  · simp [h1]
  · simp [h1]; omega

set_option maxRecDepth 100000 in
set_option maxHeartbeats 1000000 in
theorem over_any (n d : Nat) (w : World) (hn : n < 2 ^ 224) (hd0 : 0 < d) (hd : d < 2 ^ 64) :
    Calls Try.prog 92 #[.agg (qA n), .int .u64 d] w fun e w' => e = .returned (.tuple #[.agg (qA (n / d)), .int .u64 (n % d : Nat)]) ∧ Below w.heap.size w w' := by
  have hz : ∀ w, (zeroValue 126).run Try.prog w = .ok (.agg (qA 0)) w := fun w => by
    rw [qA_zero]
    exact (zero_of_info' quart_info) w
  have H0 := Lib.hid (show n / 2 ^ 224 = 0 from Nat.div_eq_of_lt hn)
  have HD := Lib.hid hd
  have HD0 := Lib.hid hd0
  clear hn hd hd0
  go_enter Try.func92, Try.ntmps92
  go_wp2_with fail
  go_loopw [7, 8] (fun rest i wr => ∃ k c : Nat, k ≤ 7 ∧ i = .int .i64 ((k : Int) - 1) ∧ rest = .int .u64 ((n / 2 ^ (32 * k) % d : Nat) : Int) ∧
      wr = (((w.alloc (Obj.cells (qA n) 126)).alloc (Obj.cells (qA 0) 126)).alloc (Obj.cells (qA (n / 2 ^ (32 * k) / d * 2 ^ (32 * k))) 126)).drewN c)
    (fun _ i _ => (intOf i + 1).toNat)
  case atStart => exact ⟨7, 0, by omega, rfl, by rw [H0.out, Nat.zero_mod]; rfl, by rw [H0.out, Nat.zero_div, Nat.zero_mul]; rfl⟩
  case round =>
    obtain ⟨k, c, hk, rfl, rfl, rfl⟩ := hrel
    by_cases hlt : 1 ≤ k
    · obtain ⟨i, rfl⟩ : ∃ i, k = i + 1 := ⟨k - 1, by omega⟩
      have e : (((i + 1 : Nat) : Int) - 1) = (i : Int) := by omega
      rw [e]
      clear e
      have hi : (i : Int) < 7 := by omega
      obtain ⟨wo, hwo⟩ : ∃ wo : World, wo = (((w.alloc (Obj.cells (qA n) 126)).alloc (Obj.cells (qA 0) 126)).alloc (Obj.cells (qA (n / 2 ^ (32 * (i + 1)) / d * 2 ^ (32 * (i + 1)))) 126)).drewN c := ⟨_, rfl⟩
      have Hwo := Lib.hid hwo
      rw [← hwo]
      clear hwo
      go_wp2_with fail
      go_loopw [7, 9] (fun rest bi wr => ∃ k c : Nat, k ≤ 32 ∧ bi = .int .i64 ((k : Int) - 1) ∧ rest = .int .u64 ((n / 2 ^ (32 * i + k) % d : Nat) : Int) ∧
          wr = (((w.alloc (Obj.cells (qA n) 126)).alloc (Obj.cells (qA 0) 126)).alloc (Obj.cells (qA (n / 2 ^ (32 * i + k) / d * 2 ^ (32 * i + k))) 126)).drewN c)
        (fun _ bi _ => (intOf bi + 1).toNat)
      case atStart => exact ⟨32, c, by omega, rfl, rfl, Hwo.out⟩
      case round =>
        clear Hwo
        obtain ⟨k, c, hk2, rfl, rfl, rfl⟩ := hrel
        by_cases hlt2 : 1 ≤ k
        · obtain ⟨b, rfl⟩ : ∃ b, k = b + 1 := ⟨k - 1, by omega⟩
          have e : (((b + 1 : Nat) : Int) - 1) = (b : Int) := by omega
          rw [e]
          clear e
          have hb : (b : Int) < 32 := by omega
          have hi7 : i < 7 := by omega
          have hcell := qA_get n i hi7
          have hsz := qA_size (n / 2 ^ (32 * i + (b + 1)) / d * 2 ^ (32 * i + (b + 1)))
          have ho := qA_at (n / 2 ^ (32 * i + (b + 1)) / d * 2 ^ (32 * i + (b + 1))) i (by rw [hsz]; exact hi7)
          have hq := quot_step n d (32 * i + b) HD0.out
          rw [Nat.add_assoc] at hq
          have hrd := Nat.mod_lt (n / 2 ^ (32 * i + (b + 1))) HD0.out
          generalize n / 2 ^ (32 * i + (b + 1)) % d = r at hq hrd ⊢
          generalize n / 2 ^ (32 * i + (b + 1)) / d = q at hq hsz ho ⊢
          have hbit := over_bit n i b (by omega)
          have hx1 := Bool.toNat_le (n.testBit (32 * i + b))
          have hO := over_or r _ (dg n i) b (by have := HD.out; omega) (dg_lt n i) hbit.symm
          clear hbit
          generalize (n.testBit (32 * i + b)).toNat = x at hq hx1 hO
          obtain ⟨s1, s2, s3⟩ := over_set q i b hi7 (by omega)
          rw [Nat.add_assoc] at s1 s2 s3
          have HS := Lib.hid (qA_set _ _ i _ rfl (fun j _ hj => s3 j hj))
          have hW := over_bor (dg (q * 2 ^ (32 * i + (b + 1))) i) b (by omega) (dg_lt _ _) s2
          rw [← s1] at hW
          have hd64 := HD.out
          have hr64 : 2 * r + x < 2 * d := by omega
          clear s1 s2 s3
          by_cases hA : 2 * r + x < d
          · rw [if_pos hA] at hq
            have hT : ((r : Int) / 9223372036854775808 == 1) = false := by rw [beq_eq_false_iff_ne]; omega
            have e1 : (2 * r + x) % 2 ^ 64 = 2 * r + x := Nat.mod_eq_of_lt (by omega)
            rw [e1] at hO
            have HQ := Lib.hid hq
            have hA' : ((2 * r + x : Nat) : Int) < (d : Int) := by omega
            clear hq e1 hd64 hr64 hA HS hrd hW
            generalize 2 * r + x = r1 at hO HQ hA'
            go_wp2_with fail
            exact ⟨⟨b, c, by omega, rfl, by rw [HQ.out.1], by rw [HQ.out.2, show q * 2 ^ (32 * i + (b + 1)) = 2 * q * 2 ^ (32 * i + b) by rw [← Nat.add_assoc, Nat.pow_succ, Nat.mul_comm 2 q, Nat.mul_assoc, Nat.mul_comm 2]]⟩, by simp [intOf]⟩
          · rw [if_neg hA] at hq
            have hsub : IntKind.u64.wrap ((((2 * r + x) % 2 ^ 64 : Nat) : Int) - (d : Int)) = ((2 * r + x - d : Nat) : Int) := by rw [IntKind.wrap_u64]; omega
            have HQ := Lib.hid hq
            by_cases hT : 2 ^ 63 ≤ r
            · have hT' : ((r : Int) / 9223372036854775808 == 1) = true := by rw [beq_iff_eq]; omega
              clear hq hd64 hr64 hrd hT hA
              generalize (2 * r + x) % 2 ^ 64 = r1 at hO hsub
              generalize 2 * r + x - d = r2 at hsub HQ
              go_wp2_with fail
              go_region
              go_wp2_with fail
              refine ⟨⟨b, c + 1, by omega, rfl, by rw [HQ.out.1], ?_⟩, by simp [intOf]⟩
              rw [HQ.out.2, setCell_drewN, World.setCell_alloc_at _ _ _ _ _ (by simp), HS.out]
            · have hT' : ((r : Int) / 9223372036854775808 == 1) = false := by rw [beq_eq_false_iff_ne]; omega
              have hge : (d : Int) ≤ (((2 * r + x) % 2 ^ 64 : Nat) : Int) := by omega
              clear hq hd64 hr64 hrd hT hA
              generalize (2 * r + x) % 2 ^ 64 = r1 at hO hsub hge
              generalize 2 * r + x - d = r2 at hsub HQ
              go_wp2_with fail
              go_region
              go_wp2_with fail
              refine ⟨⟨b, c + 1, by omega, rfl, by rw [HQ.out.1], ?_⟩, by simp [intOf]⟩
              rw [HQ.out.2, setCell_drewN, World.setCell_alloc_at _ _ _ _ _ (by simp), HS.out]
        · obtain rfl : k = 0 := by omega
          have e : (((0 : Nat) : Int) - 1) = -1 := rfl
          rw [e, Nat.add_zero]
          clear e
          go_wp2_with fail
          go_roundw
          case rel => exact ⟨i, c, by omega, rfl, rfl, rfl⟩
          case measure => simp [intOf]
    · obtain rfl : k = 0 := by omega
      have e : (((0 : Nat) : Int) - 1) = -1 := rfl
      have e2 : n / 2 ^ (32 * 0) / d * 2 ^ (32 * 0) = n / d := by simp
      have e3 : n / 2 ^ (32 * 0) % d = n % d := by simp
      rw [e, e2, e3]
      clear e e2 e3
      have f1 : IsQ ((((w.alloc (Obj.cells (qA n) 126)).alloc (Obj.cells (qA 0) 126)).alloc (Obj.cells (qA (n / d)) 126)).drewN c) (w.heap.size + 1 + 1) (n / d) := by
        show (((w.alloc (Obj.cells (qA n) 126)).alloc (Obj.cells (qA 0) 126)).alloc (Obj.cells (qA (n / d)) 126)).heap[_]? = _
        exact (by repeat (first | (with_reducible refine heap_top _ _ _ ?_; first | (simp; done) | (simp; omega)) | rw [Below.heap_alloc _ _ _ (by first | (simp; done) | (simp; omega))]))
      have f2 : IsQ ((((w.alloc (Obj.cells (qA n) 126)).alloc (Obj.cells (qA 0) 126)).alloc (Obj.cells (qA (n / d)) 126)).drewN c) (w.heap.size + 1) 0 := by
        show (((w.alloc (Obj.cells (qA n) 126)).alloc (Obj.cells (qA 0) 126)).alloc (Obj.cells (qA (n / d)) 126)).heap[_]? = _
        exact (by repeat (first | (with_reducible refine heap_top _ _ _ ?_; first | (simp; done) | (simp; omega)) | rw [Below.heap_alloc _ _ _ (by first | (simp; done) | (simp; omega))]))
      have f3 : Below w.heap.size w ((((w.alloc (Obj.cells (qA n) 126)).alloc (Obj.cells (qA 0) 126)).alloc (Obj.cells (qA (n / d)) 126)).drewN c) :=
        below_drewN ((((Below.refl _ _).alloc (Nat.le_refl _) _).alloc (by simp) _).alloc (by simp; omega) _) c
      generalize (((w.alloc (Obj.cells (qA n) 126)).alloc (Obj.cells (qA 0) 126)).alloc (Obj.cells (qA (n / d)) 126)).drewN c = W at f1 f2 f3 ⊢
      go_wp2_with (first
        | (with_reducible refine wpQ_load rfl (.tmp 6) rfl (w.heap.size + 1 + 1) rfl (n / d) f1 ?_)
        | (with_reducible refine wpQ_store rfl (.tmp 4) (.tmp 47) rfl (w.heap.size + 1) rfl (n / d) 0 rfl f2 ?_; intro w1 hp1))
      exact retQ1 rfl rfl (.int .u64 (n % d : Nat)) rfl hp1.row ⟨rfl, hp1.below _ _ (by omega) f3⟩

end Go.Proofs.Ytnhkecfapohlgaa

/-! package wide's product on seven parts: its contract, whatever the world. -/
namespace Go.Proofs.Ytnhkecfapohlgaa
open Go.RowKit

theorem qA_ext (a b : Nat) (h : ∀ j, j < 7 → dg a j = dg b j) : qA a = qA b := by
  unfold qA; congr 1; funext i; rw [h _ i.isLt]
theorem dg_mod (a j : Nat) (h : j < 7) : dg (a % 2 ^ 224) j = dg a j := by
  unfold dg
  have e : (2 : Nat) ^ 224 = 2 ^ (32 * j) * (2 ^ 32 * 2 ^ (224 - 32 * j - 32)) := by rw [← Nat.pow_add, ← Nat.pow_add]; congr 1; omega
  rw [e, Nat.mod_mul_right_div_self, Nat.mod_mul_right_mod]
theorem qA_mod (a : Nat) : qA (a % 2 ^ 224) = qA a := qA_ext _ _ fun j h => dg_mod a j h
theorem qA_cong (a b : Nat) (h : a % 2 ^ 224 = b % 2 ^ 224) : qA a = qA b := by rw [← qA_mod a, h, qA_mod]

/-- The digit at place j of r + o 2^(32 j); and the number with another digit there. -/
theorem dg_at (r o j : Nat) (hr : r < 2 ^ (32 * j)) : dg (r + o * 2 ^ (32 * j)) j = o % 2 ^ 32 := by
  unfold dg
  rw [Nat.add_mul_div_right _ _ (Nat.two_pow_pos _), Nat.div_eq_of_lt hr, Nat.zero_add]
theorem pow32 (j : Nat) : 2 ^ (32 * (j + 1)) = 2 ^ (32 * j) * 2 ^ 32 := by rw [← Nat.pow_add]; congr 1
theorem digit_low (r x A P C : Nat) (hA : 0 < A) : (r + x * (A * (P * C))) / A % P = r / A % P := by
  have e : x * (A * (P * C)) = A * (P * (C * x)) := by rw [Nat.mul_comm x, Nat.mul_assoc, Nat.mul_assoc]
  rw [e, Nat.add_comm, Nat.mul_add_div hA, Nat.mul_add_mod]
theorem digit_high (r x B P D : Nat) (hr : r < B) : (r + x * B) / (B * (P * D)) = x / P / D := by
  rw [← Nat.div_div_eq_div_mul, ← Nat.div_div_eq_div_mul, Nat.add_mul_div_right _ _ (by omega), Nat.div_eq_of_lt hr, Nat.zero_add]
theorem dg_low' (r x i j : Nat) (h : i < j) : dg (r + x * 2 ^ (32 * j)) i = dg r i := by
  have e : 2 ^ (32 * j) = 2 ^ (32 * i) * (2 ^ 32 * 2 ^ (32 * (j - i - 1))) := by rw [← Nat.pow_add, ← Nat.pow_add]; congr 1; omega
  unfold dg
  rw [e]
  exact digit_low _ _ _ _ _ (Nat.two_pow_pos _)
theorem dg_high' (r x i j : Nat) (h : j < i) (hr : r < 2 ^ (32 * j)) : dg (r + x * 2 ^ (32 * j)) i = x / 2 ^ 32 / 2 ^ (32 * (i - j - 1)) % 2 ^ 32 := by
  have e : 2 ^ (32 * i) = 2 ^ (32 * j) * (2 ^ 32 * 2 ^ (32 * (i - j - 1))) := by rw [← Nat.pow_add, ← Nat.pow_add]; congr 1; omega
  unfold dg
  rw [e, digit_high _ _ _ _ _ hr]
theorem regroup (r v t B P : Nat) : r + v * B + t * (B * P) = r + (v + t * P) * B := by
  rw [Nat.add_mul, Nat.mul_assoc, Nat.mul_comm P, Nat.add_assoc]
theorem top_drop (v t P : Nat) (hv : v < P) : (v + t * P) / P = t ∧ (v + t * P) % P = v := by
  refine ⟨?_, ?_⟩
  · rw [Nat.add_mul_div_right _ _ (by omega), Nat.div_eq_of_lt hv, Nat.zero_add]
  · rw [Nat.add_mul_mod_self_right, Nat.mod_eq_of_lt hv]
theorem qA_digit (r o v j : Nat) (hr : r < 2 ^ (32 * j)) (hv : v < 2 ^ 32) :
    (qA (r + o * 2 ^ (32 * j))).setIfInBounds j (.int .u64 (v : Int)) = qA (r + v * 2 ^ (32 * j) + o / 2 ^ 32 * 2 ^ (32 * (j + 1))) := by
  obtain ⟨d1, d2⟩ := top_drop v (o / 2 ^ 32) (2 ^ 32) hv
  have e : r + v * 2 ^ (32 * j) + o / 2 ^ 32 * 2 ^ (32 * (j + 1)) = r + (v + o / 2 ^ 32 * 2 ^ 32) * 2 ^ (32 * j) := by
    rw [pow32]; exact regroup _ _ _ _ _
  have h1 : dg (r + (v + o / 2 ^ 32 * 2 ^ 32) * 2 ^ (32 * j)) j = v := by rw [dg_at _ _ _ hr, d2]
  have h2 : ∀ i, i < 7 → i ≠ j → dg (r + (v + o / 2 ^ 32 * 2 ^ 32) * 2 ^ (32 * j)) i = dg (r + o * 2 ^ (32 * j)) i := fun i _ hi => by
    rcases Nat.lt_or_ge i j with h | h
    · rw [dg_low' _ _ _ _ h, dg_low' _ _ _ _ h]
    · rw [dg_high' _ _ _ _ (by omega) hr, dg_high' _ _ _ _ (by omega) hr, d1]
  rw [e]
  generalize r + (v + o / 2 ^ 32 * 2 ^ 32) * 2 ^ (32 * j) = M at h1 h2 ⊢
  generalize r + o * 2 ^ (32 * j) = N at h2 ⊢
  exact qA_set N M j (v : Int) (by rw [h1]) h2

/-- One step of adding with a carry: the sum stays. -/
theorem add_step (r c o y x f S j : Nat) (hS : S = c + (o % 2 ^ 32 + y * f)) :
    r + (c + o + (y + 2 ^ 32 * x) * f) * 2 ^ (32 * j) = (r + S % 2 ^ 32 * 2 ^ (32 * j)) + (S / 2 ^ 32 + o / 2 ^ 32 + x * f) * 2 ^ (32 * (j + 1)) := by
  have ho := Nat.div_add_mod o (2 ^ 32)
  have hs := Nat.div_add_mod S (2 ^ 32)
  generalize o % 2 ^ 32 = a at *
  generalize o / 2 ^ 32 = b at *
  generalize S % 2 ^ 32 = v at *
  generalize S / 2 ^ 32 = t at *
  rw [pow32, Nat.add_mul y, Nat.mul_assoc (2 ^ 32) x f]
  generalize y * f = p at *
  generalize x * f = g at *
  have e : c + o + (p + 2 ^ 32 * g) = v + (t + b + g) * 2 ^ 32 := by omega
  rw [e, Nat.add_mul, Nat.mul_assoc, Nat.mul_comm (2 ^ 32)]
  simp only [Nat.add_assoc]
theorem add_lt (r v j : Nat) (hr : r < 2 ^ (32 * j)) (hv : v < 2 ^ 32) : r + v * 2 ^ (32 * j) < 2 ^ (32 * (j + 1)) := by
  rw [pow32, Nat.mul_comm (2 ^ (32 * j))]
  have : (v + 1) * 2 ^ (32 * j) ≤ 2 ^ 32 * 2 ^ (32 * j) := Nat.mul_le_mul_right _ hv
  rw [Nat.add_mul, Nat.one_mul] at this
  omega
theorem mul_lt32 (y f : Nat) (hy : y < 2 ^ 32) (hf : f < 2 ^ 32) : y * f ≤ 18446744065119617025 := Nat.mul_le_mul (show y ≤ 4294967295 by omega) (show f ≤ 4294967295 by omega)

theorem idx2 (x0 x1 : Value) (i : Nat) (hi : i < 2) (w : World) : (Instr.index 132 (.agg #[x0, x1]) (.int .i64 (i : Int))).run Try.prog w = .ok (if i = 0 then x0 else x1) w := by
  have h : i = 0 ∨ i = 1 := by omega
  rcases h with rfl | rfl
  · simp [Instr.index, go_sem]
  · simp [Instr.index, go_sem]
theorem mul_step (n k : Nat) : n / 2 ^ (32 * k) = dg n k + 2 ^ 32 * (n / 2 ^ (32 * (k + 1))) := by
  unfold dg
  rw [pow32, ← Nat.div_div_eq_div_mul, Nat.mod_add_div]

theorem mod_cong (r x O P z : Nat) (h : r + x * P = O + z) : r % P = (O + z) % P := by rw [← h, Nat.add_mul_mod_self_right]
theorem times_next (n m f0 f1 f i O N r z : Nat) (hi : i < 2) (hf : f = if i = 0 then f0 else f1) (hm : m = f0 + f1 * 2 ^ 32) (hO : O % 2 ^ 224 = (n * (if i = 0 then 0 else if i = 1 then f0 else m)) % 2 ^ 224)
    (h : r + z * 2 ^ (32 * 7) = O + n * f * 2 ^ (32 * i)) (o : Nat) (hN : N = r + o * 2 ^ (32 * 7)) : N % 2 ^ 224 = (n * (if i + 1 = 0 then 0 else if i + 1 = 1 then f0 else m)) % 2 ^ 224 := by
  have e0 : (2 : Nat) ^ (32 * 7) = 2 ^ 224 := by congr 1
  rw [e0] at h hN
  have e1 : N % 2 ^ 224 = (O + n * f * 2 ^ (32 * i)) % 2 ^ 224 := by rw [hN, Nat.add_mul_mod_self_right]; exact mod_cong _ _ _ _ _ h
  rw [e1, Nat.add_mod, hO, ← Nat.add_mod]
  have h2 : i = 0 ∨ i = 1 := by omega
  rcases h2 with rfl | rfl
  · simp [hf]
  · have hf' : f = f1 := by simpa using hf
    have e2 : (if 1 + 1 = 0 then 0 else if 1 + 1 = 1 then f0 else m) = m := by simp
    have e3 : (if 1 = 0 then 0 else if 1 = 1 then f0 else m) = f0 := by simp
    rw [e2, e3, hf', hm, Nat.mul_add, Nat.mul_assoc, Nat.mul_one]
theorem add_step0 (r c o S j : Nat) (hS : S = c + o % 2 ^ 32) : r + (c + o) * 2 ^ (32 * j) = (r + S % 2 ^ 32 * 2 ^ (32 * j)) + (S / 2 ^ 32 + o / 2 ^ 32) * 2 ^ (32 * (j + 1)) := by
  have := add_step r c o 0 0 0 S j (by omega)
  simpa using this
theorem more_next (M m f0 f1 f i O N r z : Nat) (hi : i < 2) (hf : f = if i = 0 then f0 else f1) (hm : m = f0 + f1 * 2 ^ 32) (hO : O % 2 ^ 224 = (M + (if i = 0 then 0 else if i = 1 then f0 else m)) % 2 ^ 224)
    (h : r + z * 2 ^ (32 * 7) = O + f * 2 ^ (32 * i)) (o : Nat) (hN : N = r + o * 2 ^ (32 * 7)) : N % 2 ^ 224 = (M + (if i + 1 = 0 then 0 else if i + 1 = 1 then f0 else m)) % 2 ^ 224 := by
  have e0 : (2 : Nat) ^ (32 * 7) = 2 ^ 224 := by congr 1
  rw [e0] at h hN
  have e1 : N % 2 ^ 224 = (O + f * 2 ^ (32 * i)) % 2 ^ 224 := by rw [hN, Nat.add_mul_mod_self_right]; exact mod_cong _ _ _ _ _ h
  rw [e1, Nat.add_mod, hO, ← Nat.add_mod]
  have h2 : i = 0 ∨ i = 1 := by omega
  rcases h2 with rfl | rfl
  · simp [hf]
  · have hf' : f = f1 := by simpa using hf
    have e2 : (if 1 + 1 = 0 then 0 else if 1 + 1 = 1 then f0 else m) = m := by simp
    have e3 : (if 1 = 0 then 0 else if 1 = 1 then f0 else m) = f0 := by simp
    rw [e2, e3, hf', hm, Nat.add_assoc, Nat.mul_one]

set_option maxRecDepth 100000 in
set_option maxHeartbeats 1000000 in
theorem times_any (n m more : Nat) (w : World) (hm : m < 2 ^ 64) (hmore : more < 2 ^ 64) :
    Calls Try.prog 90 #[.agg (qA n), .int .u64 m, .int .u64 more] w fun e w' => e = .returned (.agg (qA (n * m + more))) ∧ Below w.heap.size w w' := by
  have hz : ∀ w, (zeroValue 126).run Try.prog w = .ok (.agg (qA 0)) w := fun w => by
    rw [qA_zero]
    exact (zero_of_info' quart_info) w
  have e1 := and32 m hm
  have e2 := and32 more hmore
  have e3 : (m : Int) / 4294967296 = ((m / 2 ^ 32 : Nat) : Int) := by omega
  have e4 : (more : Int) / 4294967296 = ((more / 2 ^ 32 : Nat) : Int) := by omega
  have F0 := Lib.hid (show m % 2 ^ 32 < 2 ^ 32 from Nat.mod_lt _ (by decide))
  have F1 := Lib.hid (show m / 2 ^ 32 < 2 ^ 32 by omega)
  have F2 := Lib.hid (show m = m % 2 ^ 32 + m / 2 ^ 32 * 2 ^ 32 by omega)
  have G0 := Lib.hid (show more % 2 ^ 32 < 2 ^ 32 from Nat.mod_lt _ (by decide))
  have G1 := Lib.hid (show more / 2 ^ 32 < 2 ^ 32 by omega)
  have G2 := Lib.hid (show more = more % 2 ^ 32 + more / 2 ^ 32 * 2 ^ 32 by omega)
  generalize m % 2 ^ 32 = f0 at *
  generalize m / 2 ^ 32 = f1 at *
  generalize more % 2 ^ 32 = g0 at *
  generalize more / 2 ^ 32 = g1 at *
  have hm0 : 0 ≤ (m : Int) := by omega
  have hm1 : 0 ≤ (more : Int) := by omega
  clear hm hmore
  go_enter Try.func90, Try.ntmps90
  go_wp2_with fail
  go_loopw [21] (fun t wr => ∃ i c O : Nat, i ≤ 2 ∧ t = .int .i64 i ∧ Hid (O % 2 ^ 224 = (n * (if i = 0 then 0 else if i = 1 then f0 else m)) % 2 ^ 224) ∧
      wr = (((w.alloc (Obj.cells (qA n) 126)).alloc (Obj.cells (qA 0) 126)).alloc (Obj.cells (qA O) 126)).drewN c)
    (fun t _ => 2 - (intOf t).toNat)
  case atStart => exact ⟨0, 0, 0, by omega, rfl, rfl, rfl⟩
  case round =>
    obtain ⟨i, c0, O, hi, rfl, HO, rfl⟩ := hrel
    by_cases hlt : i < 2
    · have hi2 : (i : Int) < 2 := by omega
      have hidx := idx2 (.int .u64 (f0 : Int)) (.int .u64 (f1 : Int)) i hlt
      obtain ⟨f, hf⟩ : ∃ f, f = if i = 0 then f0 else f1 := ⟨_, rfl⟩
      have hff : (if i = 0 then Value.int .u64 (f0 : Int) else .int .u64 (f1 : Int)) = .int .u64 (f : Int) := by rw [hf]; split <;> rfl
      rw [hff] at hidx
      have FF := Lib.hid (show f < 2 ^ 32 by rw [hf]; split <;> first | exact F0.out | exact F1.out)
      have HF := Lib.hid hf
      clear hff hf
      obtain ⟨wo, hwo⟩ : ∃ wo : World, wo = (((w.alloc (Obj.cells (qA n) 126)).alloc (Obj.cells (qA 0) 126)).alloc (Obj.cells (qA O) 126)).drewN c0 := ⟨_, rfl⟩
      have Hwo := Lib.hid hwo
      rw [← hwo]
      clear hwo
      go_wp2_with fail
      go_loopw [10, 11] (fun t10 t11 wr => ∃ k r c o g : Nat, k + i ≤ 7 ∧ t11 = .int .i64 k ∧ t10 = .int .u64 c ∧ Hid (c < 2 ^ 32) ∧ Hid (r < 2 ^ (32 * (k + i))) ∧ Hid (r + (c + o + n / 2 ^ (32 * k) * f) * 2 ^ (32 * (k + i)) = O + n * f * 2 ^ (32 * i)) ∧
          wr = (((w.alloc (Obj.cells (qA n) 126)).alloc (Obj.cells (qA 0) 126)).alloc (Obj.cells (qA (r + o * 2 ^ (32 * (k + i)))) 126)).drewN g)
        (fun _ t11 _ => 7 - (intOf t11).toNat)
      case atStart =>
        refine ⟨0, O % 2 ^ (32 * i), 0, O / 2 ^ (32 * i), c0, by omega, rfl, rfl, (by decide : 0 < 2 ^ 32), ?_, ?_, ?_⟩
        · rw [Nat.zero_add]; exact (Nat.mod_lt _ (Nat.two_pow_pos _) : _ < _)
        · show _ = _
          rw [Nat.zero_add, Nat.mul_zero, Nat.pow_zero, Nat.div_one, Nat.zero_add, Nat.add_mul, ← Nat.add_assoc, Nat.mod_add_div']
        · rw [Nat.zero_add, Nat.mod_add_div']; exact Hwo.out
      case round =>
        clear Hwo hidx
        obtain ⟨k, r, c, o, g, hk, rfl, rfl, HC, HR, HT, rfl⟩ := hrel
        by_cases hlt2 : k + i < 7
        · have hk7 : k < 7 := by omega
          have hb1 : (k : Int) + (i : Int) < 7 := by omega
          have hb2 : (k : Int) < 7 := by omega
          have hq := qA_get n k hk7
          have hsz := qA_size (r + o * 2 ^ (32 * (k + i)))
          have ho := qA_at (r + o * 2 ^ (32 * (k + i))) (k + i) (by rw [hsz]; exact hlt2)
          rw [dg_at _ _ _ HR.out] at ho
          have hp := mul_lt32 (dg n k) f (dg_lt n k) FF.out
          have ha : o % 2 ^ 32 < 4294967296 := Nat.mod_lt _ (by decide)
          have hc : c < 4294967296 := HC.out
          obtain ⟨S, hS⟩ : ∃ S, S = c + (o % 2 ^ 32 + dg n k * f) := ⟨_, rfl⟩
          have hcast : (c : Int) + (((o % 2 ^ 32 : Nat) : Int) + (dg n k : Int) * (f : Int)) = (S : Int) := by rw [hS]; simp
          have hS64 : S < 2 ^ 64 := by omega
          have hv := and32 S hS64
          have hcar : (S : Int) / 4294967296 = ((S / 2 ^ 32 : Nat) : Int) := by omega
          have hp1 : (dg n k : Int) * (f : Int) ≤ 18446744065119617025 := by rw [← Int.natCast_mul]; exact Int.ofNat_le.2 hp
          have hp0 : 0 ≤ (dg n k : Int) * (f : Int) := by rw [← Int.natCast_mul]; exact Int.natCast_nonneg _
          have ha' : ((o % 2 ^ 32 : Nat) : Int) < 4294967296 := Int.ofNat_lt.2 ha
          have hS0 : 0 ≤ (S : Int) := Int.natCast_nonneg _
          have HV := Lib.hid (show S % 2 ^ 32 < 2 ^ 32 from Nat.mod_lt _ (by decide))
          have HTT := Lib.hid (show S / 2 ^ 32 < 2 ^ 32 by omega)
          have HADD := Lib.hid (add_step r c o (dg n k) (n / 2 ^ (32 * (k + 1))) f S (k + i) hS)
          rw [← mul_step] at HADD
          have HD := Lib.hid (qA_digit r o (S % 2 ^ 32) (k + i) HR.out HV.out)
          have HLT := Lib.hid (add_lt r (S % 2 ^ 32) (k + i) HR.out HV.out)
          clear hS hS64 hp ha
          generalize S % 2 ^ 32 = v at *
          generalize S / 2 ^ 32 = t at *
          generalize hoa : o % 2 ^ 32 = a at ho hcast ha'
          clear hoa
          go_wp2_with fail
          go_quiet (fail)
          go_wp2_with fail
          refine ⟨⟨k + 1, r + v * 2 ^ (32 * (k + i)), t, o / 2 ^ 32, g + nq, by omega, by go_num, rfl, HTT.out, ?_, ?_, ?_⟩, by simp [intOf]; omega⟩
          · rw [show k + 1 + i = k + i + 1 by omega]; exact HLT.out
          · show _ = _
            rw [show k + 1 + i = k + i + 1 by omega, ← HADD.out]; exact HT.out
          · rw [show k + 1 + i = k + i + 1 by omega, setCell_drewN, World.setCell_alloc_at _ _ _ _ _ (by simp), HD.out]
        · have hb1 : 7 ≤ (k : Int) + (i : Int) := by omega
          have hki : k + i = 7 := by omega
          have HO2 := Lib.hid (times_next n m f0 f1 f i O (r + o * 2 ^ (32 * (k + i))) r _ hlt HF.out F2.out HO.out (by have := HT.out; rwa [hki] at this) o (by rw [hki]))
          generalize r + o * 2 ^ (32 * (k + i)) = N at HO2 ⊢
          clear hki HT HO HR
          go_wp2_with fail
          exact ⟨⟨i + 1, g, N, by omega, by go_num, HO2.out, rfl⟩, by simp [intOf]; omega⟩
    · have hi2 : 2 ≤ (i : Int) := by omega
      have HO' : Hid (O % 2 ^ 224 = (n * m) % 2 ^ 224) := by
        obtain rfl : i = 2 := by omega
        exact HO.out
      clear HO
      go_wp2_with fail
      go_loopw [58] (fun t wr => ∃ i c O : Nat, i ≤ 2 ∧ t = .int .i64 i ∧ Hid (O % 2 ^ 224 = (n * m + (if i = 0 then 0 else if i = 1 then g0 else more)) % 2 ^ 224) ∧
          wr = (((w.alloc (Obj.cells (qA n) 126)).alloc (Obj.cells (qA 0) 126)).alloc (Obj.cells (qA O) 126)).drewN c)
        (fun t _ => 2 - (intOf t).toNat)
      case atStart => exact ⟨0, c0, O, by omega, rfl, HO'.out, rfl⟩
      case round =>
        clear HO'
        obtain ⟨i, c0, O, hi, rfl, HO, rfl⟩ := hrel
        by_cases hlt : i < 2
        · have hi2 : (i : Int) < 2 := by omega
          have hidx := idx2 (.int .u64 (g0 : Int)) (.int .u64 (g1 : Int)) i hlt
          obtain ⟨f, hf⟩ : ∃ f, f = if i = 0 then g0 else g1 := ⟨_, rfl⟩
          have hff : (if i = 0 then Value.int .u64 (g0 : Int) else .int .u64 (g1 : Int)) = .int .u64 (f : Int) := by rw [hf]; split <;> rfl
          rw [hff] at hidx
          have FF := Lib.hid (show f < 2 ^ 32 by rw [hf]; split <;> first | exact G0.out | exact G1.out)
          have HF := Lib.hid hf
          clear hff hf
          obtain ⟨wo, hwo⟩ : ∃ wo : World, wo = (((w.alloc (Obj.cells (qA n) 126)).alloc (Obj.cells (qA 0) 126)).alloc (Obj.cells (qA O) 126)).drewN c0 := ⟨_, rfl⟩
          have Hwo := Lib.hid hwo
          rw [← hwo]
          clear hwo
          go_wp2_with fail
          go_loopw [14, 15] (fun t14 t15 wr => ∃ k r c o g : Nat, k ≤ 7 ∧ t15 = .int .i64 k ∧ t14 = .int .u64 c ∧ Hid (c < 2 ^ 32) ∧ Hid (r < 2 ^ (32 * k)) ∧ Hid (r + (c + o) * 2 ^ (32 * k) = O + f * 2 ^ (32 * i)) ∧
              wr = (((w.alloc (Obj.cells (qA n) 126)).alloc (Obj.cells (qA 0) 126)).alloc (Obj.cells (qA (r + o * 2 ^ (32 * k))) 126)).drewN g)
            (fun _ t15 _ => 7 - (intOf t15).toNat)
          case atStart =>
            refine ⟨i, O % 2 ^ (32 * i), f, O / 2 ^ (32 * i), c0, by omega, rfl, rfl, FF.out, (Nat.mod_lt _ (Nat.two_pow_pos _) : _ < _), ?_, ?_⟩
            · show _ = _
              rw [Nat.add_comm f, Nat.add_mul, ← Nat.add_assoc, Nat.mod_add_div']
            · rw [Nat.mod_add_div']; exact Hwo.out
          case round =>
            clear Hwo hidx
            obtain ⟨k, r, c, o, g, hk, rfl, rfl, HC, HR, HT, rfl⟩ := hrel
            by_cases hlt2 : k < 7
            · have hb2 : (k : Int) < 7 := by omega
              have hsz := qA_size (r + o * 2 ^ (32 * k))
              have ho := qA_at (r + o * 2 ^ (32 * k)) k (by rw [hsz]; exact hlt2)
              rw [dg_at _ _ _ HR.out] at ho
              have ha : o % 2 ^ 32 < 4294967296 := Nat.mod_lt _ (by decide)
              have hc : c < 4294967296 := HC.out
              obtain ⟨S, hS⟩ : ∃ S, S = c + o % 2 ^ 32 := ⟨_, rfl⟩
              have hcast : (c : Int) + ((o % 2 ^ 32 : Nat) : Int) = (S : Int) := by rw [hS]; simp
              have hS64 : S < 2 ^ 64 := by omega
              have hv := and32 S hS64
              have hcar : (S : Int) / 4294967296 = ((S / 2 ^ 32 : Nat) : Int) := by omega
              have ha' : ((o % 2 ^ 32 : Nat) : Int) < 4294967296 := Int.ofNat_lt.2 ha
              have hS0 : 0 ≤ (S : Int) := Int.natCast_nonneg _
              have HV := Lib.hid (show S % 2 ^ 32 < 2 ^ 32 from Nat.mod_lt _ (by decide))
              have HTT := Lib.hid (show S / 2 ^ 32 < 2 ^ 32 by omega)
              have HADD := Lib.hid (add_step0 r c o S k hS)
              have HD := Lib.hid (qA_digit r o (S % 2 ^ 32) k HR.out HV.out)
              have HLT := Lib.hid (add_lt r (S % 2 ^ 32) k HR.out HV.out)
              clear hS hS64 ha
              generalize S % 2 ^ 32 = v at *
              generalize S / 2 ^ 32 = t at *
              generalize hoa : o % 2 ^ 32 = a at ho hcast ha'
              clear hoa
              go_wp2_with fail
              refine ⟨⟨k + 1, r + v * 2 ^ (32 * k), t, o / 2 ^ 32, g, by omega, by go_num, rfl, HTT.out, HLT.out, ?_, ?_⟩, by simp [intOf]; omega⟩
              · show _ = _
                rw [← HADD.out]; exact HT.out
              · rw [setCell_drewN, World.setCell_alloc_at _ _ _ _ _ (by simp), HD.out]
            · have hb1 : 7 ≤ (k : Int) := by omega
              have hki : k = 7 := by omega
              have HO2 := Lib.hid (more_next (n * m) more g0 g1 f i O (r + o * 2 ^ (32 * k)) r _ hlt HF.out G2.out HO.out (by have := HT.out; rwa [hki] at this) o (by rw [hki]))
              generalize r + o * 2 ^ (32 * k) = N at HO2 ⊢
              clear hki HT HO HR
              go_wp2_with fail
              exact ⟨⟨i + 1, g, N, by omega, by go_num, HO2.out, rfl⟩, by simp [intOf]; omega⟩
        · have hi2 : 2 ≤ (i : Int) := by omega
          have HN : Hid (qA O = qA (n * m + more)) := by
            obtain rfl : i = 2 := by omega
            exact qA_cong _ _ HO.out
          clear HO
          have f1 : IsQ ((((w.alloc (Obj.cells (qA n) 126)).alloc (Obj.cells (qA 0) 126)).alloc (Obj.cells (qA O) 126)).drewN c0) (w.heap.size + 1 + 1) O := by
            show (((w.alloc (Obj.cells (qA n) 126)).alloc (Obj.cells (qA 0) 126)).alloc (Obj.cells (qA O) 126)).heap[_]? = _
            exact (by repeat (first | (with_reducible refine heap_top _ _ _ ?_; first | (simp; done) | (simp; omega)) | rw [Below.heap_alloc _ _ _ (by first | (simp; done) | (simp; omega))]))
          have f2 : IsQ ((((w.alloc (Obj.cells (qA n) 126)).alloc (Obj.cells (qA 0) 126)).alloc (Obj.cells (qA O) 126)).drewN c0) (w.heap.size + 1) 0 := by
            show (((w.alloc (Obj.cells (qA n) 126)).alloc (Obj.cells (qA 0) 126)).alloc (Obj.cells (qA O) 126)).heap[_]? = _
            exact (by repeat (first | (with_reducible refine heap_top _ _ _ ?_; first | (simp; done) | (simp; omega)) | rw [Below.heap_alloc _ _ _ (by first | (simp; done) | (simp; omega))]))
          have f3 : Below w.heap.size w ((((w.alloc (Obj.cells (qA n) 126)).alloc (Obj.cells (qA 0) 126)).alloc (Obj.cells (qA O) 126)).drewN c0) :=
            below_drewN ((((Below.refl _ _).alloc (Nat.le_refl _) _).alloc (by simp) _).alloc (by simp; omega) _) c0
          generalize (((w.alloc (Obj.cells (qA n) 126)).alloc (Obj.cells (qA 0) 126)).alloc (Obj.cells (qA O) 126)).drewN c0 = W at f1 f2 f3 ⊢
          go_wp2_with (first
            | (with_reducible refine wpQ_load rfl (.tmp 7) rfl (w.heap.size + 1 + 1) rfl O f1 ?_)
            | (with_reducible refine wpQ_store rfl (.tmp 6) (.tmp 80) rfl (w.heap.size + 1) rfl O 0 rfl f2 ?_; intro w1 hp1))
          exact retQ rfl rfl hp1.row ⟨by rw [HN.out], hp1.below _ _ (by omega) f3⟩

end Go.Proofs.Ytnhkecfapohlgaa

/-! The functions of mainsheetref03 on rows of 256 bits: their contracts, whatever the world. -/
namespace Go.Proofs.Ytnhkecfapohlgaa
open Go.RowKit

theorem bits_info : (Try.prog.info? 111).map (fun i => (i.zero, i.size)) = some (some (.agg (Array.replicate 256 (.bool false))), 256) := by kernel_rfl
theorem bits_zero (w : World) : (zeroValue 111).run Try.prog w = .ok (.agg (bA 0)) w := by
  rw [bA_zero]; exact (zero_of_info bits_info).1 w
theorem bits_size (n : Nat) : (Try.prog.info? 111).map (·.size) = some (bA n).size := by
  rw [bA_size]; exact (zero_of_info bits_info).2

section
variable {ops : Array Oper} {rest : List Oper} {o : Oper} {a : Act} {w : World} {Q : Exit → Act → World → Prop}
/-- A row of bits is read whole. -/
theorem wpB_load (hgd : o.guard = none) (x : Operand) (ho : o.op = .load 111 x) (g : Nat) (hx : a.eval x = .pointer (some ⟨g, 0, none⟩)) (n : Nat)
    (hg : w.heap[g]? = some (.cells (bA n) 111 (0, 0))) (h : wpList Try.prog ops Q rest (a.put o.dst (.agg (bA n))) w) : wpList Try.prog ops Q (o :: rest) a w :=
  wpList_load_row hgd _ x ho g hx _ _ _ _ hg Try.underlying111 rfl (bits_size n) h
/-- A row of bits is written whole. -/
theorem wpB_store (hgd : o.guard = none) (x y : Operand) (ho : o.op = .store 111 x y) (g : Nat) (hx : a.eval x = .pointer (some ⟨g, 0, none⟩)) (n m : Nat) (hy : a.eval y = .agg (bA n))
    (hg : w.heap[g]? = some (.cells (bA m) 111 (0, 0)))
    (h : ∀ w1 : World, w1.heap[g]? = some (.cells (bA n) 111 (0, 0)) → (∀ k, k ≠ g → w1.heap[k]? = w.heap[k]?) → (∀ B w0, B ≤ g → Below B w0 w → Below B w0 w1) → w1.heap.size = w.heap.size →
      wpList Try.prog ops Q rest (a.put o.dst undef) w1) : wpList Try.prog ops Q (o :: rest) a w :=
  wpList_store_row hgd _ x y ho g _ hx hy _ _ hg (bits_size n) (by rw [bA_size, bA_size]) (bA_oneCell n)
    (h _ (setRow_heap w g _ _ _ _ hg) (fun k hk => setRow_other w g k _ hk) (fun _ _ hB hb => below_setRow hb hB _) (by simp))
/-- A result that is a row of bits in a cell of its own. -/
theorem bits_ret {fn : Func} {p : Tmp} {R : Ending → World → Prop} {tmps : Array Value} (h : fn.results = #[.cell p 111]) (g n : Nat)
    (hp : tmps.getD p undef = .pointer (some ⟨g, 0, none⟩)) (hg : w.heap[g]? = some (.cells (bA n) 111 (0, 0))) (hR : R (.returned (.agg (bA n))) w) :
    bodyPost Try.prog fn R .ret { tmps, defers := [] } w :=
  bodyPost_ret (results_cell_row h tmps w g _ _ _ _ hp hg Try.underlying111 rfl (bits_size n)) rfl hR
end

set_option maxRecDepth 100000 in
set_option maxHeartbeats 400000 in
theorem sum_any (a b : Nat) (w : World) :
    Calls Try.prog 86 #[.agg (bA a), .agg (bA b)] w fun e w' => e = .returned (.agg (bA (a + b))) ∧ Below w.heap.size w w' := by
  have hz := bits_zero
  go_enter Try.func86, Try.ntmps86
  go_wp2_with fail
  go_loopw [6, 7] (fun c i wr => ∃ k : Nat, k ≤ 256 ∧ i = .int .i64 k ∧ c = .bool (decide (2 ^ k ≤ sAt a b k)) ∧
      wr = (((w.alloc (Obj.cells (bA a) 111)).alloc (Obj.cells (bA b) 111)).alloc (Obj.cells (bA 0) 111)).alloc (Obj.cells (bA (sAt a b k % 2 ^ k)) 111))
    (fun _ i _ => 256 - (intOf i).toNat)
  case atStart => exact ⟨0, by omega, rfl, by simp [sAt, Nat.mod_one], by simp [sAt, Nat.mod_one]⟩
  case round =>
    obtain ⟨k, hk, rfl, rfl, rfl⟩ := hrel
    by_cases hlt : k < 256
    · have hlt' : (k : Int) < 256 := by omega
      have hA := bA_get a k hlt
      have hB := bA_get b k hlt
      have hS := bA_size (sAt a b k % 2 ^ k)
      obtain ⟨x, hx⟩ : ∃ x, a.testBit k = x := ⟨_, rfl⟩
      obtain ⟨y, hy⟩ : ∃ y, b.testBit k = y := ⟨_, rfl⟩
      obtain ⟨c, hc⟩ : ∃ c, decide (2 ^ k ≤ sAt a b k) = c := ⟨_, rfl⟩
      rw [hx] at hA; rw [hy] at hB; rw [hc]
      have hs := sum_step a b k (x.toNat + y.toNat + c.toNat) (by rw [hx, hy, hc])
      have hm' : sAt a b k % 2 ^ k < 2 ^ k := Nat.mod_lt _ (Nat.two_pow_pos k)
      clear hx hy hc
      generalize sAt a b k % 2 ^ k = m at hS hs hm' ⊢
      have Hs := Lib.hid hs; clear hs
      have Hm := Lib.hid hm'; clear hm'
      cases x <;> cases y <;> cases c
      all_goals
        go_wp2_with fail
        exact ⟨⟨k + 1, by omega, by go_num, by rw [Hs.out.2]; rfl, by rw [Hs.out.1, bA_set _ _ _ Hm.out]; rfl⟩, by simp [intOf]; omega⟩
    · have hlt' : 256 ≤ (k : Int) := by omega
      have e : bA (sAt a b k % 2 ^ k) = bA (a + b) := by
        obtain rfl : k = 256 := by omega
        rw [sAt, ← Nat.add_mod, bA_mod]
      rw [e]
      clear e
      generalize decide (2 ^ k ≤ sAt a b k) = c
      go_wp2_with (first
        | (with_reducible refine wpB_load rfl (.tmp 5) rfl (w.heap.size + 1 + 1 + 1) rfl (a + b) (by repeat (first | (with_reducible refine heap_top _ _ _ ?_; first | (simp; done) | (simp; omega)) | rw [Below.heap_alloc _ _ _ (by first | (simp; done) | (simp; omega))])) ?_)
        | (with_reducible refine wpB_store rfl (.tmp 4) (.tmp 33) rfl (w.heap.size + 1 + 1) rfl (a + b) 0 rfl (by repeat (first | (with_reducible refine heap_top _ _ _ ?_; first | (simp; done) | (simp; omega)) | rw [Below.heap_alloc _ _ _ (by first | (simp; done) | (simp; omega))])) ?_; intro w1 h1 h2 h3 h4))
      refine bits_ret (g := w.heap.size + 1 + 1) (n := a + b) rfl rfl h1 ⟨rfl, ?_⟩
      exact h3 _ _ (by omega) (((((Below.refl _ _).alloc (by simp) _).alloc (by simp) _).alloc (by simp; omega) _).alloc (by simp; omega) _)
end Go.Proofs.Ytnhkecfapohlgaa

/-! More of mainsheetref03's functions on rows of 256 bits: their contracts, whatever the world. -/
namespace Go.Proofs.Ytnhkecfapohlgaa
open Go.RowKit

set_option maxRecDepth 100000 in
set_option maxHeartbeats 400000 in
theorem twice_any (a : Nat) (w : World) :
    Calls Try.prog 85 #[.agg (bA a)] w fun e w' => e = .returned (.agg (bA (2 * a))) ∧ Below w.heap.size w w' := by
  have hz := bits_zero
  go_enter Try.func85, Try.ntmps85
  go_wp2_with fail
  go_loopw [4] (fun i wr => ∃ k : Nat, 1 ≤ k ∧ k ≤ 256 ∧ i = .int .i64 k ∧
      wr = ((w.alloc (Obj.cells (bA a) 111)).alloc (Obj.cells (bA 0) 111)).alloc (Obj.cells (bA ((2 * a) % 2 ^ k)) 111))
    (fun i _ => 256 - (intOf i).toNat)
  case atStart => exact ⟨1, by omega, by omega, rfl, by simp⟩
  case round =>
    obtain ⟨k, hk1, hk, rfl, rfl⟩ := hrel
    by_cases hlt : k < 256
    · have hlt' : (k : Int) < 256 := by omega
      have hk1' : 1 ≤ (k : Int) := by omega
      have hA := bA_get a (k - 1) (by omega)
      have hS := bA_size ((2 * a) % 2 ^ k)
      have Hs := Lib.hid (twice_step a k hk1)
      have hm' : (2 * a) % 2 ^ k < 2 ^ k := Nat.mod_lt _ (Nat.two_pow_pos k)
      generalize a.testBit (k - 1) = x at hA Hs
      have Hm := Lib.hid hm'; clear hm'
      go_wp2_with fail
      exact ⟨⟨k + 1, by omega, by omega, by go_num, by rw [Hs.out, bA_set _ _ _ Hm.out]⟩, by simp [intOf]; omega⟩
    · have hlt' : 256 ≤ (k : Int) := by omega
      have e : bA ((2 * a) % 2 ^ k) = bA (2 * a) := by
        obtain rfl : k = 256 := by omega
        rw [bA_mod]
      rw [e]
      clear e
      go_wp2_with (first
        | (with_reducible refine wpB_load rfl (.tmp 3) rfl (w.heap.size + 1 + 1) rfl (2 * a) (by repeat (first | with_reducible exact heap_top _ _ _ (by simp) | rw [Below.heap_alloc _ _ _ (by simp)] | rw [Below.heap_alloc _ _ _ (by simp; omega)])) ?_)
        | (with_reducible refine wpB_store rfl (.tmp 2) (.tmp 15) rfl (w.heap.size + 1) rfl (2 * a) 0 rfl (by repeat (first | with_reducible exact heap_top _ _ _ (by simp) | rw [Below.heap_alloc _ _ _ (by simp)] | rw [Below.heap_alloc _ _ _ (by simp; omega)])) ?_; intro w1 h1 h2 h3 h4))
      refine bits_ret (g := w.heap.size + 1) (n := 2 * a) rfl rfl h1 ⟨rfl, ?_⟩
      exact h3 _ _ (by omega) ((((Below.refl _ _).alloc (by simp) _).alloc (by simp) _).alloc (by simp; omega) _)

set_option maxRecDepth 100000 in
set_option maxHeartbeats 400000 in
theorem less_any (a b : Nat) (w : World) (ha : a < 2 ^ 256) (hb : b < 2 ^ 256) :
    Calls Try.prog 76 #[.agg (bA a), .agg (bA b)] w fun e w' => e = .returned (.bool (decide (a < b))) ∧ Below w.heap.size w w' := by
  have Hab := Lib.hid (show a / 2 ^ 256 = b / 2 ^ 256 by rw [Nat.div_eq_of_lt ha, Nat.div_eq_of_lt hb])
  clear ha hb
  go_enter Try.func76, Try.ntmps76
  go_wp2_with fail
  go_loopw [5] (fun i wr => ∃ k : Nat, k ≤ 256 ∧ i = .int .i64 ((k : Int) - 1) ∧ Hid (a / 2 ^ k = b / 2 ^ k) ∧
      ∃ n, wr = ((w.alloc (Obj.cells (bA a) 111)).alloc (Obj.cells (bA b) 111)).drewN n)
    (fun i _ => (intOf i + 1).toNat)
  case atStart => exact ⟨256, by omega, rfl, Hab, 0, rfl⟩
  case round =>
    obtain ⟨k, hk, rfl, Hk, n, rfl⟩ := hrel
    by_cases hlt : 1 ≤ k
    · obtain ⟨j, rfl⟩ : ∃ j, k = j + 1 := ⟨k - 1, by omega⟩
      have e : (((j + 1 : Nat) : Int) - 1) = (j : Int) := by omega
      rw [e]
      clear e
      have hj : (j : Int) < 256 := by omega
      have hA := bA_get a j (by omega)
      have hB := bA_get b j (by omega)
      have HS := Lib.hid (less_stop a b j Hk.out)
      have HG := Lib.hid (less_go a b j Hk.out)
      clear Hk
      generalize a.testBit j = x at hA HS HG
      generalize b.testBit j = y at hB HS HG
      cases x <;> cases y
      all_goals
        go_wp2_with fail
        go_quiet (fail)
        go_wp2_with fail
      · exact ⟨⟨j, by omega, rfl, HG.out trivial, _, rfl⟩, by simp [intOf]⟩
      · go_ret
        exact ⟨by rw [HS.out (by simp)]; rfl, below_drewN (((Below.refl _ _).alloc (Nat.le_refl _) _).alloc (by simp) _) _⟩
      · go_ret
        exact ⟨by rw [HS.out (by simp)]; rfl, below_drewN (((Below.refl _ _).alloc (Nat.le_refl _) _).alloc (by simp) _) _⟩
      · exact ⟨⟨j, by omega, rfl, HG.out trivial, _, rfl⟩, by simp [intOf]⟩
    · obtain rfl : k = 0 := by omega
      have hd : decide (a < b) = false := by simpa using (show ¬ a < b by have := Hk.out; simp at this; omega)
      have Hd := Lib.hid hd; clear hd
      have e : (((0 : Nat) : Int) - 1) = -1 := rfl
      rw [e]
      clear Hk e
      go_wp2_with fail
      go_ret
      exact ⟨by rw [Hd.out]; rfl, below_drewN (((Below.refl _ _).alloc (Nat.le_refl _) _).alloc (by simp) _) _⟩
end Go.Proofs.Ytnhkecfapohlgaa

/-! mainsheetref03's product and quotient on rows of 256 bits: their contracts, whatever the world. -/
namespace Go.Proofs.Ytnhkecfapohlgaa
open Go.RowKit

section
variable {ops : Array Oper} {rest : List Oper} {o : Oper} {a : Act} {w : World} {Q : Exit → Act → World → Prop}
end

/-- A block of bits in a world. -/
@[reducible] def IsB (w : World) (g n : Nat) : Prop := w.heap[g]? = some (.cells (bA n) 111 (0, 0))

set_option maxRecDepth 100000 in
set_option maxHeartbeats 400000 in
theorem prod_any (a m : Nat) (w : World) (hm : m < 2 ^ 64) :
    Calls Try.prog 74 #[.agg (bA a), .int .u64 m] w fun e w' => e = .returned (.agg (bA (a * m))) ∧ Below w.heap.size w w' := by
  have hz := bits_zero
  have H0 := Lib.hid (show m / 2 ^ 64 = 0 from Nat.div_eq_of_lt hm)
  have hm0 : 0 ≤ (m : Int) := by omega
  clear hm
  go_enter Try.func74, Try.ntmps74
  go_wp2_with fail
  go_loopw [6] (fun i wr => ∃ k : Nat, k ≤ 64 ∧ i = .int .i64 ((k : Int) - 1) ∧ IsB wr w.heap.size a ∧ IsB wr (w.heap.size + 1) 0 ∧ IsB wr (w.heap.size + 1 + 1) (a * (m / 2 ^ k)) ∧ Below w.heap.size w wr ∧ w.heap.size + 1 + 1 < wr.heap.size)
    (fun i _ => (intOf i + 1).toNat)
  case atStart =>
    refine ⟨64, by omega, rfl, ?_, ?_, ?_, ?_, by simp⟩
    · unfold IsB; exact (by repeat (first | (with_reducible refine heap_top _ _ _ ?_; first | (simp; done) | (simp; omega)) | rw [Below.heap_alloc _ _ _ (by first | (simp; done) | (simp; omega))]))
    · unfold IsB; exact (by repeat (first | (with_reducible refine heap_top _ _ _ ?_; first | (simp; done) | (simp; omega)) | rw [Below.heap_alloc _ _ _ (by first | (simp; done) | (simp; omega))]))
    · rw [H0.out, Nat.mul_zero]; unfold IsB; exact (by repeat (first | (with_reducible refine heap_top _ _ _ ?_; first | (simp; done) | (simp; omega)) | rw [Below.heap_alloc _ _ _ (by first | (simp; done) | (simp; omega))]))
    · exact (((Below.refl _ _).alloc (Nat.le_refl _) _).alloc (by simp) _).alloc (by simp; omega) _
  case round =>
    obtain ⟨k, hk, rfl, hA, hR, hX, hbel, hsz⟩ := hrel
    by_cases hlt : 1 ≤ k
    · obtain ⟨j, rfl⟩ : ∃ j, k = j + 1 := ⟨k - 1, by omega⟩
      have e : (((j + 1 : Nat) : Int) - 1) = (j : Int) := by omega
      rw [e]
      clear e
      have hj : (j : Int) < 64 := by omega
      have HP := Lib.hid (prod_step a m j)
      have ht := bit_tmod m j
      generalize a * (m / 2 ^ (j + 1)) = X at hX HP
      generalize m.testBit j = x at HP ht
      cases x
      all_goals go_wp2_with (first
        | (with_reducible refine wpB_load rfl (.tmp 5) rfl (w.heap.size + 1 + 1) rfl _ (by with_reducible assumption) ?_)
        | (with_reducible refine wpB_load rfl (.tmp 2) rfl (w.heap.size) rfl _ (by with_reducible assumption) ?_)
        | (with_reducible refine wpB_store rfl (.tmp 5) (.tmp 12) rfl (w.heap.size + 1 + 1) rfl (2 * X) X rfl (by with_reducible assumption) ?_; intro w2 g1 g2 g3 g4; have hA2 := (g2 w.heap.size (by omega)).trans hA1; have hR2 := (g2 (w.heap.size + 1) (by omega)).trans hR1; have hbel2 := g3 _ _ (by omega) hbel1; have hsz2 : w.heap.size + 1 + 1 < w2.heap.size := by omega)
        | (go_at_call 85; refine (twice_any _ _).mono ?_; rintro e w1 ⟨rfl, hb1⟩; have hA1 := (hb1.block _ (by omega)).trans hA; have hR1 := (hb1.block _ (by omega)).trans hR; have hX1 := (hb1.block _ (by omega)).trans hX; have hbel1 := hbel.trans (hb1.mono (by omega)); have hsz1 : w.heap.size + 1 + 1 < w1.heap.size := by have := hb1.size; omega)
        | (with_reducible refine wpB_store rfl (.tmp 5) (.tmp 21) rfl (w.heap.size + 1 + 1) rfl (2 * X + a) (2 * X) rfl (by with_reducible assumption) ?_; intro w4 k1 k2 k3 k4; have hA4 := (k2 w.heap.size (by omega)).trans hA3; have hR4 := (k2 (w.heap.size + 1) (by omega)).trans hR3; have hbel4 := k3 _ _ (by omega) hbel3; have hsz4 : w.heap.size + 1 + 1 < w4.heap.size := by omega)
        | (go_at_call 86; refine (sum_any _ _ _).mono ?_; rintro e w3 ⟨rfl, hb3⟩; have hA3 := (hb3.block _ (by omega)).trans hA2; have hR3 := (hb3.block _ (by omega)).trans hR2; have hX3 := (hb3.block _ (by omega)).trans g1; have hbel3 := hbel2.trans (hb3.mono (by omega)); have hsz3 : w.heap.size + 1 + 1 < w3.heap.size := by have := hb3.size; omega))
      · exact ⟨⟨j, by omega, rfl, hA2, hR2, by rw [HP.out]; exact g1, hbel2, hsz2⟩, by simp [intOf]⟩
      · exact ⟨⟨j, by omega, rfl, hA4, hR4, by rw [HP.out]; exact k1, hbel4, hsz4⟩, by simp [intOf]⟩
    · obtain rfl : k = 0 := by omega
      have e : (((0 : Nat) : Int) - 1) = -1 := rfl
      rw [e]
      have e2 : a * (m / 2 ^ 0) = a * m := by simp
      rw [e2] at hX
      clear e e2
      go_wp2_with (first
        | (with_reducible refine wpB_load rfl (.tmp 5) rfl (w.heap.size + 1 + 1) rfl (a * m) hX ?_)
        | (with_reducible refine wpB_store rfl (.tmp 4) (.tmp 22) rfl (w.heap.size + 1) rfl (a * m) 0 rfl hR ?_; intro w1 h1 h2 h3 h4))
      refine bits_ret (g := w.heap.size + 1) (n := a * m) rfl rfl h1 ⟨rfl, ?_⟩
      exact h3 _ _ (by omega) hbel
end Go.Proofs.Ytnhkecfapohlgaa

/-! mainsheetref03's quotient on rows of 256 bits: its contract, whatever the world. -/
namespace Go.Proofs.Ytnhkecfapohlgaa
open Go.RowKit

section
variable {ops : Array Oper} {C : (Nat → Bool) → World → Prop} {Q : Act → Prop} {o : Oper} {rest : List Oper} {i : Nat} {a : Act}
end

/-- The six blocks of the quotient's walk, in a world. -/
structure QW (B : Nat) (w0 : World) (a d out rest : Nat) (w : World) : Prop where
  a : IsB w B a
  d : IsB w (B + 1) d
  q0 : IsB w (B + 1 + 1) 0
  r0 : IsB w (B + 1 + 1 + 1) 0
  out : IsB w (B + 1 + 1 + 1 + 1) out
  rest : IsB w (B + 1 + 1 + 1 + 1 + 1) rest
  below : Below B w0 w
  size : B + 1 + 1 + 1 + 1 + 1 < w.heap.size

theorem QW.kept {B : Nat} {w0 w w1 : World} {a d out rest : Nat} (h : QW B w0 a d out rest w) (hb : Below w.heap.size w w1) : QW B w0 a d out rest w1 := by
  have hs := h.size
  have hb1 := hb.size
  exact ⟨(hb.block _ (by omega)).trans h.a, (hb.block _ (by omega)).trans h.d, (hb.block _ (by omega)).trans h.q0, (hb.block _ (by omega)).trans h.r0, (hb.block _ (by omega)).trans h.out,
    (hb.block _ (by omega)).trans h.rest, h.below.trans (hb.mono (by omega)), by omega⟩
end Go.Proofs.Ytnhkecfapohlgaa

/-! mainsheetref03's Of, Number and Scaled: their contracts, whatever the world. -/
namespace Go.Proofs.Ytnhkecfapohlgaa
open Go.RowKit

/-- The bits of a number's two halves, so many of each. -/
def ofAt (h l k : Nat) : Nat → Bool := fun j => if j < 64 then decide (j < k) && l.testBit j else decide (j - 64 < k) && h.testBit (j - 64)
theorem ofAt_zero (h l : Nat) : bF (ofAt h l 0) = bA 0 := by
  rw [bA_bF]; refine bF_ext _ _ fun k _ => ?_
  simp [ofAt]
theorem ofAt_step (h l k : Nat) (hk : k < 64) : ((bF (ofAt h l k)).setIfInBounds k (.bool (l.testBit k))).setIfInBounds (64 + k) (.bool (h.testBit k)) = bF (ofAt h l (k + 1)) := by
  rw [bF_set (ofAt h l k) (fun j => if j = k then l.testBit k else ofAt h l k j) k _ (by simp) (fun j _ hj => by simp [hj])]
  refine bF_set _ _ _ _ ?_ fun j _ hj => ?_
  · unfold ofAt; rw [if_neg (by omega), show 64 + k - 64 = k by omega]; simp
  · unfold ofAt
    by_cases h1 : j < 64
    · rw [if_pos h1, if_pos h1]
      by_cases h2 : j = k
      · subst h2; simp
      · simp only [h2, if_false]; congr 1; rw [decide_eq_decide]; omega
    · rw [if_neg h1, if_neg (by omega), if_neg h1]; congr 1; rw [decide_eq_decide]; omega
theorem ofAt_end (h l : Nat) (hl : l < 2 ^ 64) (hh : h < 2 ^ 64) : bF (ofAt h l 64) = bA (h * 2 ^ 64 + l) := by
  rw [bA_bF]; refine bF_ext _ _ fun k _ => ?_
  rw [Nat.mul_comm, Nat.testBit_two_pow_mul_add _ hl]
  unfold ofAt
  by_cases h1 : k < 64
  · simp [h1]
  · simp only [h1, if_false]
    by_cases h2 : k - 64 < 64
    · simp [h2]
    · have : h.testBit (k - 64) = false := Nat.testBit_lt_two_pow (Nat.lt_of_lt_of_le hh (Nat.pow_le_pow_right (by omega) (by omega)))
      simp [this]

set_option maxRecDepth 100000 in
set_option maxHeartbeats 400000 in
theorem of_any (h l n : Nat) (w : World) (hh : h < 2 ^ 64) (hl : l < 2 ^ 64) (hn : h * 2 ^ 64 + l = n) :
    Calls Try.prog 75 #[.agg #[.int .u64 h, .int .u64 l]] w fun e w' => e = .returned (.agg (bA n)) ∧ Below w.heap.size w w' := by
  have hz := bits_zero
  have HE := Lib.hid (ofAt_end h l hl hh)
  rw [hn] at HE
  clear hn
  have hh0 : 0 ≤ (h : Int) := by omega
  have hl0 : 0 ≤ (l : Int) := by omega
  clear hh hl
  go_enter Try.func75, Try.ntmps75
  go_wp2_with fail
  go_loopw [4] (fun i wr => ∃ k : Nat, k ≤ 64 ∧ i = .int .i64 k ∧
      wr = ((w.alloc (Obj.cells #[.int .u64 h, .int .u64 l] 31)).alloc (Obj.cells (bA 0) 111)).alloc (Obj.cells (bF (ofAt h l k)) 111))
    (fun i _ => 64 - (intOf i).toNat)
  case atStart => exact ⟨0, by omega, rfl, by rw [ofAt_zero]⟩
  case round =>
    obtain ⟨k, hk, rfl, rfl⟩ := hrel
    by_cases hlt : k < 64
    · have hlt' : (k : Int) < 64 := by omega
      have hS := bF_size (ofAt h l k)
      have HS := Lib.hid (ofAt_step h l k hlt)
      have e1 := bit_tmod l k
      have e2 := bit_tmod h k
      generalize l.testBit k = x at HS e1
      generalize h.testBit k = y at HS e2
      generalize ofAt h l k = f at HS hS ⊢
      have hlt2 : (64 : Int) + k < 256 := by omega
      have hlt3 : (k : Int) < 256 := by omega
      have hlt4 : k < 256 := by omega
      have hlt5 : 64 + k < 256 := by omega
      go_wp2_with fail
      exact ⟨⟨k + 1, by omega, by go_num, by rw [← HS.out]⟩, by simp [intOf]; omega⟩
    · have hlt' : 64 ≤ (k : Int) := by omega
      have e : bF (ofAt h l k) = bA n := by
        obtain rfl : k = 64 := by omega
        rw [HE.out]
      rw [e]
      clear e HE
      go_wp2_with (first
        | (with_reducible refine wpB_load rfl (.tmp 3) rfl (w.heap.size + 1 + 1) rfl _ (by repeat (first | (with_reducible refine heap_top _ _ _ ?_; first | (simp; done) | (simp; omega)) | rw [Below.heap_alloc _ _ _ (by first | (simp; done) | (simp; omega))])) ?_)
        | (with_reducible refine wpB_store rfl (.tmp 2) (.tmp 28) rfl (w.heap.size + 1) rfl _ 0 rfl (by repeat (first | (with_reducible refine heap_top _ _ _ ?_; first | (simp; done) | (simp; omega)) | rw [Below.heap_alloc _ _ _ (by first | (simp; done) | (simp; omega))])) ?_; intro w1 h1 h2 h3 h4))
      refine bits_ret (g := w.heap.size + 1) (n := n) rfl rfl h1 ⟨rfl, ?_⟩
      exact h3 _ _ (by omega) ((((Below.refl _ _).alloc (by simp) _).alloc (by simp) _).alloc (by simp; omega) _)

/-- Has the row no more than 128 bits? -/
def fits (b : Nat) : Bool := decide (b % 2 ^ 256 < 2 ^ 128)
end Go.Proofs.Ytnhkecfapohlgaa

/-! mainsheetref03's Scaled: its contract, whatever the world. -/
namespace Go.Proofs.Ytnhkecfapohlgaa
open Go.RowKit

/-- A product over a number, rounded up, if so. -/
def scl (n m d : Nat) (up : Bool) : Nat := n * m / d + (if up && n * m % d != 0 then 1 else 0)

end Go.Proofs.Ytnhkecfapohlgaa

/-! package wide's Mul, Div, scaled, Scale, MulDiv: their contracts, whatever the world. -/
namespace Go.Proofs.Ytnhkecfapohlgaa
open Go.RowKit

theorem Below.two {B : Nat} {w0 w w1 : World} (h : Below B w0 w) (hB : B ≤ w0.heap.size) (h1 : Below w.heap.size w w1) : Below B w0 w1 := h.trans (h1.mono (Nat.le_trans hB h.size))

set_option maxRecDepth 100000 in
set_option maxHeartbeats 400000 in
theorem wMul_any (a b : Nat) (w : World) (ha : a < 2 ^ 64) (hb : b < 2 ^ 64) :
    Calls Try.prog 82 #[.int .u64 a, .int .u64 b] w fun e w' => ∃ h l : Nat, e = .returned (.agg #[.int .u64 h, .int .u64 l]) ∧ h < 2 ^ 64 ∧ l < 2 ^ 64 ∧ h * 2 ^ 64 + l = a * b ∧ Below w.heap.size w w' := by
  have HA := Lib.hid ha
  have HB := Lib.hid hb
  have HV := Lib.hid (show a * b + 0 < 2 ^ 128 from by have := Nat.mul_lt_mul'' ha hb; omega)
  clear ha hb
  go_enter Try.func82, Try.ntmps82
  go_wp2_with fail
  refine (wOf_any _ _).mono ?_
  rintro e w1 ⟨rfl, hb1⟩
  have r1 : IsW w1 w.heap.size 0 0 := IsR.kept (by unfold IsR; exact (by repeat (first | (with_reducible refine heap_top _ _ _ ?_; first | (simp; done) | (simp; omega)) | rw [Below.heap_alloc _ _ _ (by first | (simp; done) | (simp; omega))]))) hb1
  have k1 : Below w.heap.size w w1 := Below.two ((Below.refl _ _).alloc (Nat.le_refl _) _) (Nat.le_refl _) hb1
  clear hb1
  go_wp2_with fail
  refine (wof_any 0 a a _ (by decide) HA.out (by omega)).mono ?_
  rintro e w2 ⟨rfl, hb2⟩
  have r2 := r1.kept hb2
  have k2 := Below.two k1 (Nat.le_refl _) hb2
  clear hb2 r1 k1
  go_wp2_with fail
  refine (times_any a b 0 _ HB.out (by decide)).mono ?_
  rintro e w3 ⟨rfl, hb3⟩
  have r3 := r2.kept hb3
  have k3 := Below.two k2 (Nat.le_refl _) hb3
  clear hb3 r2 k2
  go_wp2_with fail
  refine (qwide_any (a * b + 0) _ (Nat.lt_of_lt_of_le HV.out (by decide))).mono ?_
  rintro e w4 ⟨h, l, rfl, hh, hl, hn, hb4⟩
  have HH := Lib.hid hh
  have HL := Lib.hid hl
  have HN := Lib.hid hn
  have r4 := r3.kept hb4
  have k4 := Below.two k3 (Nat.le_refl _) hb4
  have s4 := r4.lt
  clear hb4 r3 k3 hh hl hn
  go_wp2_with (first
    | (with_reducible refine wpW_store rfl (.tmp 4) (.tmp 16) rfl w.heap.size rfl h l 0 0 rfl (r4.alloc _) ?_; intro w5 hp5))
  refine retW rfl rfl hp5.row ⟨h, l, rfl, HH.out, HL.out, ?_, hp5.below _ _ (Nat.le_refl _) (k4.alloc k4.size _)⟩
  rw [HN.out, Nat.mod_eq_of_lt HV.out, Nat.add_zero]

end Go.Proofs.Ytnhkecfapohlgaa

/-! package wide's scaled, Scale, MulDiv: their contracts, whatever the world. -/
namespace Go.Proofs.Ytnhkecfapohlgaa
open Go.RowKit

/-- What is handed back: the number, if it has no more than 128 bits. -/
def sclRes (v : Nat) (h l e : Nat) : Prop := if v < 2 ^ 128 then h * 2 ^ 64 + l = v ∧ e = 0 else h = 0 ∧ l = 0 ∧ e = 131

theorem sclRes_yes {v h l : Nat} (hv : v < 2 ^ 128) (hn : h * 2 ^ 64 + l = v) : sclRes v h l 0 := by unfold sclRes; rw [if_pos hv]; exact ⟨hn, rfl⟩
theorem sclRes_no {v : Nat} (hv : ¬ v < 2 ^ 128) : sclRes v 0 0 131 := by unfold sclRes; rw [if_neg hv]; exact ⟨rfl, rfl, rfl⟩
theorem scl_lt (n m d : Nat) (up : Bool) (hn : n < 2 ^ 128) (hm : m < 2 ^ 64) : n * m / d + 1 < 2 ^ 224 ∧ scl n m d up < 2 ^ 224 := by
  have h1 : n * m < 2 ^ 192 := Nat.lt_of_lt_of_le (Nat.mul_lt_mul'' hn hm) (by decide)
  have h2 := Nat.div_le_self (n * m) d
  have h3 : n * m / d + 1 < 2 ^ 224 := Nat.lt_of_le_of_lt (Nat.succ_le_of_lt (Nat.lt_of_le_of_lt h2 h1)) (by decide)
  refine ⟨h3, ?_⟩
  unfold scl
  split
  · exact h3
  · exact Nat.lt_trans (Nat.lt_succ_self _) h3

theorem times_one (q : Nat) (w : World) : Calls Try.prog 90 #[.agg (qA q), .int .u64 1, .int .u64 1] w fun e w' => e = .returned (.agg (qA (q + 1))) ∧ Below w.heap.size w w' := by
  have := times_any q 1 1 w (by decide) (by decide)
  rw [Nat.mul_one] at this
  exact this

set_option maxRecDepth 100000 in
set_option maxHeartbeats 1000000 in
theorem wscaled_any (h l n m d : Nat) (up : Bool) (w : World) (hh : h < 2 ^ 64) (hl : l < 2 ^ 64) (hn : h * 2 ^ 64 + l = n) (hm : m < 2 ^ 64) (hd0 : 0 < d) (hd : d < 2 ^ 64) :
    Calls Try.prog 83 #[.agg #[.int .u64 h, .int .u64 l], .int .u64 m, .int .u64 d, .bool up] w fun e w' =>
      ∃ h' l' c : Nat, e = .returned (.tuple #[.agg #[.int .u64 h', .int .u64 l'], .int .i64 c]) ∧ h' < 2 ^ 64 ∧ l' < 2 ^ 64 ∧ sclRes (scl n m d up) h' l' c ∧ Below w.heap.size w w' := by
  have HH := Lib.hid hh
  have HL := Lib.hid hl
  have HN := Lib.hid hn
  have HM := Lib.hid hm
  have HD0 := Lib.hid hd0
  have HD := Lib.hid hd
  have hV := scl_lt n m d up (show n < 2 ^ 128 by omega) hm
  have HNM := Lib.hid (show n * m + 0 < 2 ^ 224 from Nat.lt_of_lt_of_le (Nat.mul_lt_mul'' (show n < 2 ^ 128 by omega) hm) (by decide))
  have hz : ((d : Int) == 0) = false := by rw [beq_eq_false_iff_ne]; omega
  have HV1 := Lib.hid hV.1
  have HV2 := Lib.hid hV.2
  clear hh hl hn hm hd0 hd hV
  go_enter Try.func83, Try.ntmps83
  go_wp2_with fail
  refine (wof_any h l n _ HH.out HL.out HN.out).mono ?_
  rintro e w1 ⟨rfl, hb1⟩
  have r1 : IsW w1 (w.heap.size + 1) 0 0 := IsR.kept (by unfold IsR; exact (by repeat (first | (with_reducible refine heap_top _ _ _ ?_; first | (simp; done) | (simp; omega)) | rw [Below.heap_alloc _ _ _ (by first | (simp; done) | (simp; omega))]))) hb1
  have k1 : Below w.heap.size w w1 := Below.two (((Below.refl _ _).alloc (Nat.le_refl _) _).alloc (by simp) _) (Nat.le_refl _) hb1
  clear hb1
  go_wp2_with fail
  refine (times_any n m 0 _ HM.out (by decide)).mono ?_
  rintro e w2 ⟨rfl, hb2⟩
  have r2 := r1.kept hb2
  have k2 := Below.two k1 (Nat.le_refl _) hb2
  clear hb2 r1 k1
  go_wp2_with fail
  refine (over_any (n * m + 0) d _ HNM.out HD0.out HD.out).mono ?_
  rintro e w3 ⟨rfl, hb3⟩
  have r3 := r2.kept hb3
  have k3 := Below.two k2 (Nat.le_refl _) hb3
  have s3 := r3.lt
  clear hb3 r2 k2
  rw [Nat.add_zero]
  obtain ⟨q, hq⟩ : ∃ q, n * m / d = q := ⟨_, rfl⟩
  obtain ⟨r, hr⟩ : ∃ r, n * m % d = r := ⟨_, rfl⟩
  rw [hq, hr]
  have hscl : scl n m d up = q + (if up && r != 0 then 1 else 0) := by rw [← hq, ← hr]; rfl
  rw [hq] at HV1
  have HS := Lib.hid hscl
  clear hscl hq hr HNM
  cases up
  · have HE : Hid (scl n m d false = q) := HS.out.trans (by simp)
    clear HS HV1
    go_wp2_with (first
      | (with_reducible refine wpQ_store rfl (.tmp 10) (.tmp 24) rfl w3.heap.size rfl q 0 rfl (by unfold IsQ; rw [qA_zero]; unfold IsR; exact (by repeat (first | (with_reducible refine heap_top _ _ _ ?_; first | (simp; done) | (simp; omega)) | rw [Below.heap_alloc _ _ _ (by first | (simp; done) | (simp; omega))]))) ?_; intro w4 hp4; have r4 : IsW w4 (w.heap.size + 1) 0 0 := IsR.put (r3.alloc _) hp4 (by omega); have k4 := hp4.below w.heap.size w (by omega) (k3.alloc (by omega) _); have q4 := hp4.row)
      | (with_reducible refine wpQ_load rfl (.tmp 10) rfl w3.heap.size rfl q q4 ?_))
    refine (qwide_any q _ (by rw [← HE.out]; exact HV2.out)).mono ?_
    rintro e w5 ⟨h', l', rfl, hh', hl', hn', hb5⟩
    have HH' := Lib.hid hh'
    have HL' := Lib.hid hl'
    have HN' := Lib.hid hn'
    have r5 : IsW w5 (w.heap.size + 1) 0 0 := r4.kept hb5
    have k5 := Below.two k4 (Nat.le_refl _) hb5
    have s5 := r5.lt
    clear hb5 hh' hl' hn'
    by_cases hf : q < 2 ^ 128
    · rw [show few (q) = true from decide_eq_true hf]
      have HF := Lib.hid hf
      clear hf
      go_wp2_with (first
        | (with_reducible refine wpW_store rfl (.tmp 12) (.tmp 36) rfl w5.heap.size rfl h' l' 0 0 rfl (by (show (_ : World).heap[_]? = some _); repeat (first | (with_reducible refine heap_top _ _ _ ?_; first | (simp; done) | (simp; omega)) | rw [Below.heap_alloc _ _ _ (by first | (simp; done) | (simp; omega))])) ?_; intro w6 hp6; have r6 : IsW w6 (w.heap.size + 1) 0 0 := IsR.put (r5.alloc _) hp6 (by omega); have k6 := hp6.below w.heap.size w (by omega) (k5.alloc (by omega) _); have q6 := hp6.row)
        | (with_reducible refine wpW_load rfl (.tmp 12) rfl w5.heap.size rfl h' l' q6 ?_)
        | (with_reducible refine wpW_store rfl (.tmp 8) (.tmp 41) rfl (w.heap.size + 1) rfl h' l' 0 0 rfl r6 ?_; intro w7 hp7))
      refine retW1 rfl rfl (.int .i64 (0 : Nat)) rfl hp7.row ⟨h', l', 0, rfl, HH'.out, HL'.out, ?_, hp7.below _ _ (by omega) k6⟩
      rw [HE.out]
      exact (sclRes_yes HF.out (HN'.out.trans (Nat.mod_eq_of_lt HF.out)) : sclRes _ _ _ _)
    · rw [show few (q) = false from decide_eq_false hf]
      have HF := Lib.hid hf
      clear hf
      go_wp2_with (first
        | (with_reducible refine wpW_store rfl (.tmp 12) (.tmp 36) rfl w5.heap.size rfl h' l' 0 0 rfl (by (show (_ : World).heap[_]? = some _); repeat (first | (with_reducible refine heap_top _ _ _ ?_; first | (simp; done) | (simp; omega)) | rw [Below.heap_alloc _ _ _ (by first | (simp; done) | (simp; omega))])) ?_; intro w6 hp6; have r6 : IsW w6 (w.heap.size + 1) 0 0 := IsR.put (r5.alloc _) hp6 (by omega); have k6 := hp6.below w.heap.size w (by omega) (k5.alloc (by omega) _))
        | (with_reducible refine wpW_store rfl (.tmp 8) (.tmp 40) rfl (w.heap.size + 1) rfl 0 0 0 0 rfl r6 ?_; intro w7 hp7))
      refine retW1 rfl rfl (.int .i64 (131 : Nat)) rfl hp7.row ⟨0, 0, 131, rfl, by decide, by decide, ?_, hp7.below _ _ (by omega) k6⟩
      rw [HE.out]
      exact (sclRes_no HF.out : sclRes _ _ _ _)
  · by_cases hr0 : r = 0
    · have HE : Hid (scl n m d true = q) := HS.out.trans (by simp [hr0])
      have hr1 : ¬ (0 : Int) < (r : Int) := by omega
      clear HS HV1 hr0
      go_wp2_with (first
        | (with_reducible refine wpQ_store rfl (.tmp 10) (.tmp 24) rfl w3.heap.size rfl q 0 rfl (by unfold IsQ; rw [qA_zero]; unfold IsR; exact (by repeat (first | (with_reducible refine heap_top _ _ _ ?_; first | (simp; done) | (simp; omega)) | rw [Below.heap_alloc _ _ _ (by first | (simp; done) | (simp; omega))]))) ?_; intro w4 hp4; have r4 : IsW w4 (w.heap.size + 1) 0 0 := IsR.put (r3.alloc _) hp4 (by omega); have k4 := hp4.below w.heap.size w (by omega) (k3.alloc (by omega) _); have q4 := hp4.row)
        | (with_reducible refine wpQ_load rfl (.tmp 10) rfl w3.heap.size rfl q q4 ?_))
      refine (qwide_any q _ (by rw [← HE.out]; exact HV2.out)).mono ?_
      rintro e w5 ⟨h', l', rfl, hh', hl', hn', hb5⟩
      have HH' := Lib.hid hh'
      have HL' := Lib.hid hl'
      have HN' := Lib.hid hn'
      have r5 : IsW w5 (w.heap.size + 1) 0 0 := r4.kept hb5
      have k5 := Below.two k4 (Nat.le_refl _) hb5
      have s5 := r5.lt
      clear hb5 hh' hl' hn'
      by_cases hf : q < 2 ^ 128
      · rw [show few (q) = true from decide_eq_true hf]
        have HF := Lib.hid hf
        clear hf
        go_wp2_with (first
          | (with_reducible refine wpW_store rfl (.tmp 12) (.tmp 36) rfl w5.heap.size rfl h' l' 0 0 rfl (by (show (_ : World).heap[_]? = some _); repeat (first | (with_reducible refine heap_top _ _ _ ?_; first | (simp; done) | (simp; omega)) | rw [Below.heap_alloc _ _ _ (by first | (simp; done) | (simp; omega))])) ?_; intro w6 hp6; have r6 : IsW w6 (w.heap.size + 1) 0 0 := IsR.put (r5.alloc _) hp6 (by omega); have k6 := hp6.below w.heap.size w (by omega) (k5.alloc (by omega) _); have q6 := hp6.row)
          | (with_reducible refine wpW_load rfl (.tmp 12) rfl w5.heap.size rfl h' l' q6 ?_)
          | (with_reducible refine wpW_store rfl (.tmp 8) (.tmp 41) rfl (w.heap.size + 1) rfl h' l' 0 0 rfl r6 ?_; intro w7 hp7))
        refine retW1 rfl rfl (.int .i64 (0 : Nat)) rfl hp7.row ⟨h', l', 0, rfl, HH'.out, HL'.out, ?_, hp7.below _ _ (by omega) k6⟩
        rw [HE.out]
        exact (sclRes_yes HF.out (HN'.out.trans (Nat.mod_eq_of_lt HF.out)) : sclRes _ _ _ _)
      · rw [show few (q) = false from decide_eq_false hf]
        have HF := Lib.hid hf
        clear hf
        go_wp2_with (first
          | (with_reducible refine wpW_store rfl (.tmp 12) (.tmp 36) rfl w5.heap.size rfl h' l' 0 0 rfl (by (show (_ : World).heap[_]? = some _); repeat (first | (with_reducible refine heap_top _ _ _ ?_; first | (simp; done) | (simp; omega)) | rw [Below.heap_alloc _ _ _ (by first | (simp; done) | (simp; omega))])) ?_; intro w6 hp6; have r6 : IsW w6 (w.heap.size + 1) 0 0 := IsR.put (r5.alloc _) hp6 (by omega); have k6 := hp6.below w.heap.size w (by omega) (k5.alloc (by omega) _))
          | (with_reducible refine wpW_store rfl (.tmp 8) (.tmp 40) rfl (w.heap.size + 1) rfl 0 0 0 0 rfl r6 ?_; intro w7 hp7))
        refine retW1 rfl rfl (.int .i64 (131 : Nat)) rfl hp7.row ⟨0, 0, 131, rfl, by decide, by decide, ?_, hp7.below _ _ (by omega) k6⟩
        rw [HE.out]
        exact (sclRes_no HF.out : sclRes _ _ _ _)
    · have HE : Hid (scl n m d true = q + 1) := HS.out.trans (by simp [hr0])
      have hr1 : (0 : Int) < (r : Int) := by omega
      clear HS HV1 hr0
      go_wp2_with (first
        | (with_reducible refine wpQ_store rfl (.tmp 10) (.tmp 24) rfl w3.heap.size rfl q 0 rfl (by unfold IsQ; rw [qA_zero]; unfold IsR; exact (by repeat (first | (with_reducible refine heap_top _ _ _ ?_; first | (simp; done) | (simp; omega)) | rw [Below.heap_alloc _ _ _ (by first | (simp; done) | (simp; omega))]))) ?_; intro w4 hp4; have r4 : IsW w4 (w.heap.size + 1) 0 0 := IsR.put (r3.alloc _) hp4 (by omega); have k4 := hp4.below w.heap.size w (by omega) (k3.alloc (by omega) _); have q4 := hp4.row)
        | (with_reducible refine wpQ_load rfl (.tmp 10) rfl w3.heap.size rfl q q4 ?_))
      refine (times_one q _).mono ?_
      rintro e w8 ⟨rfl, hb8⟩
      have r8 : IsW w8 (w.heap.size + 1) 0 0 := r4.kept hb8
      have q8 : IsQ w8 w3.heap.size q := q4.kept hb8
      have k8 := Below.two k4 (Nat.le_refl _) hb8
      clear hb8 hp4 q4 r4 k4
      go_wp2_with (first
        | (with_reducible refine wpQ_store rfl (.tmp 10) (.tmp 32) rfl w3.heap.size rfl (q + 1) q rfl q8 ?_; intro w9 hp9; have rr : IsW w9 (w.heap.size + 1) 0 0 := IsR.put r8 hp9 (by omega); have kk := hp9.below w.heap.size w (by omega) k8; have q9 := hp9.row)
        | (with_reducible refine wpQ_load rfl (.tmp 10) rfl w3.heap.size rfl (q + 1) q9 ?_))
      refine (qwide_any (q + 1) _ (by rw [← HE.out]; exact HV2.out)).mono ?_
      rintro e w5 ⟨h', l', rfl, hh', hl', hn', hb5⟩
      have HH' := Lib.hid hh'
      have HL' := Lib.hid hl'
      have HN' := Lib.hid hn'
      have r5 : IsW w5 (w.heap.size + 1) 0 0 := rr.kept hb5
      have k5 := Below.two kk (Nat.le_refl _) hb5
      have s5 := r5.lt
      clear hb5 hh' hl' hn'
      by_cases hf : (q + 1) < 2 ^ 128
      · rw [show few (q + 1) = true from decide_eq_true hf]
        have HF := Lib.hid hf
        clear hf
        go_wp2_with (first
          | (with_reducible refine wpW_store rfl (.tmp 12) (.tmp 36) rfl w5.heap.size rfl h' l' 0 0 rfl (by (show (_ : World).heap[_]? = some _); repeat (first | (with_reducible refine heap_top _ _ _ ?_; first | (simp; done) | (simp; omega)) | rw [Below.heap_alloc _ _ _ (by first | (simp; done) | (simp; omega))])) ?_; intro w6 hp6; have r6 : IsW w6 (w.heap.size + 1) 0 0 := IsR.put (r5.alloc _) hp6 (by omega); have k6 := hp6.below w.heap.size w (by omega) (k5.alloc (by omega) _); have q6 := hp6.row)
          | (with_reducible refine wpW_load rfl (.tmp 12) rfl w5.heap.size rfl h' l' q6 ?_)
          | (with_reducible refine wpW_store rfl (.tmp 8) (.tmp 41) rfl (w.heap.size + 1) rfl h' l' 0 0 rfl r6 ?_; intro w7 hp7))
        refine retW1 rfl rfl (.int .i64 (0 : Nat)) rfl hp7.row ⟨h', l', 0, rfl, HH'.out, HL'.out, ?_, hp7.below _ _ (by omega) k6⟩
        rw [HE.out]
        exact (sclRes_yes HF.out (HN'.out.trans (Nat.mod_eq_of_lt HF.out)) : sclRes _ _ _ _)
      · rw [show few (q + 1) = false from decide_eq_false hf]
        have HF := Lib.hid hf
        clear hf
        go_wp2_with (first
          | (with_reducible refine wpW_store rfl (.tmp 12) (.tmp 36) rfl w5.heap.size rfl h' l' 0 0 rfl (by (show (_ : World).heap[_]? = some _); repeat (first | (with_reducible refine heap_top _ _ _ ?_; first | (simp; done) | (simp; omega)) | rw [Below.heap_alloc _ _ _ (by first | (simp; done) | (simp; omega))])) ?_; intro w6 hp6; have r6 : IsW w6 (w.heap.size + 1) 0 0 := IsR.put (r5.alloc _) hp6 (by omega); have k6 := hp6.below w.heap.size w (by omega) (k5.alloc (by omega) _))
          | (with_reducible refine wpW_store rfl (.tmp 8) (.tmp 40) rfl (w.heap.size + 1) rfl 0 0 0 0 rfl r6 ?_; intro w7 hp7))
        refine retW1 rfl rfl (.int .i64 (131 : Nat)) rfl hp7.row ⟨0, 0, 131, rfl, by decide, by decide, ?_, hp7.below _ _ (by omega) k6⟩
        rw [HE.out]
        exact (sclRes_no HF.out : sclRes _ _ _ _)

set_option maxRecDepth 100000 in
set_option maxHeartbeats 400000 in
theorem wScale_any (h l n m d : Nat) (w : World) (hh : h < 2 ^ 64) (hl : l < 2 ^ 64) (hn : h * 2 ^ 64 + l = n) (hm : m < 2 ^ 64) (hd0 : 0 < d) (hd : d < 2 ^ 64) :
    Calls Try.prog 71 #[.agg #[.int .u64 h, .int .u64 l], .int .u64 m, .int .u64 d] w fun e w' =>
      ∃ h' l' c : Nat, e = .returned (.tuple #[.agg #[.int .u64 h', .int .u64 l'], .int .i64 c]) ∧ h' < 2 ^ 64 ∧ l' < 2 ^ 64 ∧ sclRes (scl n m d true) h' l' c ∧ Below w.heap.size w w' := by
  have HC := Lib.hid (fun w => wscaled_any h l n m d true w hh hl hn hm hd0 hd)
  clear hh hl hn hm hd0 hd
  go_enter Try.func71, Try.ntmps71
  go_wp2_with fail
  refine (HC.out _).mono ?_
  rintro e w1 ⟨h', l', c, rfl, hh', hl', hs', hb1⟩
  have HH' := Lib.hid hh'
  have HL' := Lib.hid hl'
  have r1 : IsW w1 (w.heap.size + 1) 0 0 := IsR.kept (by unfold IsR; exact (by repeat (first | (with_reducible refine heap_top _ _ _ ?_; first | (simp; done) | (simp; omega)) | rw [Below.heap_alloc _ _ _ (by first | (simp; done) | (simp; omega))]))) hb1
  have k1 : Below w.heap.size w w1 := Below.two (((Below.refl _ _).alloc (Nat.le_refl _) _).alloc (by simp) _) (Nat.le_refl _) hb1
  clear hb1 hh' hl'
  go_wp2_with (first
    | (with_reducible refine wpW_store rfl (.tmp 6) (.tmp 12) rfl (w.heap.size + 1) rfl h' l' 0 0 rfl r1 ?_; intro w2 hp2))
  exact retW1 rfl rfl (.int .i64 c) rfl hp2.row ⟨h', l', c, rfl, HH'.out, HL'.out, hs', hp2.below _ _ (by omega) k1⟩

end Go.Proofs.Ytnhkecfapohlgaa

/-! package wide's MulDiv: its contract, whatever the world. -/
namespace Go.Proofs.Ytnhkecfapohlgaa
open Go.RowKit

/-- What is handed back: the number, if it has no more than 64 bits. -/
def mdRes (v : Nat) (x e : Nat) : Prop := if v < 2 ^ 64 then x = v ∧ e = 0 else x = 0 ∧ e = 131

end Go.Proofs.Ytnhkecfapohlgaa

/-! The chapter's wakes: it answers true. -/
namespace Go.Proofs.Ytnhkecfapohlgaa
open Go.RowKit

theorem of_parts (h l H L : Nat) (hl : l < 2 ^ 64) (hL : L < 2 ^ 64) (e : h * 2 ^ 64 + l = H * 2 ^ 64 + L) : h = H ∧ l = L := by omega

section
variable {ops : Array Oper} {C : (Nat → Bool) → World → Prop} {Q : Act → Prop} {o : Oper} {rest : List Oper} {i : Nat} {a : Act}
end

end Go.Proofs.Ytnhkecfapohlgaa

/-! package wide's Compare, and the library's cmp.Compare, cmp.Or: their contracts, whatever the world. -/
namespace Go.Proofs.Ytnhkecfapohlgaa
open Go.RowKit

/-- How numbers stand to one another. -/
def c3 (a b : Int) : Int := if a < b then -1 else if b < a then 1 else 0
/-- The first that is not 0. -/
def orI : List Int → Int
  | [] => 0
  | z :: r => if z = 0 then orI r else z

set_option maxRecDepth 100000 in
theorem ccmp_any (a b : Int) (w : World) :
    Calls Try.prog 73 #[.int .u64 a, .int .u64 b] w fun e w' => e = .returned (.int .i64 (c3 a b)) ∧ w' = w := by
  by_cases h1 : a < b
  · have H : Hid (c3 a b = -1) := if_pos h1
    go_enter Try.func73, Try.ntmps73
    go_wp2
    go_ret
    exact ⟨by rw [H.out]; rfl, rfl⟩
  · by_cases h2 : b < a
    · have H : Hid (c3 a b = 1) := (if_neg h1).trans (if_pos h2)
      go_enter Try.func73, Try.ntmps73
      go_wp2
      go_ret
      exact ⟨by rw [H.out]; rfl, rfl⟩
    · have H : Hid (c3 a b = 0) := (if_neg h1).trans (if_neg h2)
      go_enter Try.func73, Try.ntmps73
      go_wp2
      go_ret
      exact ⟨by rw [H.out]; rfl, rfl⟩

theorem orI_drop (zs : List Int) (k : Nat) (hk : k < zs.length) : orI (zs.drop k) = if zs[k] = 0 then orI (zs.drop (k + 1)) else zs[k] := by
  rw [List.drop_eq_getElem_cons hk]; rfl

set_option maxRecDepth 100000 in
set_option maxHeartbeats 400000 in
theorem cor_any (zs : List Int) (g : Nat) (w : World) (hlen : zs.length < 1000) (hg : IsR w g (zs.map (Value.int .i64)).toArray 3) :
    Calls Try.prog 72 #[.slice (some ⟨g, 0, none⟩) zs.length zs.length] w fun e w' => e = .returned (.int .i64 (orI zs)) ∧ w' = w := by
  have hc : ∀ j (h : j < zs.length), w.cell? ⟨g, j, none⟩ = some (.int .i64 zs[j]) := fun j h => by rw [hg.cell j]; simp [h]
  have HC := Lib.hid hc
  clear hc hg
  obtain ⟨n, hn⟩ : ∃ n, zs.length = n := ⟨_, rfl⟩
  rw [hn] at hlen
  rw [hn]
  have HN := Lib.hid hn
  clear hn
  have hlen' : (n : Int) < 1000 := by omega
  go_enter Try.func72, Try.ntmps72
  go_wp2
  go_loop [8] (fun t => ∃ k : Nat, k ≤ n ∧ t = .int .i64 k ∧ Hid (orI (zs.drop k) = orI zs)) (fun t => n - (intOf t).toNat)
  case atStart => exact ⟨0, by omega, rfl, (rfl : _ = _)⟩
  case round =>
    obtain ⟨k, hk, rfl, HK⟩ := hrel
    by_cases hlt : k < n
    · have hlt' : (k : Int) < (n : Int) := by omega
      have hkz : k < zs.length := by rw [HN.out]; exact hlt
      have hcell := HC.out k hkz
      have HD := Lib.hid (orI_drop zs k hkz)
      generalize zs[k] = z at hcell HD
      clear hkz
      by_cases hz : z = 0
      · subst hz
        have HK2 : Hid (orI (zs.drop (k + 1)) = orI zs) := by show _ = _; rw [← HK.out, HD.out, if_pos rfl]
        go_wp2
        go_round
        case rel => exact ⟨k + 1, by omega, by go_num, HK2⟩
        case measure => simp [intOf]; omega
      · have hz' : (z == 0) = false := by simpa using hz
        have hz'' : (z != 0) = true := by simpa using hz
        have HK2 : Hid (orI zs = z) := by show _ = _; rw [← HK.out, HD.out, if_neg hz]
        clear hz
        go_wp2
        go_ret
        exact ⟨by rw [HK2.out]; rfl, rfl⟩
    · have hlt' : (n : Int) ≤ (k : Int) := by omega
      have HK2 : Hid (orI zs = 0) := by show _ = _; rw [← HK.out, List.drop_eq_nil_of_le (by rw [HN.out]; omega)]; rfl
      go_wp2
      go_ret
      exact ⟨by rw [HK2.out]; rfl, rfl⟩

/-- How two numbers of two halves stand to one another. -/
def cW (h l H L : Int) : Int := orI [c3 h H, c3 l L]

set_option maxRecDepth 100000 in
set_option maxHeartbeats 400000 in
theorem wCompare_any (h l H L : Int) (w : World) :
    Calls Try.prog 40 #[.agg #[.int .u64 h, .int .u64 l], .agg #[.int .u64 H, .int .u64 L]] w fun e w' => e = .returned (.int .i64 (cW h l H L)) ∧ Below w.heap.size w w' := by
  go_enter Try.func40, Try.ntmps40
  go_wp2_with fail
  have fA : IsW ((w.alloc (Obj.cells #[.int .u64 h, .int .u64 l] 31)).alloc (Obj.cells #[.int .u64 H, .int .u64 L] 31)) w.heap.size h l := by unfold IsW IsR; exact (by repeat (first | (with_reducible refine heap_top _ _ _ ?_; first | (simp; done) | (simp; omega)) | rw [Below.heap_alloc _ _ _ (by first | (simp; done) | (simp; omega))]))
  have fB : IsW ((w.alloc (Obj.cells #[.int .u64 h, .int .u64 l] 31)).alloc (Obj.cells #[.int .u64 H, .int .u64 L] 31)) (w.heap.size + 1) H L := by unfold IsW IsR; exact (by repeat (first | (with_reducible refine heap_top _ _ _ ?_; first | (simp; done) | (simp; omega)) | rw [Below.heap_alloc _ _ _ (by first | (simp; done) | (simp; omega))]))
  have k0 : Below w.heap.size w ((w.alloc (Obj.cells #[.int .u64 h, .int .u64 l] 31)).alloc (Obj.cells #[.int .u64 H, .int .u64 L] 31)) := ((Below.refl _ _).alloc (Nat.le_refl _) _).alloc (by simp) _
  generalize (w.alloc (Obj.cells #[.int .u64 h, .int .u64 l] 31)).alloc (Obj.cells #[.int .u64 H, .int .u64 L] 31) = W at fA fB k0 ⊢
  have cA := IsR.cell fA
  have cB := IsR.cell fB
  refine wp_region_still_tail 10 (by kernel_rfl) (by kernel_rfl) ?_
  change wpStill _ _ (World.drew W) _ _ _
  simp only [List.take_succ_cons, List.take_zero, List.drop_succ_cons, List.drop_zero]
  iterate 4 still_step
  still_call (ccmp_any h H _)
  iterate 4 still_step
  still_call (ccmp_any l L _)
  refine wpStill_nil ?_
  change wpList _ _ _ _ _ (World.drew _)
  go_wp2_with fail
  refine (cor_any [c3 h H, c3 l L] W.heap.size _ (by simp) ?_).mono ?_
  · exact heap_top W (Obj.cells #[.int .i64 (c3 h H), .int .i64 (c3 l L)] 3) _ rfl
  rintro e w' ⟨rfl, rfl⟩
  go_wp2_with fail
  go_ret
  exact ⟨rfl, (k0.alloc k0.size _).drew⟩

theorem cW_eq (h l H L n m : Nat) (hl : l < 2 ^ 64) (hL : L < 2 ^ 64) (hn : h * 2 ^ 64 + l = n) (hm : H * 2 ^ 64 + L = m) : cW h l H L = c3 n m := by
  unfold cW orI orI orI c3
  rcases Nat.lt_trichotomy n m with h1 | h1 | h1
  · rw [if_pos (show (n : Int) < m by omega)]
    by_cases h2 : (h : Int) < H
    · rw [if_pos h2]; simp
    · rw [if_neg h2, if_neg (show ¬ (H : Int) < h by omega), if_pos rfl, if_pos (show (l : Int) < L by omega)]; simp
  · rw [if_neg (show ¬ (n : Int) < m by omega), if_neg (show ¬ (m : Int) < n by omega), if_neg (show ¬ (h : Int) < H by omega), if_neg (show ¬ (H : Int) < h by omega), if_pos rfl, if_neg (show ¬ (l : Int) < L by omega), if_neg (show ¬ (L : Int) < l by omega)]
    rfl
  · rw [if_neg (show ¬ (n : Int) < m by omega), if_pos (show (m : Int) < n by omega), if_neg (show ¬ (h : Int) < H by omega)]
    by_cases h2 : (H : Int) < h
    · rw [if_pos h2]; simp
    · rw [if_neg h2, if_pos rfl, if_neg (show ¬ (l : Int) < L by omega), if_pos (show (L : Int) < l by omega)]; simp
theorem c3_neg (a b : Int) : c3 a b < 0 ↔ a < b := by
  unfold c3; split
  · simp [*]
  · split <;> simp [*]

end Go.Proofs.Ytnhkecfapohlgaa

/-! package wide's Add and Sub: their contracts, whatever the world. -/
namespace Go.Proofs.Ytnhkecfapohlgaa
open Go.RowKit

theorem add_over (h l H L x y x' n m : Nat) (hh : h < 2 ^ 64) (hl : l < 2 ^ 64) (hH : H < 2 ^ 64) (hL : L < 2 ^ 64) (hn : h * 2 ^ 64 + l = n) (hm : H * 2 ^ 64 + L = m) (hx : x = (h + H) % 2 ^ 64) (hy : y = (l + L) % 2 ^ 64) (hx' : x' = if y < l then (x + 1) % 2 ^ 64 else x) :
    (x' * 2 ^ 64 + y < n ∨ x' < H ↔ ¬ n + m < 2 ^ 128) ∧ (n + m < 2 ^ 128 → x' * 2 ^ 64 + y = n + m) := by
  split at hx' <;> omega

set_option maxRecDepth 100000 in
set_option maxHeartbeats 400000 in
theorem wAdd_any (h l n H L m : Nat) (w : World) (hh : h < 2 ^ 64) (hl : l < 2 ^ 64) (hn : h * 2 ^ 64 + l = n) (hH : H < 2 ^ 64) (hL : L < 2 ^ 64) (hm : H * 2 ^ 64 + L = m) :
    Calls Try.prog 47 #[.agg #[.int .u64 h, .int .u64 l], .agg #[.int .u64 H, .int .u64 L]] w fun e w' =>
      ∃ h' l' c : Nat, e = .returned (.tuple #[.agg #[.int .u64 h', .int .u64 l'], .int .i64 c]) ∧ h' < 2 ^ 64 ∧ l' < 2 ^ 64 ∧ sclRes (n + m) h' l' c ∧ Below w.heap.size w w' := by
  obtain ⟨x, hx⟩ : ∃ x, x = (h + H) % 2 ^ 64 := ⟨_, rfl⟩
  obtain ⟨y, hy⟩ : ∃ y, y = (l + L) % 2 ^ 64 := ⟨_, rfl⟩
  have hw1 : IntKind.u64.wrap ((h : Int) + H) = (x : Int) := by rw [IntKind.wrap_u64]; omega
  have hw2 : IntKind.u64.wrap ((l : Int) + L) = (y : Int) := by rw [IntKind.wrap_u64]; omega
  obtain ⟨x', hx'⟩ : ∃ x', x' = if y < l then (x + 1) % 2 ^ 64 else x := ⟨_, rfl⟩
  obtain ⟨o1, o2⟩ := add_over h l H L x y x' n m hh hl hH hL hn hm hx hy hx'
  have hy64 : y < 2 ^ 64 := by omega
  have hx64 : x < 2 ^ 64 := by omega
  have hx'64 : x' < 2 ^ 64 := by rw [hx']; split <;> omega
  have hcw : cW x' y h l < 0 ↔ x' * 2 ^ 64 + y < n := by rw [cW_eq x' y h l _ _ hy64 hl rfl hn, c3_neg]; omega
  have HW := Lib.hid hcw
  have HO1 := Lib.hid o1
  have HO2 := Lib.hid o2
  have HX := Lib.hid hx'64
  have HY := Lib.hid hy64
  have hxs : (if y < l then IntKind.u64.wrap ((x : Int) + 1) else (x : Int)) = (x' : Int) := by
    rw [hx']; split
    · rw [IntKind.wrap_u64]; omega
    · rfl
  clear hx hy hcw o1 o2 hx'64 hy64 hx64 hh hl hH hL hx' hn hm
  by_cases hc : y < l
  · rw [if_pos hc] at hxs
    have hc' : (y : Int) < (l : Int) := by omega
    clear hc
    go_enter Try.func47, Try.ntmps47
    go_wp2_with fail
    refine (wCompare_any x' y h l _).mono ?_
    rintro e w1 ⟨rfl, hb1⟩
    have r1 : IsW w1 (w.heap.size + 1) H L := IsR.kept (by unfold IsR; exact (by repeat (first | (with_reducible refine heap_top _ _ _ ?_; first | (simp; done) | (simp; omega)) | rw [Below.heap_alloc _ _ _ (by first | (simp; done) | (simp; omega))]))) hb1
    have r2 : IsW w1 (w.heap.size + 1 + 1) 0 0 := IsR.kept (by unfold IsR; exact (by repeat (first | (with_reducible refine heap_top _ _ _ ?_; first | (simp; done) | (simp; omega)) | rw [Below.heap_alloc _ _ _ (by first | (simp; done) | (simp; omega))]))) hb1
    have r3 : IsW w1 (w.heap.size + 1 + 1 + 1) x' y := IsR.kept (by unfold IsR; exact (by repeat (first | (with_reducible refine heap_top _ _ _ ?_; first | (simp; done) | (simp; omega)) | rw [Below.heap_alloc _ _ _ (by first | (simp; done) | (simp; omega))]))) hb1
    have k1 : Below w.heap.size w w1 := Below.two (((((Below.refl _ _).alloc (Nat.le_refl _) _).alloc (by simp) _).alloc (by simp; omega) _).alloc (by simp; omega) _) (Nat.le_refl _) hb1
    have c1 := IsR.cell r1
    have c3 := IsR.cell r3
    clear hb1 r1
    generalize cW x' y h l = z at HW ⊢
    by_cases hz : z < 0
    · have HF : Hid (¬ n + m < 2 ^ 128) := HO1.out.1 (.inl (HW.out.1 hz))
      go_wp2_with (first
        | (with_reducible refine wpW_store rfl (.tmp 4) (.tmp 38) rfl (w.heap.size + 1 + 1) rfl 0 0 0 0 rfl r2 ?_; intro w2 hp2))
      refine retW1 rfl rfl (.int .i64 (131 : Nat)) rfl hp2.row ⟨0, 0, 131, rfl, by decide, by decide, (sclRes_no HF.out : sclRes _ _ _ _), hp2.below _ _ (by omega) k1⟩
    · by_cases hx : (x' : Int) < H
      · have HF : Hid (¬ n + m < 2 ^ 128) := HO1.out.1 (.inr (by omega))
        go_wp2_with (first
          | (with_reducible refine wpW_store rfl (.tmp 4) (.tmp 38) rfl (w.heap.size + 1 + 1) rfl 0 0 0 0 rfl r2 ?_; intro w2 hp2))
        refine retW1 rfl rfl (.int .i64 (131 : Nat)) rfl hp2.row ⟨0, 0, 131, rfl, by decide, by decide, (sclRes_no HF.out : sclRes _ _ _ _), hp2.below _ _ (by omega) k1⟩
      · have HF : Hid (n + m < 2 ^ 128) := Classical.byContradiction fun hcon => by
          rcases HO1.out.2 hcon with h | h
          · exact hz (HW.out.2 h)
          · exact hx (by omega)
        go_wp2_with (first
          | (with_reducible refine wpW_load rfl (.tmp 6) rfl (w.heap.size + 1 + 1 + 1) rfl x' y r3 ?_)
          | (with_reducible refine wpW_store rfl (.tmp 4) (.tmp 39) rfl (w.heap.size + 1 + 1) rfl x' y 0 0 rfl r2 ?_; intro w2 hp2))
        refine retW1 rfl rfl (.int .i64 (0 : Nat)) rfl hp2.row ⟨x', y, 0, rfl, HX.out, HY.out, (sclRes_yes HF.out (HO2.out HF.out) : sclRes _ _ _ _), hp2.below _ _ (by omega) k1⟩
  · rw [if_neg hc] at hxs
    have hc' : ¬ (y : Int) < (l : Int) := by omega
    obtain rfl : x = x' := by omega
    clear hc hxs
    go_enter Try.func47, Try.ntmps47
    go_wp2_with fail
    refine (wCompare_any x y h l _).mono ?_
    rintro e w1 ⟨rfl, hb1⟩
    have r1 : IsW w1 (w.heap.size + 1) H L := IsR.kept (by unfold IsR; exact (by repeat (first | (with_reducible refine heap_top _ _ _ ?_; first | (simp; done) | (simp; omega)) | rw [Below.heap_alloc _ _ _ (by first | (simp; done) | (simp; omega))]))) hb1
    have r2 : IsW w1 (w.heap.size + 1 + 1) 0 0 := IsR.kept (by unfold IsR; exact (by repeat (first | (with_reducible refine heap_top _ _ _ ?_; first | (simp; done) | (simp; omega)) | rw [Below.heap_alloc _ _ _ (by first | (simp; done) | (simp; omega))]))) hb1
    have r3 : IsW w1 (w.heap.size + 1 + 1 + 1) x y := IsR.kept (by unfold IsR; exact (by repeat (first | (with_reducible refine heap_top _ _ _ ?_; first | (simp; done) | (simp; omega)) | rw [Below.heap_alloc _ _ _ (by first | (simp; done) | (simp; omega))]))) hb1
    have k1 : Below w.heap.size w w1 := Below.two (((((Below.refl _ _).alloc (Nat.le_refl _) _).alloc (by simp) _).alloc (by simp; omega) _).alloc (by simp; omega) _) (Nat.le_refl _) hb1
    have c1 := IsR.cell r1
    have c3 := IsR.cell r3
    clear hb1 r1
    generalize cW x y h l = z at HW ⊢
    by_cases hz : z < 0
    · have HF : Hid (¬ n + m < 2 ^ 128) := HO1.out.1 (.inl (HW.out.1 hz))
      go_wp2_with (first
        | (with_reducible refine wpW_store rfl (.tmp 4) (.tmp 38) rfl (w.heap.size + 1 + 1) rfl 0 0 0 0 rfl r2 ?_; intro w2 hp2))
      refine retW1 rfl rfl (.int .i64 (131 : Nat)) rfl hp2.row ⟨0, 0, 131, rfl, by decide, by decide, (sclRes_no HF.out : sclRes _ _ _ _), hp2.below _ _ (by omega) k1⟩
    · by_cases hx : (x : Int) < H
      · have HF : Hid (¬ n + m < 2 ^ 128) := HO1.out.1 (.inr (by omega))
        go_wp2_with (first
          | (with_reducible refine wpW_store rfl (.tmp 4) (.tmp 38) rfl (w.heap.size + 1 + 1) rfl 0 0 0 0 rfl r2 ?_; intro w2 hp2))
        refine retW1 rfl rfl (.int .i64 (131 : Nat)) rfl hp2.row ⟨0, 0, 131, rfl, by decide, by decide, (sclRes_no HF.out : sclRes _ _ _ _), hp2.below _ _ (by omega) k1⟩
      · have HF : Hid (n + m < 2 ^ 128) := Classical.byContradiction fun hcon => by
          rcases HO1.out.2 hcon with h | h
          · exact hz (HW.out.2 h)
          · exact hx (by omega)
        go_wp2_with (first
          | (with_reducible refine wpW_load rfl (.tmp 6) rfl (w.heap.size + 1 + 1 + 1) rfl x y r3 ?_)
          | (with_reducible refine wpW_store rfl (.tmp 4) (.tmp 39) rfl (w.heap.size + 1 + 1) rfl x y 0 0 rfl r2 ?_; intro w2 hp2))
        refine retW1 rfl rfl (.int .i64 (0 : Nat)) rfl hp2.row ⟨x, y, 0, rfl, HX.out, HY.out, (sclRes_yes HF.out (HO2.out HF.out) : sclRes _ _ _ _), hp2.below _ _ (by omega) k1⟩

theorem sub_res (h l H L x y x' n m : Nat) (hl : l < 2 ^ 64) (hL : L < 2 ^ 64) (hn : h * 2 ^ 64 + l = n) (hm : H * 2 ^ 64 + L = m) (hle : m ≤ n) (hx : x = h - H)
    (hy : y = if l < L then l + 2 ^ 64 - L else l - L) (hx' : x' = if l < L then x - 1 else x) : x' * 2 ^ 64 + y = n - m ∧ H ≤ h ∧ y < 2 ^ 64 ∧ (l < L → 1 ≤ x) := by
  split at hx' <;> simp [*] at hy <;> omega

set_option maxRecDepth 100000 in
set_option maxHeartbeats 400000 in
theorem wSub_no (h l n H L m : Nat) (w : World) (hl : l < 2 ^ 64) (hn : h * 2 ^ 64 + l = n) (hL : L < 2 ^ 64) (hm : H * 2 ^ 64 + L = m) (hlt : n < m) :
    Calls Try.prog 42 #[.agg #[.int .u64 h, .int .u64 l], .agg #[.int .u64 H, .int .u64 L]] w fun e w' =>
      e = .returned (.tuple #[.agg #[.int .u64 0, .int .u64 0], .int .i64 131]) ∧ Below w.heap.size w w' := by
  have HW := Lib.hid (show cW h l H L < 0 by rw [cW_eq h l H L n m hl hL hn hm, c3_neg]; omega)
  clear hl hn hL hm hlt
  go_enter Try.func42, Try.ntmps42
  go_wp2_with fail
  refine (wCompare_any h l H L _).mono ?_
  rintro e w1 ⟨rfl, hb1⟩
  have r0 : IsW w1 w.heap.size h l := IsR.kept (by unfold IsR; exact (by repeat (first | (with_reducible refine heap_top _ _ _ ?_; first | (simp; done) | (simp; omega)) | rw [Below.heap_alloc _ _ _ (by first | (simp; done) | (simp; omega))]))) hb1
  have r1 : IsW w1 (w.heap.size + 1) H L := IsR.kept (by unfold IsR; exact (by repeat (first | (with_reducible refine heap_top _ _ _ ?_; first | (simp; done) | (simp; omega)) | rw [Below.heap_alloc _ _ _ (by first | (simp; done) | (simp; omega))]))) hb1
  have r2 : IsW w1 (w.heap.size + 1 + 1) 0 0 := IsR.kept (by unfold IsR; exact (by repeat (first | (with_reducible refine heap_top _ _ _ ?_; first | (simp; done) | (simp; omega)) | rw [Below.heap_alloc _ _ _ (by first | (simp; done) | (simp; omega))]))) hb1
  have k1 : Below w.heap.size w w1 := Below.two ((((Below.refl _ _).alloc (Nat.le_refl _) _).alloc (by simp) _).alloc (by simp; omega) _) (Nat.le_refl _) hb1
  have c0 := IsR.cell r0
  have c1 := IsR.cell r1
  have s2 := IsR.lt r2
  have s1 := IsR.lt r1
  have s0 := IsR.lt r0
  clear hb1 r0 r1
  generalize cW h l H L = z at HW ⊢
  have hz : z < 0 := HW.out
  go_wp2_with (first
    | (with_reducible refine wpW_store rfl (.tmp 4) (.tmp 11) rfl (w.heap.size + 1 + 1) rfl 0 0 0 0 rfl r2 ?_; intro w2 hp2))
  exact retW1 rfl rfl (.int .i64 131) rfl hp2.row ⟨rfl, hp2.below _ _ (by omega) k1⟩

set_option maxRecDepth 100000 in
set_option maxHeartbeats 400000 in
theorem wSub_yes (h l n H L m : Nat) (w : World) (hh : h < 2 ^ 64) (hl : l < 2 ^ 64) (hn : h * 2 ^ 64 + l = n) (hH : H < 2 ^ 64) (hL : L < 2 ^ 64) (hm : H * 2 ^ 64 + L = m) (hle : m ≤ n) :
    Calls Try.prog 42 #[.agg #[.int .u64 h, .int .u64 l], .agg #[.int .u64 H, .int .u64 L]] w fun e w' =>
      ∃ h' l' : Nat, e = .returned (.tuple #[.agg #[.int .u64 h', .int .u64 l'], .int .i64 0]) ∧ h' < 2 ^ 64 ∧ l' < 2 ^ 64 ∧ h' * 2 ^ 64 + l' = n - m ∧ Below w.heap.size w w' := by
  have HW := Lib.hid (show ¬ cW h l H L < 0 by rw [cW_eq h l H L n m hl hL hn hm, c3_neg]; omega)
  obtain ⟨x, hx⟩ : ∃ x, x = h - H := ⟨_, rfl⟩
  obtain ⟨y, hy⟩ : ∃ y, y = if l < L then l + 2 ^ 64 - L else l - L := ⟨_, rfl⟩
  obtain ⟨x', hx'⟩ : ∃ x', x' = if l < L then x - 1 else x := ⟨_, rfl⟩
  obtain ⟨o1, o2, o3, o4⟩ := sub_res h l H L x y x' n m hl hL hn hm hle hx hy hx'
  have HN := Lib.hid o1
  have HY := Lib.hid o3
  have HX := Lib.hid (show x' < 2 ^ 64 by split at hx' <;> omega)
  have e1' : IntKind.u64.wrap ((h : Int) - H) = (x : Int) := by rw [IntKind.wrap_u64]; omega
  by_cases hc : l < L
  · rw [if_pos hc] at hy hx'
    have hc' : (l : Int) < (L : Int) := by omega
    have e2 : IntKind.u64.wrap ((l : Int) - L) = (y : Int) := by rw [IntKind.wrap_u64]; omega
    have e3' : IntKind.u64.wrap ((x : Int) - 1) = (x' : Int) := by rw [IntKind.wrap_u64]; have := HX.out; have := o4 hc; omega
    clear hy hx' hx o1 o2 o3 o4 hc hh hl hn hH hL hm hle
    go_enter Try.func42, Try.ntmps42
    go_wp2_with fail
    refine (wCompare_any h l H L _).mono ?_
    rintro e w1 ⟨rfl, hb1⟩
    have r0 : IsW w1 w.heap.size h l := IsR.kept (by unfold IsR; exact (by repeat (first | (with_reducible refine heap_top _ _ _ ?_; first | (simp; done) | (simp; omega)) | rw [Below.heap_alloc _ _ _ (by first | (simp; done) | (simp; omega))]))) hb1
    have r1 : IsW w1 (w.heap.size + 1) H L := IsR.kept (by unfold IsR; exact (by repeat (first | (with_reducible refine heap_top _ _ _ ?_; first | (simp; done) | (simp; omega)) | rw [Below.heap_alloc _ _ _ (by first | (simp; done) | (simp; omega))]))) hb1
    have r2 : IsW w1 (w.heap.size + 1 + 1) 0 0 := IsR.kept (by unfold IsR; exact (by repeat (first | (with_reducible refine heap_top _ _ _ ?_; first | (simp; done) | (simp; omega)) | rw [Below.heap_alloc _ _ _ (by first | (simp; done) | (simp; omega))]))) hb1
    have k1 : Below w.heap.size w w1 := Below.two ((((Below.refl _ _).alloc (Nat.le_refl _) _).alloc (by simp) _).alloc (by simp; omega) _) (Nat.le_refl _) hb1
    have c0 := IsR.cell r0
    have c1 := IsR.cell r1
    have s2 := IsR.lt r2
    have s1 := IsR.lt r1
    have s0 := IsR.lt r0
    clear hb1 r0 r1
    generalize cW h l H L = z at HW ⊢
    have hz : ¬ z < 0 := by have := HW.out; omega
    go_wp2_with (first
      | (with_reducible refine wpW_store rfl (.tmp 4) (.tmp 32) rfl (w.heap.size + 1 + 1) rfl x' y 0 0 rfl (IsR.alloc r2 _) ?_; intro w2 hp2))
    exact retW1 rfl rfl (.int .i64 0) rfl hp2.row ⟨x', y, rfl, HX.out, HY.out, HN.out, hp2.below _ _ (by omega) (k1.alloc k1.size _)⟩
  · rw [if_neg hc] at hy hx'
    have hc' : ¬ (l : Int) < (L : Int) := by omega
    have e2 : IntKind.u64.wrap ((l : Int) - L) = (y : Int) := by rw [IntKind.wrap_u64]; omega
    obtain rfl : x = x' := hx'.symm
    clear hy hx o1 o2 o3 o4 hc hh hl hn hH hL hm hle
    go_enter Try.func42, Try.ntmps42
    go_wp2_with fail
    refine (wCompare_any h l H L _).mono ?_
    rintro e w1 ⟨rfl, hb1⟩
    have r0 : IsW w1 w.heap.size h l := IsR.kept (by unfold IsR; exact (by repeat (first | (with_reducible refine heap_top _ _ _ ?_; first | (simp; done) | (simp; omega)) | rw [Below.heap_alloc _ _ _ (by first | (simp; done) | (simp; omega))]))) hb1
    have r1 : IsW w1 (w.heap.size + 1) H L := IsR.kept (by unfold IsR; exact (by repeat (first | (with_reducible refine heap_top _ _ _ ?_; first | (simp; done) | (simp; omega)) | rw [Below.heap_alloc _ _ _ (by first | (simp; done) | (simp; omega))]))) hb1
    have r2 : IsW w1 (w.heap.size + 1 + 1) 0 0 := IsR.kept (by unfold IsR; exact (by repeat (first | (with_reducible refine heap_top _ _ _ ?_; first | (simp; done) | (simp; omega)) | rw [Below.heap_alloc _ _ _ (by first | (simp; done) | (simp; omega))]))) hb1
    have k1 : Below w.heap.size w w1 := Below.two ((((Below.refl _ _).alloc (Nat.le_refl _) _).alloc (by simp) _).alloc (by simp; omega) _) (Nat.le_refl _) hb1
    have c0 := IsR.cell r0
    have c1 := IsR.cell r1
    have s2 := IsR.lt r2
    have s1 := IsR.lt r1
    have s0 := IsR.lt r0
    clear hb1 r0 r1
    generalize cW h l H L = z at HW ⊢
    have hz : ¬ z < 0 := by have := HW.out; omega
    go_wp2_with (first
      | (with_reducible refine wpW_store rfl (.tmp 4) (.tmp 32) rfl (w.heap.size + 1 + 1) rfl x y 0 0 rfl (IsR.alloc r2 _) ?_; intro w2 hp2))
    exact retW1 rfl rfl (.int .i64 0) rfl hp2.row ⟨x, y, rfl, HX.out, HY.out, HN.out, hp2.below _ _ (by omega) (k1.alloc k1.size _)⟩
end Go.Proofs.Ytnhkecfapohlgaa

/-! The contracts of wide and of its reference, one value each. -/
namespace Go.Proofs.Ytnhkecfapohlgaa
open Go Go.RowKit

/-- A function's contract where the answer is one value and memory grows at most. -/
def Dt (f : FuncId) (args : Array Value) (v : Value) : Prop := ∀ w, Calls Try.prog f args w fun e w' => e = .returned v ∧ Below w.heap.size w w'
abbrev wv (h l : Nat) : Value := .agg #[.int .u64 h, .int .u64 l]

theorem dROf {h l n : Nat} (hh : h < 2 ^ 64) (hl : l < 2 ^ 64) (hn : h * 2 ^ 64 + l = n) : Dt 75 #[wv h l] (.agg (bA n)) := fun w => of_any h l n w hh hl hn
theorem dProduct (a : Nat) {m : Nat} (hm : m < 2 ^ 64) : Dt 74 #[.agg (bA a), .int .u64 m] (.agg (bA (a * m))) := fun w => prod_any a m w hm
theorem dLess {a b : Nat} (ha : a < 2 ^ 256) (hb : b < 2 ^ 256) : Dt 76 #[.agg (bA a), .agg (bA b)] (.bool (decide (a < b))) := fun w => less_any a b w ha hb
theorem dMul {a b h l : Nat} (ha : a < 2 ^ 64) (hb : b < 2 ^ 64) (hl : l < 2 ^ 64) (e : h * 2 ^ 64 + l = a * b) : Dt 82 #[.int .u64 a, .int .u64 b] (wv h l) := fun w => by
  refine (wMul_any a b w ha hb).mono ?_
  rintro e1 w1 ⟨h', l', rfl, _, hl', e2, hb⟩
  obtain ⟨rfl, rfl⟩ := of_parts h' l' h l hl' hl (by rw [e2, e])
  exact ⟨rfl, hb⟩
theorem dOf (n : Nat) : Dt 43 #[.int .u64 n] (.agg #[.int .u64 0, .int .u64 n]) := fun w => wOf_any n w
theorem dCompare {h l n H L m : Nat} (hl : l < 2 ^ 64) (hL : L < 2 ^ 64) (hn : h * 2 ^ 64 + l = n) (hm : H * 2 ^ 64 + L = m) : Dt 40 #[wv h l, wv H L] (.int .i64 (c3 n m)) := fun w => by
  have := wCompare_any h l H L w
  rwa [cW_eq h l H L n m hl hL hn hm] at this
theorem scl_same {v h l c h' l' c' : Nat} (hs : sclRes v h l c) (hs' : sclRes v h' l' c') (hl : l < 2 ^ 64) (hl' : l' < 2 ^ 64) : h = h' ∧ l = l' ∧ c = c' := by
  unfold sclRes at hs hs'
  split at hs
  · rename_i hv
    rw [if_pos hv] at hs'
    obtain ⟨e1, e2⟩ := of_parts h l h' l' hl hl' (by rw [hs.1, hs'.1])
    exact ⟨e1, e2, by rw [hs.2, hs'.2]⟩
  · rename_i hv
    rw [if_neg hv] at hs'
    exact ⟨by rw [hs.1, hs'.1], by rw [hs.2.1, hs'.2.1], by rw [hs.2.2, hs'.2.2]⟩
theorem dAdd {h l n H L m A B c : Nat} (hh : h < 2 ^ 64) (hl : l < 2 ^ 64) (hn : h * 2 ^ 64 + l = n) (hH : H < 2 ^ 64) (hL : L < 2 ^ 64) (hm : H * 2 ^ 64 + L = m) (hB : B < 2 ^ 64) (hs : sclRes (n + m) A B c) :
    Dt 47 #[wv h l, wv H L] (.tuple #[wv A B, .int .i64 c]) := fun w => by
  refine (wAdd_any h l n H L m w hh hl hn hH hL hm).mono ?_
  rintro e1 w1 ⟨h', l', c', rfl, _, hl', hs', hb⟩
  obtain ⟨rfl, rfl, rfl⟩ := scl_same hs' hs hl' hB
  exact ⟨rfl, hb⟩
theorem dScale {h l n m d A B c : Nat} (hh : h < 2 ^ 64) (hl : l < 2 ^ 64) (hn : h * 2 ^ 64 + l = n) (hm : m < 2 ^ 64) (hd0 : 0 < d) (hd : d < 2 ^ 64) (hB : B < 2 ^ 64) (hs : sclRes (scl n m d true) A B c) :
    Dt 71 #[wv h l, .int .u64 m, .int .u64 d] (.tuple #[wv A B, .int .i64 c]) := fun w => by
  refine (wScale_any h l n m d w hh hl hn hm hd0 hd).mono ?_
  rintro e1 w1 ⟨h', l', c', rfl, _, hl', hs', hb⟩
  obtain ⟨rfl, rfl, rfl⟩ := scl_same hs' hs hl' hB
  exact ⟨rfl, hb⟩
theorem dSubYes {h l n H L m A B : Nat} (hh : h < 2 ^ 64) (hl : l < 2 ^ 64) (hn : h * 2 ^ 64 + l = n) (hH : H < 2 ^ 64) (hL : L < 2 ^ 64) (hm : H * 2 ^ 64 + L = m) (hle : m ≤ n) (hB : B < 2 ^ 64) (e : A * 2 ^ 64 + B = n - m) :
    Dt 42 #[wv h l, wv H L] (.tuple #[wv A B, .int .i64 0]) := fun w => by
  refine (wSub_yes h l n H L m w hh hl hn hH hL hm hle).mono ?_
  rintro e1 w1 ⟨h', l', rfl, _, hl', e2, hb⟩
  obtain ⟨rfl, rfl⟩ := of_parts h' l' A B hl' hB (by rw [e2, e])
  exact ⟨rfl, hb⟩
theorem dSubNo {h l n H L m : Nat} (hl : l < 2 ^ 64) (hn : h * 2 ^ 64 + l = n) (hL : L < 2 ^ 64) (hm : H * 2 ^ 64 + L = m) (hlt : n < m) :
    Dt 42 #[wv h l, wv H L] (.tuple #[.agg #[.int .u64 0, .int .u64 0], .int .i64 131]) := fun w => wSub_no h l n H L m w hl hn hL hm hlt
end Go.Proofs.Ytnhkecfapohlgaa

/-! Small laws: halves, exits, a string's iterator. -/
namespace Go.Proofs.Ytnhkecfapohlgaa
open Go Go.RowKit

theorem halves (v : Nat) : v / 2 ^ 64 * 2 ^ 64 + v % 2 ^ 64 = v := by omega
theorem half_lt (v : Nat) : v % 2 ^ 64 < 2 ^ 64 := Nat.mod_lt _ (by decide)
section
variable {id : Nat} {Q : Exit → Act → World → Prop} {a : Act} {w : World}
end

section
variable {P : Program} {ops : Array Oper} {w0 w : World} {L : List Rw} {Q : Exit → Act → World → Prop} {o : Oper} {rest : List Oper} {a : Act} {gi : Nat} {s : ByteArray} {pos : Nat}
/-- An iterator over a string, in a block of its own. -/
structure Iter (w0 : World) (L : List Rw) (gi : Nat) (s : ByteArray) (pos : Nat) (w : World) : Prop where
  here : w.heap[gi]? = some (.stringIter s pos)
  low : w0.heap.size ≤ gi
  apart : ∀ r ∈ L, r.1 ≠ gi
theorem Iter.kept {w1 : World} (h : Iter w0 L gi s pos w) (hb : Below w.heap.size w w1) : Iter w0 L gi s pos w1 :=
  ⟨(hb.block gi (Array.getElem?_eq_some_iff.1 h.here).1).trans h.here, h.low, h.apart⟩
theorem Iter.put {g : Nat} {cs cs' : Array Value} {T T' : TypeId} {w1 : World} (I : Iter w0 L gi s pos w) (j : Nat) (e : L[j]? = some (g, cs, T)) (hp : Put g cs' T' w w1) (L' : List Rw) (hL : ∀ r ∈ L', r.1 ≠ gi) : Iter w0 L' gi s pos w1 :=
  ⟨(hp.rest gi (fun e1 => I.apart _ (List.mem_of_getElem? e) e1.symm)).trans I.here, I.low, hL⟩
end
end Go.Proofs.Ytnhkecfapohlgaa

/-! The contracts of wide, told by whole numbers. -/
namespace Go.Proofs.Ytnhkecfapohlgaa
open Go Go.RowKit

abbrev nv (n : Nat) : Value := wv (n / 2 ^ 64) (n % 2 ^ 64)
abbrev iv (h l : Int) : Value := .agg #[.int .u64 h, .int .u64 l]
section
variable {h l h2 l2 x y m d a b : Int}
theorem nv_iv (n : Nat) : nv n = iv (hiV (n : Int)) (loV (n : Int)) := by
  have e1 : hiV (n : Int) = ((n / 2 ^ 64 : Nat) : Int) := by unfold hiV; omega
  have e2 : loV (n : Int) = ((n % 2 ^ 64 : Nat) : Int) := by unfold loV; omega
  rw [e1, e2]
theorem hi128 {n : Nat} (h : n < 2 ^ 128) : n / 2 ^ 64 < 2 ^ 64 := by omega
theorem up_scl {n m d : Nat} (hd : 0 < d) : upD ((n : Int) * m) d = ((scl n m d true : Nat) : Int) := by
  have e : scl n m d true = n * m / d + (if n * m % d ≠ 0 then 1 else 0) := by
    unfold scl
    by_cases h : n * m % d = 0 <;> simp [h]
  rw [e]
  unfold upD
  generalize hz : n * m = z
  have hzi : (n : Int) * m = (z : Int) := by rw [← hz]; exact (Int.natCast_mul n m).symm
  rw [hzi, show (z : Int) + d - 1 = ((z + d - 1 : Nat) : Int) from by omega, ← Int.natCast_ediv]
  refine congrArg Nat.cast ?_
  have h1 := Nat.div_add_mod z d
  have h2 := Nat.mod_lt z hd
  generalize z / d = q at h1 ⊢
  generalize z % d = r at h1 h2 ⊢
  subst h1
  by_cases h : r = 0
  · subst h
    rw [if_neg (by simp), show d * q + 0 + d - 1 = d * q + (d - 1) from by rw [Nat.add_zero, Nat.add_sub_assoc hd], Nat.mul_add_div hd, Nat.div_eq_of_lt (Nat.sub_lt hd (by decide))]
  · rw [if_pos h, show d * q + r + d - 1 = d * (q + 1) + (r - 1) from by rw [Nat.mul_add, Nat.mul_one]; generalize d * q = t; omega, Nat.mul_add_div hd, Nat.div_eq_of_lt (Nat.lt_of_le_of_lt (Nat.sub_le _ _) h2)]
theorem upD_one (x : Int) : upD x 1 = x := by unfold upD; rw [Int.ediv_one]; omega
/-- wide.Scale, of a product that has room. -/
theorem wscale_v (hx0 : 0 ≤ x) (hx1 : x < 340282366920938463463374607431768211456) (hm0 : 0 ≤ m) (hm1 : m < 18446744073709551616) (hd0 : 1 ≤ d) (hd1 : d < 18446744073709551616) (hv : upD (x * m) d < 340282366920938463463374607431768211456) :
    Dt 71 #[iv (hiV x) (loV x), .int .u64 m, .int .u64 d] (.tuple #[iv (hiV (upD (x * m) d)) (loV (upD (x * m) d)), .int .i64 0]) := by
  obtain ⟨n, rfl⟩ := Int.eq_ofNat_of_zero_le hx0
  obtain ⟨m, rfl⟩ := Int.eq_ofNat_of_zero_le hm0
  obtain ⟨d, rfl⟩ := Int.eq_ofNat_of_zero_le (show 0 ≤ d by omega)
  have e := up_scl (n := n) (m := m) (d := d) (by omega)
  have hv' : scl n m d true < 2 ^ 128 := by rw [e] at hv; omega
  rw [e, ← nv_iv, ← nv_iv]
  exact dScale (hi128 (by omega)) (half_lt n) (halves n) (by omega) (by omega) (by omega) (half_lt _) (sclRes_yes hv' (halves _))
theorem wadd_v (hx0 : 0 ≤ x) (hy0 : 0 ≤ y) (hx1 : x < 340282366920938463463374607431768211456) (hy1 : y < 340282366920938463463374607431768211456) (hv : x + y < 340282366920938463463374607431768211456) :
    Dt 47 #[iv (hiV x) (loV x), iv (hiV y) (loV y)] (.tuple #[iv (hiV (x + y)) (loV (x + y)), .int .i64 0]) := by
  obtain ⟨n, rfl⟩ := Int.eq_ofNat_of_zero_le hx0
  obtain ⟨m, rfl⟩ := Int.eq_ofNat_of_zero_le hy0
  rw [← Int.natCast_add, ← nv_iv, ← nv_iv, ← nv_iv]
  exact dAdd (hi128 (by omega)) (half_lt n) (halves n) (hi128 (by omega)) (half_lt m) (halves m) (half_lt _) (sclRes_yes (by omega) (halves _))
theorem wsub_ge (hx0 : 0 ≤ x) (hy0 : 0 ≤ y) (hx1 : x < 340282366920938463463374607431768211456) (hy1 : y < 340282366920938463463374607431768211456) (hv : ¬ x < y) :
    Dt 42 #[iv (hiV x) (loV x), iv (hiV y) (loV y)] (.tuple #[iv (hiV (x - y)) (loV (x - y)), .int .i64 0]) := by
  obtain ⟨n, rfl⟩ := Int.eq_ofNat_of_zero_le hx0
  obtain ⟨m, rfl⟩ := Int.eq_ofNat_of_zero_le hy0
  rw [← Int.ofNat_sub (by omega), ← nv_iv, ← nv_iv, ← nv_iv]
  exact dSubYes (hi128 (by omega)) (half_lt n) (halves n) (hi128 (by omega)) (half_lt m) (halves m) (by omega) (half_lt _) (halves _)
theorem wsub_lt (hx0 : 0 ≤ x) (hy0 : 0 ≤ y) (hv : x < y) :
    Dt 42 #[iv (hiV x) (loV x), iv (hiV y) (loV y)] (.tuple #[iv 0 0, .int .i64 131]) := by
  obtain ⟨n, rfl⟩ := Int.eq_ofNat_of_zero_le hx0
  obtain ⟨m, rfl⟩ := Int.eq_ofNat_of_zero_le hy0
  rw [← nv_iv, ← nv_iv]
  exact dSubNo (half_lt n) (halves n) (half_lt m) (halves m) (by omega)
theorem wcmp_v (hx0 : 0 ≤ x) (hy0 : 0 ≤ y) : Dt 40 #[iv (hiV x) (loV x), iv (hiV y) (loV y)] (.int .i64 (cmpI x y)) := by
  obtain ⟨n, rfl⟩ := Int.eq_ofNat_of_zero_le hx0
  obtain ⟨m, rfl⟩ := Int.eq_ofNat_of_zero_le hy0
  rw [← nv_iv, ← nv_iv]
  exact dCompare (half_lt n) (half_lt m) (halves n) (halves m)
theorem wmul_v (hx0 : 0 ≤ x) (hy0 : 0 ≤ y) (hx1 : x < 18446744073709551616) (hy1 : y < 18446744073709551616) : Dt 82 #[.int .u64 x, .int .u64 y] (iv (hiV (x * y)) (loV (x * y))) := by
  obtain ⟨n, rfl⟩ := Int.eq_ofNat_of_zero_le hx0
  obtain ⟨m, rfl⟩ := Int.eq_ofNat_of_zero_le hy0
  rw [← Int.natCast_mul, ← nv_iv]
  exact dMul (by omega) (by omega) (half_lt _) (halves _)
theorem wof_v (hx0 : 0 ≤ x) (hx1 : x < 18446744073709551616) : Dt 43 #[.int .u64 x] (iv (hiV x) (loV x)) := by
  obtain ⟨n, rfl⟩ := Int.eq_ofNat_of_zero_le hx0
  rw [show hiV (n : Int) = 0 from by unfold hiV; omega, show loV (n : Int) = n from by unfold loV; omega]
  exact dOf n
end
/- the same, of fractions -/
section
variable {f g : Fq} {n w s : Int}
theorem hl_num (hU : f.U) : iv f.hi f.lo = iv (hiV f.num) (loV f.num) := by rw [hU.hl.1, hU.hl.2]
theorem ftimes_v (hU : f.U) (hk : f.ok = true) (hw : wB w = true) : Dt 71 #[iv f.hi f.lo, .int .u64 w, .int .u64 1] (.tuple #[iv (hiV (f.num * w)) (loV (f.num * w)), .int .i64 0]) := by
  have h1 := wB_iff.1 hw
  have h2 := mul_lt hU.n0 (num_lt hU hk) (show 0 ≤ w by omega) h1.2
  have h3 := num_big hU
  have := wscale_v (x := f.num) (m := w) (d := 1) hU.n0 h3 (by omega) (by omega) (by decide) (by decide) (by rw [upD_one]; exact h2.2)
  rw [upD_one] at this
  rw [hl_num hU]; exact this
theorem fscale_v (hU : f.U) (hk : f.ok = true) (hw : wB w = true) : Dt 71 #[iv f.hi f.lo, .int .u64 w, .int .u64 f.w] (.tuple #[iv (hiV (upD (f.num * w) f.w)) (loV (upD (f.num * w) f.w)), .int .i64 0]) := by
  have h1 := wB_iff.1 hw
  have h4 := ok_iff.1 hk
  rw [hl_num hU]
  exact wscale_v hU.n0 (num_big hU) (by omega) (by omega) h4.1.1 (by omega) (upN_r hU hk hw).2
theorem fadd_v (hU : f.U) (hk : f.ok = true) (h0 : 0 ≤ n) (h1 : n < 18446744073709551616) : Dt 47 #[iv f.hi f.lo, iv (hiV n) (loV n)] (.tuple #[iv (hiV (f.num + n)) (loV (f.num + n)), .int .i64 0]) := by
  rw [hl_num hU]
  exact wadd_v hU.n0 h0 (num_big hU) (by omega) (add_r hU hk h0 h1).2
theorem fsub_ge (hU : f.U) (h0 : 0 ≤ n) (hv : ¬ f.num < n) : Dt 42 #[iv f.hi f.lo, iv (hiV n) (loV n)] (.tuple #[iv (hiV (f.num - n)) (loV (f.num - n)), .int .i64 0]) := by
  rw [hl_num hU]
  exact wsub_ge hU.n0 h0 (num_big hU) (by have := num_big hU; omega) hv
theorem fsub_lt (hU : f.U) (h0 : 0 ≤ n) (hv : f.num < n) : Dt 42 #[iv f.hi f.lo, iv (hiV n) (loV n)] (.tuple #[iv 0 0, .int .i64 131]) := by
  rw [hl_num hU]
  exact wsub_lt hU.n0 h0 hv
end
end Go.Proofs.Ytnhkecfapohlgaa

/-! The reference's comparison of fractions (lines of chapter 5's text, turned to this seat). -/
namespace Go.Proofs.Ytnhkecfapohlgaa
open Go Go.RowKit

abbrev fv (h l w : Nat) : Value := .agg #[.int .u64 h, .int .u64 l, .int .u64 w]
set_option maxRecDepth 100000 in
set_option maxHeartbeats 1000000 in
theorem rcmp_lt (h l x H L X n m p q : Nat) (w : World)
    (HO1 : Hid (Dt 75 #[wv h l] (.agg (bA n))))
    (HP1 : Hid (Dt 74 #[.agg (bA n), .int .u64 X] (.agg (bA p))))
    (HO2 : Hid (Dt 75 #[wv H L] (.agg (bA m))))
    (HP2 : Hid (Dt 74 #[.agg (bA m), .int .u64 x] (.agg (bA q))))
    (HL1 : Hid (Dt 76 #[.agg (bA p), .agg (bA q)] (.bool true)))
    (HL2 : Hid (Dt 76 #[.agg (bA q), .agg (bA p)] (.bool false)))
    : Calls Try.prog 50 #[fv h l x, fv H L X] w fun e w' => e = .returned (.int .i64 (-1)) ∧ Below w.heap.size w w' := by
  have M0 := Has.start w
  go_enter Try.func50, Try.ntmps50
  refine wp_seq_k (fun K1 H1 => ?_)
  refine sq_region ?_
  refine sq_alloc rfl M0 (T := 33) (z := #[.int .u64 h, .int .u64 l, .int .u64 x]) (fun w' => by go_simp) (fun K hK => ?_)
  intro g2 w1 M1
  clear M0
  go_simp; refine hK _ _ ?_; clear hK K
  refine sq_alloc rfl M1 (T := 33) (z := #[.int .u64 H, .int .u64 L, .int .u64 X]) (fun w' => by go_simp) (fun K hK => ?_)
  intro g3 w2 M2
  clear M1
  go_simp; refine hK _ _ ?_; clear hK K
  refine sq_ex rfl (fun K hK => ?_); apply Exists.intro; refine ⟨?_, ?_⟩; (focus (go_simp; try exact rfl)); go_simp; refine hK _ _ ?_; clear hK K
  refine sq_nil ?_
  refine H1 _ _ ?_
  clear H1 K1
  refine wp_seq_k (fun K2 H2 => ?_)
  refine wp_region_rows (L := [(g2, #[.int .u64 h, .int .u64 l, .int .u64 x], 33), (g3, #[.int .u64 H, .int .u64 L, .int .u64 X], 33)]) [(6, .box 111 (bA 0) 7)] [(2, fun v => v = .agg (bA n)), (5, fun v => v = .agg (bA p)), (6, fun v => ∃ g, v = .pointer (some ⟨g, 0, none⟩))] M2 (by kernel_rfl) (by kernel_rfl) (by kernel_rfl) (by kernel_rfl) ?_
  refine rs_ex rfl rfl rfl rfl rfl ⟨_, M2⟩ (fun K hK => ?_); apply Exists.intro; refine ⟨fun w' hw => ?_, ?_⟩; (focus (go_simp; try exact rfl)); go_simp; refine hK _ ?_; clear hK K
  refine rs_ex rfl rfl rfl rfl rfl ⟨_, M2⟩ (fun K hK => ?_); refine ⟨_, fun w' hw => run_ldm [.int .u64 h, .int .u64 l] rfl rfl (hw.row 0 rfl) (fun j v h => by match j with | 0 => simpa using h | 1 => simpa using h | (k + 2) => simp at h) rfl Try.underlying31 wide_size, ?_⟩; go_simp; refine hK _ ?_; clear hK K
  refine rs_call rfl rfl (fun v => v = .agg (bA n)) rfl rfl ⟨_, rfl⟩ (fun w' => by go_simp) (fun w' hw => (HO1.out w').mono fun e w'' hh => ⟨_, hh.1, rfl, hh.2⟩) (fun K hK => ?_); rintro _ rfl; go_simp; refine hK _ ?_; clear hK K
  refine rs_ex rfl rfl rfl rfl rfl ⟨_, M2⟩ (fun K hK => ?_); apply Exists.intro; refine ⟨fun w' hw => ?_, ?_⟩; (focus (go_simp; try exact rfl)); go_simp; refine hK _ ?_; clear hK K
  refine rs_ex rfl rfl rfl rfl rfl ⟨_, M2⟩ (fun K hK => ?_); apply Exists.intro; refine ⟨fun w' hw => ?_, ?_⟩; (focus (have c := IsR.cell (hw.row 1 rfl); have f := IsR.froz (hw.row 1 rfl); go_simp; try exact rfl)); go_simp; refine hK _ ?_; clear hK K
  refine rs_call rfl rfl (fun v => v = .agg (bA p)) rfl rfl ⟨_, rfl⟩ (fun w' => by go_simp) (fun w' hw => (HP1.out w').mono fun e w'' hh => ⟨_, hh.1, rfl, hh.2⟩) (fun K hK => ?_); rintro _ rfl; go_simp; refine hK _ ?_; clear hK K
  refine rs_alloc rfl rfl rfl 0 rfl rfl rfl (by decide) (by kernel_rfl) (fun w' => by have hz := bits_zero w'; go_simp) (fun K hK => ?_); intro g5; go_simp; refine hK _ ?_; clear hK K
  refine rs_store rfl rfl rfl rfl ⟨_, M2⟩ rfl 0 rfl rfl (by decide) rfl rfl (by kernel_rfl) rfl rfl (run_st (cs := (bA p)) rfl rfl rfl (bits_size _) (by rw [bA_size, bA_size]) (bA_oneCell _)) (fun K hK => ?_); go_simp; refine hK _ ?_; clear hK K
  refine rs_nil ?_
  intro w3 M
  have M3 : Has w [(g2, #[.int .u64 h, .int .u64 l, .int .u64 x], 33), (g3, #[.int .u64 H, .int .u64 L, .int .u64 X], 33), (g5, (bA p), 111)] w3 := M
  clear M2 M
  refine H2 _ _ ?_
  clear H2 K2
  refine wp_seq_k (fun K3 H3 => ?_)
  refine wp_region_rows (L := [(g2, #[.int .u64 h, .int .u64 l, .int .u64 x], 33), (g3, #[.int .u64 H, .int .u64 L, .int .u64 X], 33), (g5, (bA p), 111)]) [(6, .box 111 (bA 0) 7)] [(2, fun v => v = .agg (bA m)), (5, fun v => v = .agg (bA q)), (6, fun v => ∃ g, v = .pointer (some ⟨g, 0, none⟩))] M3 (by kernel_rfl) (by kernel_rfl) (by kernel_rfl) (by kernel_rfl) ?_
  refine rs_ex rfl rfl rfl rfl rfl ⟨_, M3⟩ (fun K hK => ?_); apply Exists.intro; refine ⟨fun w' hw => ?_, ?_⟩; (focus (go_simp; try exact rfl)); go_simp; refine hK _ ?_; clear hK K
  refine rs_ex rfl rfl rfl rfl rfl ⟨_, M3⟩ (fun K hK => ?_); refine ⟨_, fun w' hw => run_ldm [.int .u64 H, .int .u64 L] rfl rfl (hw.row 1 rfl) (fun j v h => by match j with | 0 => simpa using h | 1 => simpa using h | (k + 2) => simp at h) rfl Try.underlying31 wide_size, ?_⟩; go_simp; refine hK _ ?_; clear hK K
  refine rs_call rfl rfl (fun v => v = .agg (bA m)) rfl rfl ⟨_, rfl⟩ (fun w' => by go_simp) (fun w' hw => (HO2.out w').mono fun e w'' hh => ⟨_, hh.1, rfl, hh.2⟩) (fun K hK => ?_); rintro _ rfl; go_simp; refine hK _ ?_; clear hK K
  refine rs_ex rfl rfl rfl rfl rfl ⟨_, M3⟩ (fun K hK => ?_); apply Exists.intro; refine ⟨fun w' hw => ?_, ?_⟩; (focus (go_simp; try exact rfl)); go_simp; refine hK _ ?_; clear hK K
  refine rs_ex rfl rfl rfl rfl rfl ⟨_, M3⟩ (fun K hK => ?_); apply Exists.intro; refine ⟨fun w' hw => ?_, ?_⟩; (focus (have c := IsR.cell (hw.row 0 rfl); have f := IsR.froz (hw.row 0 rfl); go_simp; try exact rfl)); go_simp; refine hK _ ?_; clear hK K
  refine rs_call rfl rfl (fun v => v = .agg (bA q)) rfl rfl ⟨_, rfl⟩ (fun w' => by go_simp) (fun w' hw => (HP2.out w').mono fun e w'' hh => ⟨_, hh.1, rfl, hh.2⟩) (fun K hK => ?_); rintro _ rfl; go_simp; refine hK _ ?_; clear hK K
  refine rs_alloc rfl rfl rfl 0 rfl rfl rfl (by decide) (by kernel_rfl) (fun w' => by have hz := bits_zero w'; go_simp) (fun K hK => ?_); intro g6; go_simp; refine hK _ ?_; clear hK K
  refine rs_store rfl rfl rfl rfl ⟨_, M3⟩ rfl 0 rfl rfl (by decide) rfl rfl (by kernel_rfl) rfl rfl (run_st (cs := (bA q)) rfl rfl rfl (bits_size _) (by rw [bA_size, bA_size]) (bA_oneCell _)) (fun K hK => ?_); go_simp; refine hK _ ?_; clear hK K
  refine rs_nil ?_
  intro w4 M
  have M4 : Has w [(g2, #[.int .u64 h, .int .u64 l, .int .u64 x], 33), (g3, #[.int .u64 H, .int .u64 L, .int .u64 X], 33), (g5, (bA p), 111), (g6, (bA q), 111)] w4 := M
  clear M3 M
  refine H3 _ _ ?_
  clear H3 K3
  refine wp_seq_k (fun K4 H4 => ?_)
  refine wp_seq_k (fun K5 H5 => ?_)
  refine sq_region ?_
  refine sq_ex rfl (fun K hK => ?_); refine ⟨_, run_ld rfl rfl (M4.row 2 rfl) rfl Try.underlying111 (bits_size _), ?_⟩; go_simp; refine hK _ _ ?_; clear hK K
  refine sq_ex rfl (fun K hK => ?_); refine ⟨_, run_ld rfl rfl (M4.row 3 rfl) rfl Try.underlying111 (bits_size _), ?_⟩; go_simp; refine hK _ _ ?_; clear hK K
  refine sq_call rfl (fun w' => by go_simp) (HL1.out _) (fun K hK => ?_)
  rintro e w5 ⟨rfl, hb⟩
  refine ⟨_, rfl, ?_⟩
  have M5 := M4.kept hb
  clear M4 hb
  go_simp; refine hK _ _ ?_; clear hK K
  refine sq_nil ?_
  refine H5 _ _ ?_
  clear H5 K5
  refine wp_cond_true rfl ?_
  refine wp_seq_k (fun K6 H6 => ?_)
  refine sq_region ?_
  refine sq_ex rfl (fun K hK => ?_); apply Exists.intro; refine ⟨?_, ?_⟩; (focus (go_simp; try exact rfl)); go_simp; refine hK _ _ ?_; clear hK K
  refine sq_nil ?_
  refine H6 _ _ ?_
  clear H6 K6
  refine wp_ret ?_
  go_ret
  exact ⟨rfl, M5.below⟩

set_option maxRecDepth 100000 in
set_option maxHeartbeats 1000000 in
theorem rcmp_gt (h l x H L X n m p q : Nat) (w : World)
    (HO1 : Hid (Dt 75 #[wv h l] (.agg (bA n))))
    (HP1 : Hid (Dt 74 #[.agg (bA n), .int .u64 X] (.agg (bA p))))
    (HO2 : Hid (Dt 75 #[wv H L] (.agg (bA m))))
    (HP2 : Hid (Dt 74 #[.agg (bA m), .int .u64 x] (.agg (bA q))))
    (HL1 : Hid (Dt 76 #[.agg (bA p), .agg (bA q)] (.bool false)))
    (HL2 : Hid (Dt 76 #[.agg (bA q), .agg (bA p)] (.bool true)))
    : Calls Try.prog 50 #[fv h l x, fv H L X] w fun e w' => e = .returned (.int .i64 1) ∧ Below w.heap.size w w' := by
  have M0 := Has.start w
  go_enter Try.func50, Try.ntmps50
  refine wp_seq_k (fun K1 H1 => ?_)
  refine sq_region ?_
  refine sq_alloc rfl M0 (T := 33) (z := #[.int .u64 h, .int .u64 l, .int .u64 x]) (fun w' => by go_simp) (fun K hK => ?_)
  intro g2 w1 M1
  clear M0
  go_simp; refine hK _ _ ?_; clear hK K
  refine sq_alloc rfl M1 (T := 33) (z := #[.int .u64 H, .int .u64 L, .int .u64 X]) (fun w' => by go_simp) (fun K hK => ?_)
  intro g3 w2 M2
  clear M1
  go_simp; refine hK _ _ ?_; clear hK K
  refine sq_ex rfl (fun K hK => ?_); apply Exists.intro; refine ⟨?_, ?_⟩; (focus (go_simp; try exact rfl)); go_simp; refine hK _ _ ?_; clear hK K
  refine sq_nil ?_
  refine H1 _ _ ?_
  clear H1 K1
  refine wp_seq_k (fun K2 H2 => ?_)
  refine wp_region_rows (L := [(g2, #[.int .u64 h, .int .u64 l, .int .u64 x], 33), (g3, #[.int .u64 H, .int .u64 L, .int .u64 X], 33)]) [(6, .box 111 (bA 0) 7)] [(2, fun v => v = .agg (bA n)), (5, fun v => v = .agg (bA p)), (6, fun v => ∃ g, v = .pointer (some ⟨g, 0, none⟩))] M2 (by kernel_rfl) (by kernel_rfl) (by kernel_rfl) (by kernel_rfl) ?_
  refine rs_ex rfl rfl rfl rfl rfl ⟨_, M2⟩ (fun K hK => ?_); apply Exists.intro; refine ⟨fun w' hw => ?_, ?_⟩; (focus (go_simp; try exact rfl)); go_simp; refine hK _ ?_; clear hK K
  refine rs_ex rfl rfl rfl rfl rfl ⟨_, M2⟩ (fun K hK => ?_); refine ⟨_, fun w' hw => run_ldm [.int .u64 h, .int .u64 l] rfl rfl (hw.row 0 rfl) (fun j v h => by match j with | 0 => simpa using h | 1 => simpa using h | (k + 2) => simp at h) rfl Try.underlying31 wide_size, ?_⟩; go_simp; refine hK _ ?_; clear hK K
  refine rs_call rfl rfl (fun v => v = .agg (bA n)) rfl rfl ⟨_, rfl⟩ (fun w' => by go_simp) (fun w' hw => (HO1.out w').mono fun e w'' hh => ⟨_, hh.1, rfl, hh.2⟩) (fun K hK => ?_); rintro _ rfl; go_simp; refine hK _ ?_; clear hK K
  refine rs_ex rfl rfl rfl rfl rfl ⟨_, M2⟩ (fun K hK => ?_); apply Exists.intro; refine ⟨fun w' hw => ?_, ?_⟩; (focus (go_simp; try exact rfl)); go_simp; refine hK _ ?_; clear hK K
  refine rs_ex rfl rfl rfl rfl rfl ⟨_, M2⟩ (fun K hK => ?_); apply Exists.intro; refine ⟨fun w' hw => ?_, ?_⟩; (focus (have c := IsR.cell (hw.row 1 rfl); have f := IsR.froz (hw.row 1 rfl); go_simp; try exact rfl)); go_simp; refine hK _ ?_; clear hK K
  refine rs_call rfl rfl (fun v => v = .agg (bA p)) rfl rfl ⟨_, rfl⟩ (fun w' => by go_simp) (fun w' hw => (HP1.out w').mono fun e w'' hh => ⟨_, hh.1, rfl, hh.2⟩) (fun K hK => ?_); rintro _ rfl; go_simp; refine hK _ ?_; clear hK K
  refine rs_alloc rfl rfl rfl 0 rfl rfl rfl (by decide) (by kernel_rfl) (fun w' => by have hz := bits_zero w'; go_simp) (fun K hK => ?_); intro g5; go_simp; refine hK _ ?_; clear hK K
  refine rs_store rfl rfl rfl rfl ⟨_, M2⟩ rfl 0 rfl rfl (by decide) rfl rfl (by kernel_rfl) rfl rfl (run_st (cs := (bA p)) rfl rfl rfl (bits_size _) (by rw [bA_size, bA_size]) (bA_oneCell _)) (fun K hK => ?_); go_simp; refine hK _ ?_; clear hK K
  refine rs_nil ?_
  intro w3 M
  have M3 : Has w [(g2, #[.int .u64 h, .int .u64 l, .int .u64 x], 33), (g3, #[.int .u64 H, .int .u64 L, .int .u64 X], 33), (g5, (bA p), 111)] w3 := M
  clear M2 M
  refine H2 _ _ ?_
  clear H2 K2
  refine wp_seq_k (fun K3 H3 => ?_)
  refine wp_region_rows (L := [(g2, #[.int .u64 h, .int .u64 l, .int .u64 x], 33), (g3, #[.int .u64 H, .int .u64 L, .int .u64 X], 33), (g5, (bA p), 111)]) [(6, .box 111 (bA 0) 7)] [(2, fun v => v = .agg (bA m)), (5, fun v => v = .agg (bA q)), (6, fun v => ∃ g, v = .pointer (some ⟨g, 0, none⟩))] M3 (by kernel_rfl) (by kernel_rfl) (by kernel_rfl) (by kernel_rfl) ?_
  refine rs_ex rfl rfl rfl rfl rfl ⟨_, M3⟩ (fun K hK => ?_); apply Exists.intro; refine ⟨fun w' hw => ?_, ?_⟩; (focus (go_simp; try exact rfl)); go_simp; refine hK _ ?_; clear hK K
  refine rs_ex rfl rfl rfl rfl rfl ⟨_, M3⟩ (fun K hK => ?_); refine ⟨_, fun w' hw => run_ldm [.int .u64 H, .int .u64 L] rfl rfl (hw.row 1 rfl) (fun j v h => by match j with | 0 => simpa using h | 1 => simpa using h | (k + 2) => simp at h) rfl Try.underlying31 wide_size, ?_⟩; go_simp; refine hK _ ?_; clear hK K
  refine rs_call rfl rfl (fun v => v = .agg (bA m)) rfl rfl ⟨_, rfl⟩ (fun w' => by go_simp) (fun w' hw => (HO2.out w').mono fun e w'' hh => ⟨_, hh.1, rfl, hh.2⟩) (fun K hK => ?_); rintro _ rfl; go_simp; refine hK _ ?_; clear hK K
  refine rs_ex rfl rfl rfl rfl rfl ⟨_, M3⟩ (fun K hK => ?_); apply Exists.intro; refine ⟨fun w' hw => ?_, ?_⟩; (focus (go_simp; try exact rfl)); go_simp; refine hK _ ?_; clear hK K
  refine rs_ex rfl rfl rfl rfl rfl ⟨_, M3⟩ (fun K hK => ?_); apply Exists.intro; refine ⟨fun w' hw => ?_, ?_⟩; (focus (have c := IsR.cell (hw.row 0 rfl); have f := IsR.froz (hw.row 0 rfl); go_simp; try exact rfl)); go_simp; refine hK _ ?_; clear hK K
  refine rs_call rfl rfl (fun v => v = .agg (bA q)) rfl rfl ⟨_, rfl⟩ (fun w' => by go_simp) (fun w' hw => (HP2.out w').mono fun e w'' hh => ⟨_, hh.1, rfl, hh.2⟩) (fun K hK => ?_); rintro _ rfl; go_simp; refine hK _ ?_; clear hK K
  refine rs_alloc rfl rfl rfl 0 rfl rfl rfl (by decide) (by kernel_rfl) (fun w' => by have hz := bits_zero w'; go_simp) (fun K hK => ?_); intro g6; go_simp; refine hK _ ?_; clear hK K
  refine rs_store rfl rfl rfl rfl ⟨_, M3⟩ rfl 0 rfl rfl (by decide) rfl rfl (by kernel_rfl) rfl rfl (run_st (cs := (bA q)) rfl rfl rfl (bits_size _) (by rw [bA_size, bA_size]) (bA_oneCell _)) (fun K hK => ?_); go_simp; refine hK _ ?_; clear hK K
  refine rs_nil ?_
  intro w4 M
  have M4 : Has w [(g2, #[.int .u64 h, .int .u64 l, .int .u64 x], 33), (g3, #[.int .u64 H, .int .u64 L, .int .u64 X], 33), (g5, (bA p), 111), (g6, (bA q), 111)] w4 := M
  clear M3 M
  refine H3 _ _ ?_
  clear H3 K3
  refine wp_seq_k (fun K4 H4 => ?_)
  refine wp_seq_k (fun K5 H5 => ?_)
  refine sq_region ?_
  refine sq_ex rfl (fun K hK => ?_); refine ⟨_, run_ld rfl rfl (M4.row 2 rfl) rfl Try.underlying111 (bits_size _), ?_⟩; go_simp; refine hK _ _ ?_; clear hK K
  refine sq_ex rfl (fun K hK => ?_); refine ⟨_, run_ld rfl rfl (M4.row 3 rfl) rfl Try.underlying111 (bits_size _), ?_⟩; go_simp; refine hK _ _ ?_; clear hK K
  refine sq_call rfl (fun w' => by go_simp) (HL1.out _) (fun K hK => ?_)
  rintro e w5 ⟨rfl, hb⟩
  refine ⟨_, rfl, ?_⟩
  have M5 := M4.kept hb
  clear M4 hb
  go_simp; refine hK _ _ ?_; clear hK K
  refine sq_nil ?_
  refine H5 _ _ ?_
  clear H5 K5
  refine wp_cond_false rfl ?_
  refine wp_skip ?_
  refine H4 _ _ ?_
  clear H4 K4
  refine wp_seq_k (fun K6 H6 => ?_)
  refine wp_seq_k (fun K7 H7 => ?_)
  refine sq_region ?_
  refine sq_ex rfl (fun K hK => ?_); refine ⟨_, run_ld rfl rfl (M5.row 3 rfl) rfl Try.underlying111 (bits_size _), ?_⟩; go_simp; refine hK _ _ ?_; clear hK K
  refine sq_ex rfl (fun K hK => ?_); refine ⟨_, run_ld rfl rfl (M5.row 2 rfl) rfl Try.underlying111 (bits_size _), ?_⟩; go_simp; refine hK _ _ ?_; clear hK K
  refine sq_call rfl (fun w' => by go_simp) (HL2.out _) (fun K hK => ?_)
  rintro e w6 ⟨rfl, hb⟩
  refine ⟨_, rfl, ?_⟩
  have M6 := M5.kept hb
  clear M5 hb
  go_simp; refine hK _ _ ?_; clear hK K
  refine sq_nil ?_
  refine H7 _ _ ?_
  clear H7 K7
  refine wp_cond_true rfl ?_
  refine wp_seq_k (fun K8 H8 => ?_)
  refine sq_region ?_
  refine sq_ex rfl (fun K hK => ?_); apply Exists.intro; refine ⟨?_, ?_⟩; (focus (go_simp; try exact rfl)); go_simp; refine hK _ _ ?_; clear hK K
  refine sq_nil ?_
  refine H8 _ _ ?_
  clear H8 K8
  refine wp_ret ?_
  go_ret
  exact ⟨rfl, M6.below⟩

set_option maxRecDepth 100000 in
set_option maxHeartbeats 1000000 in
theorem rcmp_eq (h l x H L X n m p q : Nat) (w : World)
    (HO1 : Hid (Dt 75 #[wv h l] (.agg (bA n))))
    (HP1 : Hid (Dt 74 #[.agg (bA n), .int .u64 X] (.agg (bA p))))
    (HO2 : Hid (Dt 75 #[wv H L] (.agg (bA m))))
    (HP2 : Hid (Dt 74 #[.agg (bA m), .int .u64 x] (.agg (bA q))))
    (HL1 : Hid (Dt 76 #[.agg (bA p), .agg (bA q)] (.bool false)))
    (HL2 : Hid (Dt 76 #[.agg (bA q), .agg (bA p)] (.bool false)))
    : Calls Try.prog 50 #[fv h l x, fv H L X] w fun e w' => e = .returned (.int .i64 0) ∧ Below w.heap.size w w' := by
  have M0 := Has.start w
  go_enter Try.func50, Try.ntmps50
  refine wp_seq_k (fun K1 H1 => ?_)
  refine sq_region ?_
  refine sq_alloc rfl M0 (T := 33) (z := #[.int .u64 h, .int .u64 l, .int .u64 x]) (fun w' => by go_simp) (fun K hK => ?_)
  intro g2 w1 M1
  clear M0
  go_simp; refine hK _ _ ?_; clear hK K
  refine sq_alloc rfl M1 (T := 33) (z := #[.int .u64 H, .int .u64 L, .int .u64 X]) (fun w' => by go_simp) (fun K hK => ?_)
  intro g3 w2 M2
  clear M1
  go_simp; refine hK _ _ ?_; clear hK K
  refine sq_ex rfl (fun K hK => ?_); apply Exists.intro; refine ⟨?_, ?_⟩; (focus (go_simp; try exact rfl)); go_simp; refine hK _ _ ?_; clear hK K
  refine sq_nil ?_
  refine H1 _ _ ?_
  clear H1 K1
  refine wp_seq_k (fun K2 H2 => ?_)
  refine wp_region_rows (L := [(g2, #[.int .u64 h, .int .u64 l, .int .u64 x], 33), (g3, #[.int .u64 H, .int .u64 L, .int .u64 X], 33)]) [(6, .box 111 (bA 0) 7)] [(2, fun v => v = .agg (bA n)), (5, fun v => v = .agg (bA p)), (6, fun v => ∃ g, v = .pointer (some ⟨g, 0, none⟩))] M2 (by kernel_rfl) (by kernel_rfl) (by kernel_rfl) (by kernel_rfl) ?_
  refine rs_ex rfl rfl rfl rfl rfl ⟨_, M2⟩ (fun K hK => ?_); apply Exists.intro; refine ⟨fun w' hw => ?_, ?_⟩; (focus (go_simp; try exact rfl)); go_simp; refine hK _ ?_; clear hK K
  refine rs_ex rfl rfl rfl rfl rfl ⟨_, M2⟩ (fun K hK => ?_); refine ⟨_, fun w' hw => run_ldm [.int .u64 h, .int .u64 l] rfl rfl (hw.row 0 rfl) (fun j v h => by match j with | 0 => simpa using h | 1 => simpa using h | (k + 2) => simp at h) rfl Try.underlying31 wide_size, ?_⟩; go_simp; refine hK _ ?_; clear hK K
  refine rs_call rfl rfl (fun v => v = .agg (bA n)) rfl rfl ⟨_, rfl⟩ (fun w' => by go_simp) (fun w' hw => (HO1.out w').mono fun e w'' hh => ⟨_, hh.1, rfl, hh.2⟩) (fun K hK => ?_); rintro _ rfl; go_simp; refine hK _ ?_; clear hK K
  refine rs_ex rfl rfl rfl rfl rfl ⟨_, M2⟩ (fun K hK => ?_); apply Exists.intro; refine ⟨fun w' hw => ?_, ?_⟩; (focus (go_simp; try exact rfl)); go_simp; refine hK _ ?_; clear hK K
  refine rs_ex rfl rfl rfl rfl rfl ⟨_, M2⟩ (fun K hK => ?_); apply Exists.intro; refine ⟨fun w' hw => ?_, ?_⟩; (focus (have c := IsR.cell (hw.row 1 rfl); have f := IsR.froz (hw.row 1 rfl); go_simp; try exact rfl)); go_simp; refine hK _ ?_; clear hK K
  refine rs_call rfl rfl (fun v => v = .agg (bA p)) rfl rfl ⟨_, rfl⟩ (fun w' => by go_simp) (fun w' hw => (HP1.out w').mono fun e w'' hh => ⟨_, hh.1, rfl, hh.2⟩) (fun K hK => ?_); rintro _ rfl; go_simp; refine hK _ ?_; clear hK K
  refine rs_alloc rfl rfl rfl 0 rfl rfl rfl (by decide) (by kernel_rfl) (fun w' => by have hz := bits_zero w'; go_simp) (fun K hK => ?_); intro g5; go_simp; refine hK _ ?_; clear hK K
  refine rs_store rfl rfl rfl rfl ⟨_, M2⟩ rfl 0 rfl rfl (by decide) rfl rfl (by kernel_rfl) rfl rfl (run_st (cs := (bA p)) rfl rfl rfl (bits_size _) (by rw [bA_size, bA_size]) (bA_oneCell _)) (fun K hK => ?_); go_simp; refine hK _ ?_; clear hK K
  refine rs_nil ?_
  intro w3 M
  have M3 : Has w [(g2, #[.int .u64 h, .int .u64 l, .int .u64 x], 33), (g3, #[.int .u64 H, .int .u64 L, .int .u64 X], 33), (g5, (bA p), 111)] w3 := M
  clear M2 M
  refine H2 _ _ ?_
  clear H2 K2
  refine wp_seq_k (fun K3 H3 => ?_)
  refine wp_region_rows (L := [(g2, #[.int .u64 h, .int .u64 l, .int .u64 x], 33), (g3, #[.int .u64 H, .int .u64 L, .int .u64 X], 33), (g5, (bA p), 111)]) [(6, .box 111 (bA 0) 7)] [(2, fun v => v = .agg (bA m)), (5, fun v => v = .agg (bA q)), (6, fun v => ∃ g, v = .pointer (some ⟨g, 0, none⟩))] M3 (by kernel_rfl) (by kernel_rfl) (by kernel_rfl) (by kernel_rfl) ?_
  refine rs_ex rfl rfl rfl rfl rfl ⟨_, M3⟩ (fun K hK => ?_); apply Exists.intro; refine ⟨fun w' hw => ?_, ?_⟩; (focus (go_simp; try exact rfl)); go_simp; refine hK _ ?_; clear hK K
  refine rs_ex rfl rfl rfl rfl rfl ⟨_, M3⟩ (fun K hK => ?_); refine ⟨_, fun w' hw => run_ldm [.int .u64 H, .int .u64 L] rfl rfl (hw.row 1 rfl) (fun j v h => by match j with | 0 => simpa using h | 1 => simpa using h | (k + 2) => simp at h) rfl Try.underlying31 wide_size, ?_⟩; go_simp; refine hK _ ?_; clear hK K
  refine rs_call rfl rfl (fun v => v = .agg (bA m)) rfl rfl ⟨_, rfl⟩ (fun w' => by go_simp) (fun w' hw => (HO2.out w').mono fun e w'' hh => ⟨_, hh.1, rfl, hh.2⟩) (fun K hK => ?_); rintro _ rfl; go_simp; refine hK _ ?_; clear hK K
  refine rs_ex rfl rfl rfl rfl rfl ⟨_, M3⟩ (fun K hK => ?_); apply Exists.intro; refine ⟨fun w' hw => ?_, ?_⟩; (focus (go_simp; try exact rfl)); go_simp; refine hK _ ?_; clear hK K
  refine rs_ex rfl rfl rfl rfl rfl ⟨_, M3⟩ (fun K hK => ?_); apply Exists.intro; refine ⟨fun w' hw => ?_, ?_⟩; (focus (have c := IsR.cell (hw.row 0 rfl); have f := IsR.froz (hw.row 0 rfl); go_simp; try exact rfl)); go_simp; refine hK _ ?_; clear hK K
  refine rs_call rfl rfl (fun v => v = .agg (bA q)) rfl rfl ⟨_, rfl⟩ (fun w' => by go_simp) (fun w' hw => (HP2.out w').mono fun e w'' hh => ⟨_, hh.1, rfl, hh.2⟩) (fun K hK => ?_); rintro _ rfl; go_simp; refine hK _ ?_; clear hK K
  refine rs_alloc rfl rfl rfl 0 rfl rfl rfl (by decide) (by kernel_rfl) (fun w' => by have hz := bits_zero w'; go_simp) (fun K hK => ?_); intro g6; go_simp; refine hK _ ?_; clear hK K
  refine rs_store rfl rfl rfl rfl ⟨_, M3⟩ rfl 0 rfl rfl (by decide) rfl rfl (by kernel_rfl) rfl rfl (run_st (cs := (bA q)) rfl rfl rfl (bits_size _) (by rw [bA_size, bA_size]) (bA_oneCell _)) (fun K hK => ?_); go_simp; refine hK _ ?_; clear hK K
  refine rs_nil ?_
  intro w4 M
  have M4 : Has w [(g2, #[.int .u64 h, .int .u64 l, .int .u64 x], 33), (g3, #[.int .u64 H, .int .u64 L, .int .u64 X], 33), (g5, (bA p), 111), (g6, (bA q), 111)] w4 := M
  clear M3 M
  refine H3 _ _ ?_
  clear H3 K3
  refine wp_seq_k (fun K4 H4 => ?_)
  refine wp_seq_k (fun K5 H5 => ?_)
  refine sq_region ?_
  refine sq_ex rfl (fun K hK => ?_); refine ⟨_, run_ld rfl rfl (M4.row 2 rfl) rfl Try.underlying111 (bits_size _), ?_⟩; go_simp; refine hK _ _ ?_; clear hK K
  refine sq_ex rfl (fun K hK => ?_); refine ⟨_, run_ld rfl rfl (M4.row 3 rfl) rfl Try.underlying111 (bits_size _), ?_⟩; go_simp; refine hK _ _ ?_; clear hK K
  refine sq_call rfl (fun w' => by go_simp) (HL1.out _) (fun K hK => ?_)
  rintro e w5 ⟨rfl, hb⟩
  refine ⟨_, rfl, ?_⟩
  have M5 := M4.kept hb
  clear M4 hb
  go_simp; refine hK _ _ ?_; clear hK K
  refine sq_nil ?_
  refine H5 _ _ ?_
  clear H5 K5
  refine wp_cond_false rfl ?_
  refine wp_skip ?_
  refine H4 _ _ ?_
  clear H4 K4
  refine wp_seq_k (fun K6 H6 => ?_)
  refine wp_seq_k (fun K7 H7 => ?_)
  refine sq_region ?_
  refine sq_ex rfl (fun K hK => ?_); refine ⟨_, run_ld rfl rfl (M5.row 3 rfl) rfl Try.underlying111 (bits_size _), ?_⟩; go_simp; refine hK _ _ ?_; clear hK K
  refine sq_ex rfl (fun K hK => ?_); refine ⟨_, run_ld rfl rfl (M5.row 2 rfl) rfl Try.underlying111 (bits_size _), ?_⟩; go_simp; refine hK _ _ ?_; clear hK K
  refine sq_call rfl (fun w' => by go_simp) (HL2.out _) (fun K hK => ?_)
  rintro e w6 ⟨rfl, hb⟩
  refine ⟨_, rfl, ?_⟩
  have M6 := M5.kept hb
  clear M5 hb
  go_simp; refine hK _ _ ?_; clear hK K
  refine sq_nil ?_
  refine H7 _ _ ?_
  clear H7 K7
  refine wp_cond_false rfl ?_
  refine wp_skip ?_
  refine H6 _ _ ?_
  clear H6 K6
  refine wp_seq_k (fun K8 H8 => ?_)
  refine sq_region ?_
  refine sq_ex rfl (fun K hK => ?_); apply Exists.intro; refine ⟨?_, ?_⟩; (focus (go_simp; try exact rfl)); go_simp; refine hK _ _ ?_; clear hK K
  refine sq_nil ?_
  refine H8 _ _ ?_
  clear H8 K8
  refine wp_ret ?_
  go_ret
  exact ⟨rfl, M6.below⟩

section
variable {a b : Fq}
theorem nat64 {h : Nat} (h1 : (h : Int) < 18446744073709551616) : h < 2 ^ 64 := by omega
theorem lt128 {h l : Nat} (h1 : h < 2 ^ 64) (l1 : l < 2 ^ 64) : h * 2 ^ 64 + l < 2 ^ 128 := by omega
theorem rcmp_n {h l x H L X n m : Nat} (w : World) (a1 : h < 2 ^ 64) (a2 : l < 2 ^ 64) (a3 : H < 2 ^ 64) (a4 : L < 2 ^ 64) (hx : x < 2 ^ 64) (hX : X < 2 ^ 64) (en : h * 2 ^ 64 + l = n) (em : H * 2 ^ 64 + L = m) (hn : n < 2 ^ 128) (hm : m < 2 ^ 128) :
    Calls Try.prog 50 #[fv h l x, fv H L X] w fun e w' => e = .returned (.int .i64 (cmpI ((n * X : Nat) : Int) ((m * x : Nat) : Int))) ∧ Below w.heap.size w w' := by
  have O1 := Lib.hid (dROf a1 a2 en)
  have O2 := Lib.hid (dROf a3 a4 em)
  have p1 : n * X < 2 ^ 256 := Nat.lt_trans (Nat.mul_lt_mul'' hn hX) (by decide)
  have p2 : m * x < 2 ^ 256 := Nat.lt_trans (Nat.mul_lt_mul'' hm hx) (by decide)
  have D1 := dLess p1 p2
  have D2 := dLess p2 p1
  have P1 := Lib.hid (dProduct n hX)
  have P2 := Lib.hid (dProduct m hx)
  clear a1 a2 a3 a4 hx hX en em hn hm p1 p2
  unfold cmpI
  rcases Nat.lt_trichotomy (n * X) (m * x) with g | g | g
  · rw [decide_eq_true g] at D1; rw [decide_eq_false (by omega)] at D2; rw [if_pos (by omega)]
    exact rcmp_lt h l x H L X n m _ _ w O1 P1 O2 P2 (Lib.hid D1) (Lib.hid D2)
  · rw [decide_eq_false (by omega)] at D1; rw [decide_eq_false (by omega)] at D2; rw [if_neg (by omega), if_neg (by omega)]
    rw [g] at P1 D1 D2
    exact rcmp_eq h l x H L X n m _ _ w O1 P1 O2 P2 (Lib.hid D1) (Lib.hid D2)
  · rw [decide_eq_false (by omega)] at D1; rw [decide_eq_true g] at D2; rw [if_neg (by omega), if_pos (by omega)]
    exact rcmp_gt h l x H L X n m _ _ w O1 P1 O2 P2 (Lib.hid D1) (Lib.hid D2)
theorem num_nat {h l x : Nat} : (⟨(h : Int), (l : Int), (x : Int)⟩ : Fq).num = ((h * 2 ^ 64 + l : Nat) : Int) := by unfold Fq.num numV; simp only; omega
theorem rcmp_t (a b : Fq) (w : World) (hU : a.U) (hV : b.U) : Calls Try.prog 50 #[.agg #[.int .u64 a.hi, .int .u64 a.lo, .int .u64 a.w], .agg #[.int .u64 b.hi, .int .u64 b.lo, .int .u64 b.w]] w fun e w' => e = .returned (.int .i64 (cmpI (a.num * b.w) (b.num * a.w))) ∧ Below w.heap.size w w' := by
  obtain ⟨h, l, x⟩ := a
  obtain ⟨H, L, X⟩ := b
  obtain ⟨h0, h1, l0, l1, x0, x1⟩ := hU
  obtain ⟨H0, H1, L0, L1, X0, X1⟩ := hV
  simp only at h0 h1 l0 l1 x0 x1 H0 H1 L0 L1 X0 X1
  obtain ⟨h, rfl⟩ := Int.eq_ofNat_of_zero_le h0
  obtain ⟨l, rfl⟩ := Int.eq_ofNat_of_zero_le l0
  obtain ⟨x, rfl⟩ := Int.eq_ofNat_of_zero_le x0
  obtain ⟨H, rfl⟩ := Int.eq_ofNat_of_zero_le H0
  obtain ⟨L, rfl⟩ := Int.eq_ofNat_of_zero_le L0
  obtain ⟨X, rfl⟩ := Int.eq_ofNat_of_zero_le X0
  have c := rcmp_n (h := h) (l := l) (x := x) (H := H) (L := L) (X := X) w (nat64 h1) (nat64 l1) (nat64 H1) (nat64 L1) (nat64 x1) (nat64 X1) rfl rfl (lt128 (nat64 h1) (nat64 l1)) (lt128 (nat64 H1) (nat64 L1))
  rw [Int.natCast_mul, Int.natCast_mul, ← num_nat (x := x), ← num_nat (x := X)] at c
  exact c
end
end Go.Proofs.Ytnhkecfapohlgaa

/-! Runners and queues: what they are; plain. -/
namespace Go.Proofs.Ytnhkecfapohlgaa
open Go Go.RowKit

structure Rn where
  id : Int
  each : Int
  th : Int
  tl : Int
  tw : Int
deriving DecidableEq, Inhabited
instance : Enc Rn := ⟨fun x => [.int .i64 x.id, .int .i64 x.each, .int .u64 x.th, .int .u64 x.tl, .int .u64 x.tw], 5, fun _ => rfl, fun x v h => by simp at h; rcases h with rfl | rfl | rfl | rfl | rfl <;> rfl, by decide⟩
abbrev zR : Rn := ⟨0, 0, 0, 0, 0⟩
def Rn.t (r : Rn) : Fq := ⟨r.th, r.tl, r.tw⟩
structure Rn.U (r : Rn) : Prop where
  i0 : -9223372036854775808 ≤ r.id
  i1 : r.id ≤ 9223372036854775807
  e0 : -9223372036854775808 ≤ r.each
  e1 : r.each ≤ 9223372036854775807
  t : r.t.U
def idV (n : Int) : Bool := decide (1 ≤ n ∧ n ≤ 16)
def eachV (n : Int) : Bool := decide (1 ≤ n ∧ n ≤ 8)
def rnB (r : Rn) : Bool := idV r.id && (eachV r.each && r.t.ok)
def chkQ (ts : List Rn) : Bool := risK Rn.id ts && ts.all rnB
structure GoodQ (ts : List Rn) : Prop where
  rs : Ris Rn.id ts
  rn : ∀ r ∈ ts, rnB r = true
/-- The difference of two whole numbers, as a machine reckons it. -/
def subW (a b : Int) : Int := IntKind.i64.wrap (a - b)
def topS (s : Fq × Bool) (r : Rn) : Fq × Bool := if s.2 = false ∨ 0 < cmpF r.t s.1 then (r.t, true) else s
/-- The first greatest time. -/
def topV (ts : List Rn) : Fq × Bool := ts.foldl topS (zF, false)
def topQ (ts : List Rn) : Fq × Bool := if chkQ ts = true then topV ts else (zF, false)
def getQ (ts : List Rn) (k : Int) : Option Rn := if chkQ ts = true then getK Rn.id ts k else none
def getO (o : Option Rn) : Value := match o with
  | some x => .tuple #[.agg #[.int .i64 x.id, .int .i64 x.each, .int .u64 x.th, .int .u64 x.tl, .int .u64 x.tw], .bool true]
  | none => .tuple #[.agg #[.int .i64 0, .int .i64 0, .int .u64 0, .int .u64 0, .int .u64 0], .bool false]
section
variable {ts : List Rn} {x y r : Rn} {j i : Nat} {k a b : Int}
theorem idV_iff : idV k = true ↔ 1 ≤ k ∧ k ≤ 16 := by unfold idV; rw [decide_eq_true_eq]
theorem eachV_iff : eachV k = true ↔ 1 ≤ k ∧ k ≤ 8 := by unfold eachV; rw [decide_eq_true_eq]
theorem rnB_iff : rnB r = true ↔ (1 ≤ r.id ∧ r.id ≤ 16) ∧ (1 ≤ r.each ∧ r.each ≤ 8) ∧ r.t.ok = true := by unfold rnB; rw [Bool.and_eq_true, Bool.and_eq_true, idV_iff, eachV_iff]
theorem rn_noI (h : idV r.id = false) : rnB r = false := by unfold rnB; rw [h]; rfl
theorem rn_noE (h : eachV r.each = false) : rnB r = false := by unfold rnB; rw [h, Bool.false_and, Bool.and_false]
theorem rn_noT (h : r.t.ok = false) : rnB r = false := by unfold rnB; rw [h, Bool.and_false, Bool.and_false]
theorem rn_yes (h1 : idV r.id = true) (h2 : eachV r.each = true) (h3 : r.t.ok = true) : rnB r = true := by unfold rnB; rw [h1, h2, h3]; rfl
theorem chk_iff : chkQ ts = true ↔ GoodQ ts := by
  unfold chkQ
  rw [Bool.and_eq_true, List.all_eq_true, ris_iffK]
  exact ⟨fun h => ⟨h.1, h.2⟩, fun h => ⟨h.rs, h.rn⟩⟩
theorem GoodQ.bnd (h : GoodQ ts) (hx : x ∈ ts) : 1 ≤ x.id ∧ x.id ≤ 16 ∧ 1 ≤ x.each ∧ x.each ≤ 8 ∧ x.t.ok = true := by have := rnB_iff.1 (h.rn x hx); exact ⟨this.1.1, this.1.2, this.2.1.1, this.2.1.2, this.2.2⟩
theorem GoodQ.len (h : GoodQ ts) : ts.length ≤ 16 := by
  have := risK_len ts 1 16 h.rs (fun t ht => by have := h.bnd ht; omega) (by omega)
  omega
theorem chk_badR (hx : ts[j]? = some x) (h : rnB x = false) : chkQ ts = false := by
  cases e : chkQ ts with
  | false => rfl
  | true => rw [(chk_iff.1 e).rn x (List.mem_of_getElem? hx)] at h; cases h
theorem chk_badI (hx : ts[j]? = some x) (hy : ts[i]? = some y) (hij : i < j) (h : x.id ≤ y.id) : chkQ ts = false := by
  cases e : chkQ ts with
  | false => rfl
  | true => have := (chk_iff.1 e).rs.at hij hy hx; omega
theorem chk_good (hr : Ris Rn.id (ts.take j)) (ha : ∀ y ∈ ts.take j, rnB y = true) (hj : ts.length ≤ j) : chkQ ts = true := by
  rw [List.take_of_length_le hj] at hr ha
  exact chk_iff.2 ⟨hr, ha⟩
/-- The last number so far. -/
def lastI (ts : List Rn) (j : Nat) : Int := match j with
  | 0 => 0
  | j + 1 => (ts[j]?.map Rn.id).getD 0
theorem last_on (hx : ts[j]? = some x) : lastI ts (j + 1) = x.id := by show (ts[j]?.map Rn.id).getD 0 = _; rw [hx]; rfl
theorem last_at (h : lastI ts j = k) (hj : j ≤ ts.length) : j = 0 ∧ k = 0 ∨ ∃ y, 0 < j ∧ ts[j - 1]? = some y ∧ y.id = k := by
  match j, h with
  | 0, h => exact .inl ⟨rfl, h.symm⟩
  | j + 1, h =>
    refine .inr ⟨ts[j]'(by omega), by omega, List.getElem?_eq_getElem (by omega), ?_⟩
    rw [← h, last_on (List.getElem?_eq_getElem (by omega))]
theorem chk_badL (hx : ts[j]? = some x) (hl : lastI ts j = k) (hb : rnB x = true) (h : x.id ≤ k) : chkQ ts = false := by
  have hj := (List.getElem?_eq_some_iff.1 hx).1
  rcases last_at hl (by omega) with ⟨_, rfl⟩ | ⟨y, h0, hy, hk⟩
  · have := rnB_iff.1 hb; omega
  · exact chk_badI hx hy (by omega) (by omega)
theorem ris_onL (hr : Ris Rn.id (ts.take j)) (hx : ts[j]? = some x) (hl : lastI ts j = k) (h : k < x.id) : Ris Rn.id (ts.take (j + 1)) := by
  have hj := (List.getElem?_eq_some_iff.1 hx).1
  rcases last_at hl (by omega) with ⟨h0, _⟩ | ⟨y, h0, hy, hk⟩
  · exact ris_take_onT hr hx (.inl h0)
  · exact ris_take_onT hr hx (.inr ⟨y, hy, by omega⟩)
theorem top_on (hx : ts[j]? = some x) : (ts.take (j + 1)).foldl topS (zF, false) = topS ((ts.take j).foldl topS (zF, false)) x := by
  rw [List.take_add_one, hx, List.foldl_append]; rfl
theorem top_end (hj : ts.length ≤ j) : (ts.take j).foldl topS (zF, false) = topV ts := by rw [List.take_of_length_le hj]; rfl
theorem topS_yes {s : Fq × Bool} (h : s.2 = false ∨ 0 < cmpF r.t s.1) : topS s r = (r.t, true) := by unfold topS; rw [if_pos h]
theorem topS_no {s : Fq × Bool} (h : s.2 = true) (h2 : ¬ 0 < cmpF r.t s.1) : topS s r = s := by unfold topS; rw [if_neg (by rw [h]; simp; omega)]
theorem topV_ind {P : Fq × Bool → Prop} (h0 : P (zF, false)) (hs : ∀ s r, r ∈ ts → P s → P (r.t, true)) : P (topV ts) := by
  unfold topV
  have : ∀ (l : List Rn) (s : Fq × Bool), (∀ r ∈ l, r ∈ ts) → P s → P (l.foldl topS s) := by
    intro l
    induction l with
    | nil => intro s _ h; exact h
    | cons r l ih =>
      intro s hl hp
      refine ih _ (fun r hr => hl r (List.mem_cons_of_mem _ hr)) ?_
      unfold topS
      split
      · exact hs s r (hl r (List.mem_cons_self ..)) hp
      · exact hp
  exact this ts _ (fun _ h => h) h0
theorem foldT_U (hU : ∀ r ∈ ts, r.U) : ((ts.take j).foldl topS (zF, false)).1.U :=
  topV_ind (ts := ts.take j) (P := fun s => s.1.U) z_U (fun _ r hr _ => (hU r (List.mem_of_mem_take hr)).t)
theorem topV_U (hU : ∀ r ∈ ts, r.U) : (topV ts).1.U := topV_ind (P := fun s => s.1.U) z_U (fun _ r hr _ => (hU r hr).t)
theorem topQ_bad (h : chkQ ts = false) : topQ ts = (zF, false) := by unfold topQ; rw [h]; rfl
theorem topQ_ok (h : chkQ ts = true) : topQ ts = topV ts := by unfold topQ; rw [if_pos h]
theorem wrap_in (h0 : -9223372036854775808 ≤ a) (h1 : a ≤ 9223372036854775807) : IntKind.i64.wrap a = a := by simp [IntKind.wrap, IntKind.bits, IntKind.signed]; omega
theorem subW_eq (h0 : -9223372036854775808 ≤ a - b) (h1 : a - b ≤ 9223372036854775807) : subW a b = a - b := wrap_in h0 h1
theorem subW_iff (h0 : 1 ≤ a) (h1 : a ≤ 16) (h2 : 1 ≤ k) (h3 : k ≤ 16) : (subW a k < 0 ↔ a < k) ∧ (subW a k = 0 ↔ a = k) := by rw [subW_eq (by omega) (by omega)]; omega
theorem subW_zero (h : subW a b = 0) (h0 : -9223372036854775808 ≤ a) (h1 : a ≤ 9223372036854775807) (h2 : -9223372036854775808 ≤ b) (h3 : b ≤ 9223372036854775807) : a = b := by
  unfold subW at h
  simp [IntKind.wrap, IntKind.bits, IntKind.signed] at h
  omega
theorem getQ_bad (h : chkQ ts = false) : getQ ts k = none := by unfold getQ; rw [h]; rfl
theorem getQ_ok (h : chkQ ts = true) : getQ ts k = getK Rn.id ts k := by unfold getQ; rw [if_pos h]
theorem getQ_out (h : chkQ ts = true) (hk : idV k = false) : getK Rn.id ts k = none := by
  unfold getK
  rw [List.find?_eq_none]
  intro x hx
  have := (chk_iff.1 h).bnd hx
  have h2 := of_decide_eq_false hk
  simp only [decide_eq_true_eq]
  omega
end
end Go.Proofs.Ytnhkecfapohlgaa

/-! The walker: maps of one's own with whole numbers for keys. -/
namespace Go.Proofs.Ytnhkecfapohlgaa
open Go Go.RowKit

/-- What a map holds: its entries, the oldest first. -/
def mget {β : Type} : List (Int × β) → Int → Option β
  | [], _ => none
  | p :: D, k => if p.1 = k then some p.2 else mget D k
def mupd {β : Type} : List (Int × β) → Int → β → List (Int × β)
  | [], k, v => [(k, v)]
  | p :: D, k, v => if p.1 = k then (k, v) :: D else p :: mupd D k v
structure MapIs {β : Type} (ik : IntKind) (enc : β → Value) (es : Array MapEntry) (D : List (Int × β)) : Prop where
  keys : es.toList.map (fun e => (e.key, e.val)) = D.map fun p => (.int ik p.1, enc p.2)
section
variable {β : Type} {ik : IntKind} {enc : β → Value} {es : Array MapEntry} {D : List (Int × β)} {k : Int} {v : β} {ck : Nat}
theorem MapIs.nil : MapIs ik enc #[] ([] : List (Int × β)) := ⟨rfl⟩
theorem MapIs.size (h : MapIs ik enc es D) : es.size = D.length := by
  have := congrArg List.length h.keys
  simpa using this
variable {P : Program} {w : World} {t kt et : TypeId} {r : Nat}
end

section
variable {E : Env} {k : List Fr} {l : Sl} {L : List Ob} {all os : List Oper} {o : Oper} {i : Nat}
/-- A map's type, asked by the kernel. -/
def mapB (P : Program) (t : TypeId) (ik : IntKind) (z : Value) : Prop := ∃ kt et, P.underlying t = some (.map kt et) ∧ P.underlying kt = some (.int ik) ∧ (P.info? et).bind (fun i => i.zero) = some z
end
end Go.Proofs.Ytnhkecfapohlgaa

/-! The walker: make; append within one's own row; what a deletion of a stretch leaves; m[k]++. -/
namespace Go.Proofs.Ytnhkecfapohlgaa
open Go Go.RowKit

section
variable {E : Env} {k : List Fr} {l : Sl} {L : List Ob} {all os : List Oper} {o : Oper} {i : Nat}
end
section
variable {α : Type} [Enc α] {l : List α} {i i2 n cap : Nat} {cs c2 : Array Value}
end
/-! ### m[k]++ -/
section
variable {β : Type} {ik : IntKind} {enc : β → Value} {es : Array MapEntry} {D : List (Int × β)} {k : Int} {ck : Nat} {P : Program} {w : World} {t kt et : TypeId} {r : Nat}
/-- The entries' stamps: all apart, below the clock. -/
def Stamps (es : Array MapEntry) (ck : Nat) : Prop := (es.toList.map (·.born)).Nodup ∧ ∀ e ∈ es.toList, e.born < ck
theorem Stamps.nil : Stamps #[] 0 := ⟨by simp, fun _ h => by simp at h⟩
end
end Go.Proofs.Ytnhkecfapohlgaa

/-! The walker: two cells of an element changed in place. -/
namespace Go.Proofs.Ytnhkecfapohlgaa
open Go Go.RowKit
section
variable {α : Type} [Enc α] {l : List α} {x x' : α} {v v' : Value} {i f n cap : Nat} {cs : Array Value}
theorem OwnS.put2 (h : OwnS (Enc.k α) (l.flatMap Enc.enc) n cap cs) (hn : n = l.length) (hx : l[i]? = some x) (hf : f + 1 < Enc.k α) (mid : ∃ x1 : α, Enc.enc x1 = (Enc.enc x).set f v) (he : Enc.enc x' = ((Enc.enc x).set f v).set (f + 1) v') :
    OwnS (Enc.k α) ((l.set i x').flatMap Enc.enc) n cap ((cs.setIfInBounds (0 + i * Enc.k α + f) v).setIfInBounds (0 + i * Enc.k α + f + 1) v') := by
  obtain ⟨x1, h1⟩ := mid
  have a := h.put hn hx (f := f) (by omega) h1
  have b := a.put (x' := x') (v := v') (f := f + 1) (len_set hn) (get_set hx) hf (by rw [h1]; exact he)
  rw [List.set_set] at b
  exact b
end
end Go.Proofs.Ytnhkecfapohlgaa

/-! The walker: three cells of an element changed in place. Queues that are changed; plain. -/
namespace Go.Proofs.Ytnhkecfapohlgaa
open Go Go.RowKit
section
variable {α : Type} [Enc α] {l : List α} {x x' : α} {v v' v2 : Value} {i f n cap : Nat} {cs : Array Value}
theorem OwnS.put3 (h : OwnS (Enc.k α) (l.flatMap Enc.enc) n cap cs) (hn : n = l.length) (hx : l[i]? = some x) (hf : f + 2 < Enc.k α) (mid : ∃ x1 : α, Enc.enc x1 = (Enc.enc x).set f v) (mid2 : ∃ x2 : α, Enc.enc x2 = ((Enc.enc x).set f v).set (f + 1) v') (he : Enc.enc x' = (((Enc.enc x).set f v).set (f + 1) v').set (f + 2) v2) :
    OwnS (Enc.k α) ((l.set i x').flatMap Enc.enc) n cap (((cs.setIfInBounds (0 + i * Enc.k α + f) v).setIfInBounds (0 + i * Enc.k α + f + 1) v').setIfInBounds (0 + i * Enc.k α + f + 2) v2) := by
  obtain ⟨x2, h2⟩ := mid2
  have a := h.put2 hn hx (f := f) (by omega) mid h2
  have b := a.put (x' := x') (v := v2) (f := f + 2) (len_set hn) (get_set hx) hf (by rw [h2]; exact he)
  rw [List.set_set] at b
  exact b
end
theorem one_tail {w0 w : World} {Y : List Ob} (h : Hs w0 (Y ++ []) w) : Hs w0 Y w := by rwa [List.append_nil] at h
/- places -/
def risI (l : List Int) : Bool := risK (fun x : Int => x) l && l.all idV
def hasQ (ts : List Rn) (k : Int) : Bool := (getK Rn.id ts k).isSome
def posI (ts : List Rn) (k : Int) : Int := (posK Rn.id ts k : Nat)
def placesE (ts : List Rn) (l : List Int) : Int := if risI l = true then (if l.all (hasQ ts) = true then 0 else 4) else 2
def foundE (ts : List Rn) (l : List Int) : Int := if l.all (hasQ ts) = true then 0 else 4
def lastN (l : List Int) (j : Nat) : Int := match j with
  | 0 => 0
  | j + 1 => (l[j]?).getD 0
/- changes -/
def altL (f : Rn → Rn × Int) (ts : List Rn) (l : List Int) : List Rn := ts.map fun r => if r.id ∈ l then (f r).1 else r
def errF (f : Rn → Rn × Int) (ts : List Rn) (k : Int) : Int := match getK Rn.id ts k with
  | some r => (f r).2
  | none => 0
def altE (f : Rn → Rn × Int) (ts : List Rn) : List Int → Int
  | [] => 0
  | k :: ks => if errF f ts k ≠ 0 then errF f ts k else altE f ts ks
def altX (f : Rn → Rn × Int) (ts : List Rn) (e0 : Int) (l : List Int) : Int := if e0 ≠ 0 then e0 else altE f ts l
def alterV (f : Rn → Rn × Int) (ts : List Rn) (ok : Bool) (l : List Int) : List Rn × Int :=
  if chkQ ts = true then (if ok = true then (if altX f ts (placesE ts l) l ≠ 0 then ([], altX f ts (placesE ts l) l) else (altL f ts l, 0)) else ([], 2)) else ([], 200)
section
variable {f : Rn → Rn × Int} {ts : List Rn} {l : List Int} {x y r : Rn} {j i : Nat} {k e e0 la : Int} {ok : Bool}
theorem lastN_on (hx : l[j]? = some k) : lastN l (j + 1) = k := by show (l[j]?).getD 0 = _; rw [hx]; rfl
theorem lastN_at (h : lastN l j = k) (hj : j ≤ l.length) : j = 0 ∧ k = 0 ∨ ∃ y, 0 < j ∧ l[j - 1]? = some y ∧ y = k := by
  match j, h with
  | 0, h => exact .inl ⟨rfl, h.symm⟩
  | j + 1, h =>
    refine .inr ⟨l[j]'(by omega), by omega, List.getElem?_eq_getElem (by omega), ?_⟩
    rw [← h, lastN_on (List.getElem?_eq_getElem (by omega))]
theorem risI_iff : risI l = true ↔ Ris (fun x : Int => x) l ∧ ∀ k ∈ l, idV k = true := by unfold risI; rw [Bool.and_eq_true, List.all_eq_true, ris_iffK]
theorem risN_on (hr : Ris (fun x : Int => x) (l.take j)) (hx : l[j]? = some k) (hl : lastN l j = la) (h : la < k) : Ris (fun x : Int => x) (l.take (j + 1)) := by
  have hj := (List.getElem?_eq_some_iff.1 hx).1
  rcases lastN_at hl (by omega) with ⟨h0, _⟩ | ⟨y, h0, hy, hk⟩
  · exact ris_take_onT hr hx (.inl h0)
  · exact ris_take_onT hr hx (.inr ⟨y, hy, by omega⟩)
theorem risI_badI (hx : l[j]? = some k) (h : idV k = false) : risI l = false := by
  cases e : risI l with
  | false => rfl
  | true => rw [(risI_iff.1 e).2 k (List.mem_of_getElem? hx)] at h; cases h
theorem risI_badL (hx : l[j]? = some k) (hl : lastN l j = la) (hb : idV k = true) (h : k ≤ la) : risI l = false := by
  have hj := (List.getElem?_eq_some_iff.1 hx).1
  have hk := idV_iff.1 hb
  rcases lastN_at hl (by omega) with ⟨_, h0⟩ | ⟨y, h0, hy, hk2⟩
  · omega
  · cases e : risI l with
    | false => rfl
    | true => have := (risI_iff.1 e).1.at (show j - 1 < j by omega) hy hx; omega
theorem risI_good (hr : Ris (fun x : Int => x) (l.take j)) (ha : ∀ y ∈ l.take j, idV y = true) (hj : l.length ≤ j) : risI l = true := by
  rw [List.take_of_length_le hj] at hr ha
  exact risI_iff.2 ⟨hr, ha⟩
theorem places_bad (h : risI l = false) : placesE ts l = 2 := by unfold placesE; rw [h]; rfl
theorem places_ok (h : risI l = true) : placesE ts l = foundE ts l := by unfold placesE foundE; rw [if_pos h]
theorem places_zero : placesE ts l = 0 ↔ risI l = true ∧ ∀ k ∈ l, hasQ ts k = true := by
  unfold placesE
  constructor
  · intro h
    by_cases h1 : risI l = true
    · rw [if_pos h1] at h
      by_cases h2 : l.all (hasQ ts) = true
      · exact ⟨h1, List.all_eq_true.1 h2⟩
      · rw [if_neg h2] at h; cases h
    · rw [if_neg h1] at h; cases h
  · rintro ⟨h1, h2⟩
    rw [if_pos h1, if_pos (List.all_eq_true.2 h2)]
theorem found_zero : foundE ts (l.take 0) = 0 := by unfold foundE; simp
theorem found_yes (hx : l[j]? = some k) (h : getK Rn.id ts k = some r) : foundE ts (l.take (j + 1)) = foundE ts (l.take j) := by
  unfold foundE
  rw [List.take_add_one, hx, List.all_append]
  simp [hasQ, h]
theorem found_no (hx : l[j]? = some k) (h : getK Rn.id ts k = none) : foundE ts (l.take (j + 1)) = 4 := by
  unfold foundE
  rw [List.take_add_one, hx, List.all_append]
  simp [hasQ, h]
theorem map_on {g : Int → Int} (hx : l[j]? = some k) : (l.take (j + 1)).map g = (l.take j).map g ++ [g k] := by rw [List.take_add_one, hx, List.map_append]; rfl
theorem map_at {g : Int → Int} {p : Int} (hx : (l.map g)[j]? = some p) : ∃ k, l[j]? = some k ∧ p = g k := by
  rw [List.getElem?_map] at hx
  cases h : l[j]? with
  | none => rw [h] at hx; cases hx
  | some k => rw [h] at hx; exact ⟨k, rfl, (Option.some.inj hx).symm⟩
theorem altL_nil : altL f ts (l.take 0) = ts := by unfold altL; rw [List.take_zero]; simp
theorem altX_start : altX f ts e0 (l.take 0) = e0 := by
  unfold altX
  rw [List.take_zero]
  by_cases h : e0 = 0
  · rw [if_neg (by omega), h]; rfl
  · rw [if_pos h]
theorem altE_app : ∀ {a b : List Int}, altE f ts (a ++ b) = if altE f ts a ≠ 0 then altE f ts a else altE f ts b
  | [], b => by simp [altE]
  | k :: a, b => by
    have ih := @altE_app a b
    simp only [List.cons_append, altE]
    by_cases h : errF f ts k = 0
    · simp only [h, ne_eq, not_true_eq_false, if_false]; exact ih
    · simp only [ne_eq, h, not_false_eq_true, if_true]
theorem altX_e0 (h : altX f ts e0 l = 0) : e0 = 0 ∧ altE f ts l = 0 := by
  unfold altX at h
  by_cases h0 : e0 = 0
  · rw [if_neg (by omega)] at h; exact ⟨h0, h⟩
  · rw [if_pos h0] at h; omega
theorem altX_on (h : altX f ts e0 (l.take j) = 0) (hx : l[j]? = some k) (hg : getK Rn.id ts k = some r) : altX f ts e0 (l.take (j + 1)) = (f r).2 := by
  obtain ⟨h0, h1⟩ := altX_e0 h
  unfold altX
  rw [if_neg (by omega), List.take_add_one, hx, altE_app, h1]
  simp only [ne_eq, not_true_eq_false, if_false, Option.toList_some, altE, errF, hg]
  by_cases h2 : (f r).2 = 0
  · simp [h2]
  · simp [h2]
theorem altX_stop (h : ¬ altX f ts e0 (l.take j) = 0) : altX f ts e0 l = altX f ts e0 (l.take j) := by
  unfold altX at h ⊢
  by_cases h0 : e0 = 0
  · rw [if_neg (by omega)] at h ⊢
    rw [if_neg (by omega)]
    conv => lhs; rw [← List.take_append_drop j l]
    rw [altE_app, if_pos h]
  · rw [if_pos h0, if_pos h0]
theorem altX_ne {a b : List Int} (h0 : e0 ≠ 0) (h : altX f ts e0 a = e) : altX f ts e0 b = e := by unfold altX at h ⊢; rw [if_pos h0] at h ⊢; exact h
theorem altX_all (hj : l.length ≤ j) : altX f ts e0 (l.take j) = altX f ts e0 l := by rw [List.take_of_length_le hj]
/-- A round: the element that is changed is as it was. -/
theorem altL_get (hp : ts[i]? = some r) (hn : r.id ∉ l.take j) : (altL f ts (l.take j))[i]? = some r := by
  unfold altL
  rw [List.getElem?_map, hp]
  simp [hn]
theorem altL_on (hr : Ris Rn.id ts) (hp : ts[i]? = some r) (hx : l[j]? = some r.id) : altL f ts (l.take (j + 1)) = (altL f ts (l.take j)).set i (f r).1 := by
  apply List.ext_getElem?
  intro q
  unfold altL
  rw [List.getElem?_set, List.getElem?_map, List.getElem?_map, List.length_map]
  by_cases hq : i = q
  · subst hq
    have hi := (List.getElem?_eq_some_iff.1 hp).1
    rw [if_pos rfl, if_pos hi, hp, List.take_add_one, hx]
    simp
  · rw [if_neg hq]
    cases hz : ts[q]? with
    | none => rfl
    | some z =>
      have hne : ¬ z.id = r.id := fun he => hq (by
        rcases Nat.lt_trichotomy i q with h | h | h
        · have := hr.at h hp hz; omega
        · exact h
        · have := hr.at h hz hp; omega)
      simp only [Option.map_some, List.take_add_one, hx, Option.toList_some, List.mem_append, List.mem_singleton, hne, or_false]
theorem altS_eq {L A : List Rn} (hr : Ris Rn.id ts) (hp : ts[i]? = some r) (hx : l[j]? = some r.id) (hL : L = altL f ts (l.take j)) (hA : A = L.set i (f r).1) : A = altL f ts (l.take (j + 1)) := by rw [altL_on hr hp hx, hA, hL]
theorem altL_all (hj : l.length ≤ j) : altL f ts (l.take j) = altL f ts l := by rw [List.take_of_length_le hj]
theorem altL_len : (altL f ts l).length = ts.length := by unfold altL; rw [List.length_map]
theorem ris_fresh (h : Ris (fun x : Int => x) l) (hx : l[j]? = some k) : k ∉ l.take j := by
  intro hm
  obtain ⟨i, hi⟩ := List.mem_iff_getElem?.1 hm
  have hij : i < j := by
    have := (List.getElem?_eq_some_iff.1 hi).1
    simp only [List.length_take] at this
    omega
  rw [List.getElem?_take, if_pos hij] at hi
  have := h.at hij hi hx
  omega
/-- What a round of the changes knows. -/
theorem round_at {p : Int} (hg : GoodQ ts) (he : altX f ts (placesE ts l) (l.take j) = 0) (hx : (l.map (posI ts))[j]? = some p) :
    ∃ r, l[j]? = some r.id ∧ getK Rn.id ts r.id = some r ∧ 0 ≤ p ∧ p < ts.length ∧ ts[p.toNat]? = some r ∧ (altL f ts (l.take j))[p.toNat]? = some r := by
  obtain ⟨k, hk, rfl⟩ := map_at hx
  obtain ⟨h0, -⟩ := altX_e0 he
  obtain ⟨hri, hall⟩ := places_zero.1 h0
  have hh := hall k (List.mem_of_getElem? hk)
  unfold hasQ at hh
  cases hgk : getK Rn.id ts k with
  | none => rw [hgk] at hh; cases hh
  | some r =>
    obtain ⟨hm, hid⟩ := (getK_iff hg.rs).1 hgk
    subst hid
    have hp := pos_getK hg.rs hgk
    have hl := (List.getElem?_eq_some_iff.1 hp).1
    have e : (posI ts r.id).toNat = posK Rn.id ts r.id := by unfold posI; omega
    refine ⟨r, hk, hgk, by unfold posI; omega, by unfold posI; omega, by rw [e]; exact hp, by rw [e]; exact altL_get hp (ris_fresh (risI_iff.1 hri).1 hk)⟩
theorem alter_bad (h : chkQ ts = false) : alterV f ts ok l = ([], 200) := by unfold alterV; rw [h]; rfl
theorem alter_arg (h : chkQ ts = true) (h2 : ok = false) : alterV f ts ok l = ([], 2) := by unfold alterV; rw [if_pos h, h2]; rfl
theorem alter_err (h : chkQ ts = true) (h2 : ok = true) (h3 : ¬ altX f ts (placesE ts l) l = 0) : alterV f ts ok l = ([], altX f ts (placesE ts l) l) := by unfold alterV; rw [if_pos h, if_pos h2, if_pos h3]
theorem alter_ok (h : chkQ ts = true) (h2 : ok = true) (h3 : altX f ts (placesE ts l) l = 0) : alterV f ts ok l = (altL f ts l, 0) := by unfold alterV; rw [if_pos h, if_pos h2, if_neg (by omega)]
end
/- what is run, what is weighed -/
def runF (dt : Int) (r : Rn) : Rn × Int := (⟨r.id, r.each, (addV r.t (r.each * dt)).1.hi, (addV r.t (r.each * dt)).1.lo, (addV r.t (r.each * dt)).1.w⟩, (addV r.t (r.each * dt)).2)
def runB (dt : Int) : Bool := decide (0 ≤ dt ∧ dt ≤ 10000000)
def runV (ts : List Rn) (l : List Int) (dt : Int) : List Rn × Int := alterV (runF dt) ts (runB dt) l
def weighF (wt each : Int) (r : Rn) : Rn × Int := (⟨r.id, each, (overV r.t wt).1.hi, (overV r.t wt).1.lo, (overV r.t wt).1.w⟩, (overV r.t wt).2)
def weighV (ts : List Rn) (l : List Int) (wt each : Int) : List Rn × Int := alterV (weighF wt each) ts (wB wt && eachV each) l
theorem mul_each {e dt : Int} (h0 : 1 ≤ e) (h1 : e ≤ 8) (h2 : 0 ≤ dt) (h3 : dt ≤ 10000000) : 0 ≤ e * dt ∧ e * dt ≤ 80000000 := by
  refine ⟨Int.mul_nonneg (by omega) h2, ?_⟩
  have : e * dt ≤ 8 * dt := Int.mul_le_mul_of_nonneg_right h1 h2
  omega
end Go.Proofs.Ytnhkecfapohlgaa

/-! Who joins, who leaves; plain. -/
namespace Go.Proofs.Ytnhkecfapohlgaa
open Go Go.RowKit

def maxS (m y : Fq) : Fq := if 0 < cmpF y m then y else m
def maxL : List Fq → Fq
  | [] => zF
  | x :: l => l.foldl maxS x
abbrev greatV (a b : Fq) : Fq := maxS a b
def boundsV (t : Fq) (r : Rn) (boost : Int) : Fq × Fq × Int :=
  if (overV t r.tw).2 ≠ 0 then (zF, zF, (overV t r.tw).2)
  else if (lessV (overV t r.tw).1 (boost * r.each)).2 ≠ 0 then (zF, zF, (lessV (overV t r.tw).1 (boost * r.each)).2)
  else if (raiseV ⟨0, 0, r.tw⟩ t 268435456).2 ≠ 0 then (zF, zF, (raiseV ⟨0, 0, r.tw⟩ t 268435456).2)
  else (greatV (lessV (overV t r.tw).1 (boost * r.each)).1 (raiseV ⟨0, 0, r.tw⟩ t 268435456).1, (overV t r.tw).1, 0)
def timeV (s : Fq × Bool) (r : Rn) (boost : Int) : Fq × Int :=
  if s.2 = true then (if 0 < cmpF (greatV (boundsV s.1 r boost).1 r.t) (boundsV s.1 r boost).2.1 then (boundsV s.1 r boost).2.1 else greatV (boundsV s.1 r boost).1 r.t, (boundsV s.1 r boost).2.2) else (r.t, 0)
abbrev putR (ts : List Rn) (r : Rn) : List Rn := insK Rn.id ts r
def newR (ts : List Rn) (r : Rn) (boost : Int) : Rn := ⟨r.id, r.each, (timeV (topV ts) r boost).1.hi, (timeV (topV ts) r boost).1.lo, (timeV (topV ts) r boost).1.w⟩
def joinV (ts : List Rn) (r : Rn) (boost : Int) : List Rn × Int :=
  if 10000000 < boost then ([], if chkQ ts = true then 2 else 200)
  else if chkQ ts = true then (if rnB r = true then (if (getK Rn.id ts r.id).isSome = true then ([], 5) else if (timeV (topV ts) r boost).2 ≠ 0 then ([], (timeV (topV ts) r boost).2) else (putR ts (newR ts r boost), 0)) else ([], 2)) else ([], 200)
def leaveV (ts : List Rn) (k : Int) : List Rn × Option Rn × Int :=
  if chkQ ts = true then (if idV k = true then (match getK Rn.id ts k with | some r => (delK Rn.id ts k, some r, 0) | none => ([], none, 4)) else ([], none, 2)) else ([], none, 200)
section
variable {a b f t : Fq} {n w s boost k : Int} {ts : List Rn} {r x y : Rn} {l : List Fq} {z : Fq × Bool} {j : Nat}
theorem with_U (h0 : 0 ≤ n) (h1 : n < 340282366920938463463374607431768211456) (h2 : 0 ≤ w) (h3 : w < 18446744073709551616) : (withV w (hiV n) (loV n) 0).1.U := by
  unfold withV
  split
  · exact mk_U h0 h1 h2 h3
  · exact z_U
theorem less_U (hU : f.U) (h0 : 0 ≤ n) : (lessV f n).1.U := by
  unfold lessV
  split
  · rename_i h; have := less_r hU h h0; exact mk_U this.1 (by omega) hU.w0 hU.w1
  · exact z_U
theorem over_U (hU : f.U) : (overV f w).1.U := by
  unfold overV
  split
  · rename_i h
    split
    · rename_i hw; have := upN_r hU h hw; have h2 := wB_iff.1 hw; exact with_U this.1 this.2 (by omega) (by omega)
    · exact z_U
  · exact z_U
theorem raise_U (hU : f.U) (hV : t.U) (h0 : 0 ≤ s) : (raiseV f t s).1.U := by
  unfold raiseV
  split
  · rename_i h
    split
    · exact over_U (floor_U hV (and_r h) h0)
    · exact hU
  · exact z_U
theorem maxS_U (hU : a.U) (hV : b.U) : (maxS a b).U := by unfold maxS; split <;> assumption
theorem maxS_yes (h : 0 < cmpF b a) : maxS a b = b := by unfold maxS; rw [if_pos h]
theorem maxS_no (h : ¬ 0 < cmpF b a) : maxS a b = a := by unfold maxS; rw [if_neg h]
theorem two_U (ha : a.U) (hb : b.U) : ∀ x ∈ [a, b], x.U := by
  intro x hx
  simp only [List.mem_cons, List.not_mem_nil, or_false] at hx
  rcases hx with rfl | rfl <;> assumption
theorem max_start {m : Fq} (hx : l[0]? = some m) : maxL (l.take 1) = m := by
  cases l with
  | nil => cases hx
  | cons x l => simp at hx; subst hx; rfl
theorem max_on {m y : Fq} (hm : maxL (l.take j) = m) (h1 : 1 ≤ j) (hy : l[j]? = some y) : maxL (l.take (j + 1)) = maxS m y := by
  subst hm
  cases l with
  | nil => cases hy
  | cons x l =>
    obtain ⟨i, rfl⟩ : ∃ i, j = i + 1 := ⟨j - 1, by omega⟩
    simp only [List.getElem?_cons_succ] at hy
    show (l.take (i + 1)).foldl maxS x = maxS ((l.take i).foldl maxS x) y
    rw [List.take_add_one, hy, List.foldl_append]; rfl
theorem max_end (h : l.length ≤ j) : maxL (l.take j) = maxL l := by rw [List.take_of_length_le h]
theorem w_U (h0 : 0 ≤ w) (h1 : w < 18446744073709551616) : (⟨0, 0, w⟩ : Fq).U := ⟨Int.le_refl 0, by show (0:Int) < _; decide, Int.le_refl 0, by show (0:Int) < _; decide, h0, h1⟩
theorem bounds_1 (h : (overV t r.tw).2 ≠ 0) : boundsV t r boost = (zF, zF, (overV t r.tw).2) := by unfold boundsV; rw [if_pos h]
theorem bounds_2 (h : ¬ (overV t r.tw).2 ≠ 0) (h2 : (lessV (overV t r.tw).1 (boost * r.each)).2 ≠ 0) : boundsV t r boost = (zF, zF, (lessV (overV t r.tw).1 (boost * r.each)).2) := by unfold boundsV; rw [if_neg h, if_pos h2]
theorem bounds_3 (h : ¬ (overV t r.tw).2 ≠ 0) (h2 : ¬ (lessV (overV t r.tw).1 (boost * r.each)).2 ≠ 0) (h3 : (raiseV ⟨0, 0, r.tw⟩ t 268435456).2 ≠ 0) : boundsV t r boost = (zF, zF, (raiseV ⟨0, 0, r.tw⟩ t 268435456).2) := by unfold boundsV; rw [if_neg h, if_neg h2, if_pos h3]
theorem bounds_4 (h : ¬ (overV t r.tw).2 ≠ 0) (h2 : ¬ (lessV (overV t r.tw).1 (boost * r.each)).2 ≠ 0) (h3 : ¬ (raiseV ⟨0, 0, r.tw⟩ t 268435456).2 ≠ 0) : boundsV t r boost = (greatV (lessV (overV t r.tw).1 (boost * r.each)).1 (raiseV ⟨0, 0, r.tw⟩ t 268435456).1, (overV t r.tw).1, 0) := by unfold boundsV; rw [if_neg h, if_neg h2, if_neg h3]
theorem bounds_U (hV : t.U) (hr : r.U) (h0 : 0 ≤ boost * r.each) : (boundsV t r boost).1.U ∧ (boundsV t r boost).2.1.U := by
  unfold boundsV
  repeat' split
  · exact ⟨z_U, z_U⟩
  · exact ⟨z_U, z_U⟩
  · exact ⟨z_U, z_U⟩
  · exact ⟨maxS_U (less_U (over_U hV) h0) (raise_U (w_U hr.t.w0 hr.t.w1) hV (by decide)), over_U hV⟩
theorem time_none (h : z.2 = false) : timeV z r boost = (r.t, 0) := by unfold timeV; rw [h]; rfl
theorem time_hi (h : z.2 = true) (h2 : 0 < cmpF (greatV (boundsV z.1 r boost).1 r.t) (boundsV z.1 r boost).2.1) : timeV z r boost = ((boundsV z.1 r boost).2.1, (boundsV z.1 r boost).2.2) := by unfold timeV; rw [if_pos h, if_pos h2]
theorem time_lo (h : z.2 = true) (h2 : ¬ 0 < cmpF (greatV (boundsV z.1 r boost).1 r.t) (boundsV z.1 r boost).2.1) : timeV z r boost = (greatV (boundsV z.1 r boost).1 r.t, (boundsV z.1 r boost).2.2) := by unfold timeV; rw [if_pos h, if_neg h2]
theorem join_big (h : 10000000 < boost) : joinV ts r boost = ([], if chkQ ts = true then 2 else 200) := by unfold joinV; rw [if_pos h]
theorem join_bad (h : ¬ 10000000 < boost) (h2 : chkQ ts = false) : joinV ts r boost = ([], 200) := by unfold joinV; rw [if_neg h, h2]; rfl
theorem join_arg (h : ¬ 10000000 < boost) (h2 : chkQ ts = true) (h3 : rnB r = false) : joinV ts r boost = ([], 2) := by unfold joinV; rw [if_neg h, if_pos h2, h3]; rfl
theorem join_there (h : ¬ 10000000 < boost) (h2 : chkQ ts = true) (h3 : rnB r = true) (h4 : getK Rn.id ts r.id = some x) : joinV ts r boost = ([], 5) := by unfold joinV; rw [if_neg h, if_pos h2, if_pos h3, h4]; rfl
theorem join_err (h : ¬ 10000000 < boost) (h2 : chkQ ts = true) (h3 : rnB r = true) (h4 : getK Rn.id ts r.id = none) (h5 : (timeV (topV ts) r boost).2 ≠ 0) : joinV ts r boost = ([], (timeV (topV ts) r boost).2) := by unfold joinV; rw [if_neg h, if_pos h2, if_pos h3, h4]; simp [h5]
theorem join_ok (h : ¬ 10000000 < boost) (h2 : chkQ ts = true) (h3 : rnB r = true) (h4 : getK Rn.id ts r.id = none) (h5 : (timeV (topV ts) r boost).2 = 0) : joinV ts r boost = (putR ts (newR ts r boost), 0) := by unfold joinV; rw [if_neg h, if_pos h2, if_pos h3, h4]; simp [h5]
end
end Go.Proofs.Ytnhkecfapohlgaa

/-! Who is lifted; plain. -/
namespace Go.Proofs.Ytnhkecfapohlgaa
open Go Go.RowKit

theorem rd_row {w : World} {g k : Nat} {cs : Array Value} {T : TypeId} {f : Nat × Nat} (h : w.heap[g]? = some (.cells cs T f)) : Rd w g (0 + 0 * k) cs.toList := fun j u hj => by
  rw [show (⟨g, 0 + 0 * k + j, none⟩ : Addr) = ⟨g, j, none⟩ from by congr 1; omega, cell_own h]
  simpa using hj
def clR (tp : Fq) (r : Rn) : Rn := ⟨r.id, r.each, (raiseV r.t tp 268435456).1.hi, (raiseV r.t tp 268435456).1.lo, (raiseV r.t tp 268435456).1.w⟩
def clE (tp : Fq) (r : Rn) : Int := (raiseV r.t tp 268435456).2
def chg (tp : Fq) (r : Rn) : Bool := decide (¬ (raiseV r.t tp 268435456).1 = r.t)
def errL (g : Rn → Int) : List Rn → Int
  | [] => 0
  | r :: l => if g r ≠ 0 then g r else errL g l
def mapTo (g : Rn → Rn) (ts : List Rn) (j : Nat) : List Rn := (ts.take j).map g ++ ts.drop j
def outTo (p : Rn → Bool) (ts : List Rn) (j : Nat) : List Int := ((ts.take j).filter p).map Rn.id
def clipV (ts : List Rn) : List Rn × List Int × Int :=
  if chkQ ts = true then (if errL (clE (topV ts).1) ts ≠ 0 then ([], [], errL (clE (topV ts).1) ts) else (ts.map (clR (topV ts).1), (ts.filter (chg (topV ts).1)).map Rn.id, 0)) else ([], [], 200)
section
variable {tp : Fq} {r x : Rn} {ts : List Rn} {g : Rn → Rn} {e : Rn → Int} {p : Rn → Bool} {j : Nat}
end
end Go.Proofs.Ytnhkecfapohlgaa

/-! The walker: a drawn region that acts, whose first operations only look and come up ahead of all others: they are walked once, in the order of the text. -/
namespace Go.Proofs.Ytnhkecfapohlgaa
open Go Go.RowKit

section
variable {P : Program} {ops : Array Oper} {C : (Nat → Bool) → World → Prop} {Q : Array Bool → Act → Prop} {m : Nat}
def lexTo (ops : Array Oper) : Nat → Nat → Array Bool → Bool
  | 0, _, _ => true
  | f + 1, k, listed => (Region.ready .any ops listed).contains k && Region.free .any ops listed k && lexTo ops f (k + 1) (listed.setIfInBounds k true)
def setTo : Nat → Nat → Array Bool → Array Bool
  | 0, _, L => L
  | n + 1, k, L => setTo n (k + 1) (L.setIfInBounds k true)
def wpPre (P : Program) (ops : Array Oper) (m : Nat) (C : (Nat → Bool) → World → Prop) (Q : Array Bool → Act → Prop) : Nat → Array Bool → Act → Prop
  | 0, listed, a => (∀ i ∈ Region.ready .any ops listed, ¬ i < m) ∧ Q listed a
  | f + 1, listed, a => (∃ i ∈ Region.ready .any ops listed, i < m) ∧ ∀ i ∈ Region.ready .any ops listed, i < m → ∃ o v, ops[i]? = some o ∧ Leaves P ops C i o v a ∧ wpPre P ops m C Q f (listed.setIfInBounds i true) (a.put o.dst v)
theorem wpPre_first {i : Nat} {oi : Oper} {v : Value} (him : i < m) (hi : ops[i]? = some oi) (hsel : ∀ (j : Nat) (o : Oper) cs b, ops[j]? = some o → o.op ≠ .select cs b) :
    ∀ (fuel : Nat) (listed : Array Bool) (a : Act),
      (∀ j oj, ops[j]? = some oj → j ≠ i → listed.getD j true = false → (∀ e ∈ oj.after, Region.binds .any e = true → e.on ≠ i) → oi.apart ops oj = true) →
      i ∈ Region.ready .any ops listed → Leaves P ops C i oi v a →
      wpPre P ops m C Q fuel (listed.setIfInBounds i true) (a.put oi.dst v) → wpPre P ops m C Q (fuel + 1) listed a := by
  intro fuel
  induction fuel with
  | zero =>
    intro listed a _ hr hy H
    refine ⟨⟨i, hr, him⟩, fun j hj hjm => ?_⟩
    by_cases hji : j = i
    · subst hji; exact ⟨oi, v, hi, hy, H⟩
    · exact absurd hjm (H.1 j (ready_mono hj hji))
  | succ fuel ih =>
    intro listed a hfree hr hy H
    refine ⟨⟨i, hr, him⟩, fun j hj hjm => ?_⟩
    by_cases hji : j = i
    · subst hji; exact ⟨oi, v, hi, hy, H⟩
    · obtain ⟨oj, u, hoj, hyj, hrest⟩ := H.2 j (ready_mono hj hji) hjm
      obtain ⟨hjun, oj', hoj', hall⟩ := mem_ready.1 hj
      obtain rfl : oj = oj' := Option.some.inj (hoj.symm.trans hoj')
      have hnot : ∀ e ∈ oj.after, Region.binds .any e = true → e.on ≠ i := fun e he hb heq => by
        have h1 := hall e he hb
        have h0 := (mem_ready.1 hr).1
        rw [heq] at h1
        rcases Nat.lt_or_ge i listed.size with h' | h'
        · simp [h'] at h0 h1; rw [h0] at h1; cases h1
        · simp [Array.getElem?_eq_none h'] at h1
      have hap := hfree j oj hoj hji hjun hnot
      obtain ⟨h1, h2, h3⟩ := Oper.apart_spec hap
      have hyj' : Leaves P ops C j oj u a := hyj.of_same (execOp_put oj (fun cs b => hsel j oj cs b hoj) a oi.dst v h1).symm (wanted_put oj a oi.dst v h1).symm
      have hyi' : Leaves P ops C i oi v (a.put oj.dst u) := hy.of_same (execOp_put oi (fun cs b => hsel i oi cs b hi) a oj.dst u h3) (wanted_put oi a oj.dst u h3)
      have hfree' : ∀ k ok, ops[k]? = some ok → k ≠ i → (listed.setIfInBounds j true).getD k true = false →
          (∀ e ∈ ok.after, Region.binds .any e = true → e.on ≠ i) → oi.apart ops ok = true := fun k ok hk hki hun hno => by
        refine hfree k ok hk hki ?_ hno
        by_cases hjk : j = k
        · subst hjk; exact hjun
        · rw [getD_set_ne true hjk] at hun; exact hun
      refine ⟨oj, u, hoj, hyj', ih _ _ hfree' (ready_mono hr (Ne.symm hji)) hyi' ?_⟩
      rw [Array.setIfInBounds_comm _ _ hji, ← Act.put_comm a v u h2]
      exact hrest
theorem wpPre_lex (hs : Region.noSelect ops = true) : ∀ (l : List Oper) (k : Nat) (listed : Array Bool) (a : Act), (∀ j, j < l.length → l[j]? = ops[k + j]?) → k + l.length = m → listed.size = ops.size → (∀ j, j < k → listed.getD j false = true) →
    lexTo ops l.length k listed = true → wpCalm P ops C (fun a' => Q (setTo l.length k listed) a') l k a → wpPre P ops m C Q l.length listed a
  | [], k, listed, _, _, hm, _, hd, _, h => by
    refine ⟨fun i hi him => ?_, h⟩
    have h1 := getD_both' (mem_ready.1 hi).1
    rw [hd i (by simp at hm; omega)] at h1
    cases h1
  | o :: l, k, listed, a, hl, hm, hsz, hd, hB, h => by
    have h0 : ops[k]? = some o := by simpa using (hl 0 (by simp)).symm
    simp only [List.length_cons, lexTo, Bool.and_eq_true] at hB
    obtain ⟨⟨hr, hf⟩, hB'⟩ := hB
    have hl' : ∀ j, j < l.length → l[j]? = ops[(k + 1) + j]? := fun j hj => by have := hl (j + 1) (by simpa using hj); simpa [Nat.add_assoc, Nat.add_comm 1 j] using this
    have hy : ∃ v, Leaves P ops C k o v a ∧ wpCalm P ops C (fun a' => Q (setTo (o :: l).length k listed) a') l (k + 1) (a.put o.dst v) := by
      unfold wpCalm at h
      split at h
      · rename_i hw; obtain ⟨v, h1, h2⟩ := h; exact ⟨v, .inl ⟨hw, h1⟩, h2⟩
      · rename_i hw; exact ⟨undef, .inr ⟨by simpa using hw, rfl, h.1⟩, h.2⟩
    obtain ⟨v, hy, hK⟩ := hy
    have hk : k < listed.size := by rw [hsz]; exact (Array.getElem?_eq_some_iff.1 h0).1
    exact wpPre_first (by simp at hm; omega) h0 (Region.noSelect_spec hs) l.length listed a (Region.free_spec h0 hf) (by simpa using hr) hy
      (wpPre_lex hs l (k + 1) _ _ hl' (by simp at hm; omega) (by simpa using hsz) (fun j hj => by
        have := congrFun (flags_set (listed := listed) (i := k) hk) j
        unfold flags upd at this
        rw [this]
        by_cases hjk : j = k
        · simp [hjk]
        · simp [hd j (by omega)]) hB' hK)
/-- What is listed has all that it waited for. -/
def Down (ops : Array Oper) (listed : Array Bool) : Prop := ∀ j, listed.getD j false = true → ∀ o, ops[j]? = some o → ∀ e ∈ o.after, Region.binds .any e = true → listed.getD e.on false = true
def reach (ops : Array Oper) : Nat → Nat → Nat → Bool
  | 0, _, _ => false
  | f + 1, i, t => match ops[i]? with
    | none => false
    | some o => o.after.any (fun e => Region.binds .any e && e.on == t) || o.after.any (fun e => Region.binds .any e && reach ops f e.on t)
def gate (ops : Array Oper) (m : Nat) : Bool := (List.range ops.size).all fun i => decide (i < m) || (List.range m).all fun t => reach ops ops.size i t
theorem reach_listed {listed : Array Bool} (hd : Down ops listed) : ∀ (f i t : Nat), reach ops f i t = true → (∀ o, ops[i]? = some o → ∀ e ∈ o.after, Region.binds .any e = true → listed.getD e.on false = true) → listed.getD t false = true
  | 0, _, _, h, _ => by cases h
  | f + 1, i, t, h, hi => by
    simp only [reach] at h
    split at h
    · cases h
    · rename_i o ho
      rw [Bool.or_eq_true, Array.any_eq_true', Array.any_eq_true'] at h
      rcases h with ⟨e, he, h⟩ | ⟨e, he, h⟩
      · simp only [Bool.and_eq_true, beq_iff_eq] at h
        rw [← h.2]; exact hi o ho e he h.1
      · simp only [Bool.and_eq_true] at h
        exact reach_listed hd f e.on t h.2 fun o' ho' => hd e.on (hi o ho e he h.1) o' ho'
def noDefer (l : List Oper) : Bool := l.all fun o => match o.op with
  | .defer _ => false
  | _ => true
theorem wpIn_of_calm {rd : Option Nat} {n : Nat} {o : Oper} {a : Act} {w : World} {C' : World → Prop} {v : Value} {K : Act → World → Prop} {Q : Exit → Act → World → Prop} (hdf : ∀ c, o.op ≠ .defer c) (h : calmAt P o a C' w v)
    (hK : ∀ w', C' w' → K (a.put o.dst v) w') : o.wpIn (fen rd) n P a w K Q := by
  refine ⟨fun _ _ => trivial, ?_⟩
  rw [Oper.semAt_eq _ _ _ hdf]
  unfold calmAt at h
  generalize (execOp a.eval o).run P w = r at *
  cases r with
  | ok x w' =>
    cases x <;> simp only [calmUpon] at h
    case value u => rw [h.1]; exact hK _ h.2
    case skip => obtain ⟨rfl, h2⟩ := h; exact hK _ h2
    case enter f args =>
      refine ⟨fun h => (by cases h), fen_calls ?_⟩
      exact h.mono fun e w'' ⟨he, hw''⟩ => by subst he; exact hK _ hw''
  | halt x w' => simp only [calmUpon] at h
theorem anyIn_of_pre {rd : Option Nat} {n f : Nat} {Q' : Exit → Act → World → Prop} (hdf : ∀ (j : Nat) (o : Oper) c, ops[j]? = some o → o.op ≠ .defer c) (hg : gate ops m = true)
    (hK : ∀ listed a w, Q listed a → C (flags listed) w → wpAnyIn (fen rd) n P .any ops Q' f listed a w) : ∀ (fuel : Nat) (listed : Array Bool) (a : Act) (w : World), C (flags listed) w → Down ops listed → wpPre P ops m C Q fuel listed a → wpAnyIn (fen rd) n P .any ops Q' (fuel + f) listed a w
  | 0, listed, a, w, hC, _, h => by rw [Nat.zero_add]; exact hK _ _ _ h.2 hC
  | fuel + 1, listed, a, w, hC, hD, h => by
    rw [show fuel + 1 + f = (fuel + f) + 1 by omega]
    obtain ⟨⟨i0, hi0, him0⟩, h⟩ := h
    unfold wpAnyIn
    refine ⟨fun h0 => (by rw [h0] at hi0; cases hi0), fun i hi => ?_⟩
    obtain ⟨hun, o', ho', hall⟩ := mem_ready.1 hi
    have him : i < m := by
      by_cases him : i < m
      · exact him
      · exfalso
        have h1 := List.all_eq_true.1 hg i (List.mem_range.2 (Array.getElem?_eq_some_iff.1 ho').1)
        simp only [him, decide_false, Bool.false_or] at h1
        have h2 := reach_listed hD _ _ _ (List.all_eq_true.1 h1 i0 (List.mem_range.2 him0)) fun o ho => by
          obtain rfl : o' = o := Option.some.inj (ho'.symm.trans ho)
          exact hall
        have h3 := getD_both' (mem_ready.1 hi0).1
        rw [h2] at h3; cases h3
    obtain ⟨o, v, ho, hy, hr⟩ := h i hi him
    obtain rfl : o = o' := Option.some.inj (ho.symm.trans ho')
    have hlt := ready_lt hi
    have hf := flags_set (listed := listed) hlt
    have hn : Now i o (flags listed) := ⟨getD_both' hun, hall⟩
    have hD' : Down ops (listed.setIfInBounds i true) := by
      intro j hj oj hoj e he hb
      by_cases hji : j = i
      · subst hji
        obtain rfl : o = oj := Option.some.inj (ho.symm.trans hoj)
        exact getD_set_true (hall e he hb)
      · rw [getD_set_ne false (fun e => hji e.symm)] at hj
        exact getD_set_true (hD j hj oj hoj e he hb)
    unfold wpOpIn
    simp only [ho]
    rcases hy with ⟨hwant, hv⟩ | ⟨hwant, rfl, hc⟩
    · rw [if_pos hwant]
      exact wpIn_of_calm (fun c => hdf i o c ho) (hv _ _ hC hn) fun w' hw' => anyIn_of_pre hdf hg hK fuel _ _ w' (by rw [hf]; exact hw') hD' hr
    · rw [if_neg (by simp [hwant])]
      exact ⟨fun _ _ => trivial, anyIn_of_pre hdf hg hK fuel _ _ w (by rw [hf]; exact hc _ _ hC hn) hD' hr⟩
end
section
variable {E : Env} {k : List Fr} {all : List Oper} {f : Nat} {l : Sl} {L : List Ob}
theorem at_calmTo {id : Nat} (m : Nat) (hrd : E.rd = none) (hm : E.P.follows .mixedOrders = true) (hsel : Region.noSelect all.toArray = true) (hdf : noDefer all = true) (hlex : lexTo all.toArray m 0 (Array.replicate all.length false) = true) (hg : gate all.toArray m = true) (hlen : all.length = m + f)
    (h : Calm E (.loop (fun a w => wpAnyIn (fen E.rd) 0 E.P .any all.toArray (postF E.rd E.P E.R k) f (setTo m 0 (Array.replicate all.length false)) a w) :: k) all (all.take m) 0 l L) : At E k (.region id all.toArray true) l L := by
  refine ⟨fun a w ha hs => wpIn_region_any hm ?_⟩
  have htl : (all.take m).length = m := by rw [List.length_take]; omega
  have hp := wpPre_lex (P := E.P) (C := fun _ w => Hs E.w0 L w) (Q := fun listed a' => ∀ w', Hs E.w0 L w' → wpAnyIn (fen E.rd) 0 E.P .any all.toArray (postF E.rd E.P E.R k) f listed a' w') (m := m) hsel (all.take m) 0 (Array.replicate all.length false) a
    (fun j hj => by rw [htl] at hj; simp [List.getElem?_take, hj]) (by omega) (by simp) (fun j hj => by omega) (by rw [htl]; exact hlex) (by rw [htl]; exact h.out a ha)
  rw [htl] at hp
  have := anyIn_of_pre (rd := E.rd) (n := 0) (f := f) (Q' := postF E.rd E.P E.R k) (fun j o c hj e => by
    have h1 := List.all_eq_true.1 hdf o (List.mem_of_getElem? (by simpa using hj))
    simp [e] at h1) hg (fun listed a' w' hq hC => hq w' hC) m (Array.replicate all.length false) a { w with drawn := w.drawn + 1 } ⟨hs.rows, hs.low, hs.apart, hs.below.drew⟩ (fun j hj => by
    simp only [Array.getD_eq_getD_getElem?, Array.getElem?_replicate] at hj
    split at hj <;> cases hj) hp
  simpa [hlen] using this
theorem done_pre {li li' : Array Bool} (e : li = li') (h : Any E k all f li' l L) : Done E (.loop (fun a w => wpAnyIn (fen E.rd) 0 E.P .any all.toArray (postF E.rd E.P E.R k) f li a w) :: k) l L := by subst e; exact done_loop fun a w ha hs => h.out a w ha hs
end
end Go.Proofs.Ytnhkecfapohlgaa

/-! The walker: rows of rows of whole numbers, read or one's own. -/
namespace Go.Proofs.Ytnhkecfapohlgaa
open Go Go.RowKit

/-- A row of whole numbers as an element. -/
structure IntsA where
  p : Option Addr
  n : Nat
  cap : Nat
  l : List Int
def IntsA.enc (x : IntsA) : List Value := [.slice x.p x.n x.cap]
instance : Enc IntsA := ⟨IntsA.enc, 1, fun _ => rfl, fun x v h => by simp [IntsA.enc] at h; subst h; rfl, by decide⟩
structure IntsA.Reads (w : World) (x : IntsA) : Prop where
  sv : Sv w x.p x.l
  hn : x.n = x.l.length
  hc : x.n ≤ x.cap
  hb : x.cap ≤ 9223372036854775807
section
variable {w w' w0 : World} {x : IntsA} {al : List IntsA} {T : TypeId} {Y Yi L : List Ob}
theorem IntsA.Reads.kept (h : x.Reads w) (hb : Below w.heap.size w w') : x.Reads w' := ⟨h.sv.kept hb, h.hn, h.hc, h.hb⟩
theorem SlO.facts {α : Type} [Enc α] {p : Option Addr} {n cap : Nat} {l : List α} (h : SlO T Y p n cap l) : n = l.length ∧ n ≤ cap ∧ cap ≤ 9223372036854775807 := by
  refine ⟨h.len, ?_⟩
  rcases h with ⟨_, _, h, h2, _⟩ | ⟨g, cs, _, _, _, h⟩
  · omega
  · exact ⟨h.le, h.max⟩
/-- Rows of one's own, each in a block of its own. -/
def GotR (T : TypeId) (Yi : List Ob) (al : List IntsA) : Prop := ∃ Ys : List (List Ob), Yi = Ys.flatten ∧ Ys.length = al.length ∧ ∀ (i : Nat) (Y : List Ob) (x : IntsA), Ys[i]? = some Y → al[i]? = some x → SlO T Y x.p x.n x.cap x.l
theorem GotR.nil : GotR T [] [] := ⟨[], rfl, rfl, fun i Y x h => by simp at h⟩
theorem GotR.own (h : GotR T Yi al) (hx : x ∈ al) : ∃ Y, List.Sublist Y Yi ∧ SlO T Y x.p x.n x.cap x.l := by
  obtain ⟨Ys, rfl, hl, hs⟩ := h
  obtain ⟨i, hi⟩ := List.mem_iff_getElem?.1 hx
  have hil := (List.getElem?_eq_some_iff.1 hi).1
  have e : Ys[i]? = some Ys[i] := List.getElem?_eq_getElem (by omega)
  exact ⟨Ys[i], List.sublist_flatten_of_mem (List.getElem_mem _), hs i _ x e hi⟩
theorem SlO.sub {α : Type} [Enc α] {p : Option Addr} {n cap : Nat} {l : List α} (h : SlO T Y p n cap l) (hw : Hs w0 L w) (hs : List.Sublist Y L) : Sv w p l := h.at (R := []) (by rw [List.append_nil]; exact hw.sub hs)
theorem GotR.reads (h : GotR T Yi al) (hw : Hs w0 L w) (hs : List.Sublist Yi L) : ∀ x ∈ al, x.Reads w := fun x hx => by
  obtain ⟨Y, h1, h2⟩ := h.own hx
  have hf := h2.facts
  exact ⟨h2.sub hw (h1.trans hs), hf.1, hf.2.1, hf.2.2⟩
end
section
variable {E : Env} {k : List Fr} {l : Sl} {L L' : List Ob} {all os : List Oper} {i : Nat} {c : Code}
theorem Done.as (h : L = L') (hd : Done E k l L') : Done E k l L := h ▸ hd
theorem At.as (h : L = L') (hd : At E k c l L') : At E k c l L := h ▸ hd
theorem Ops.as (h : L = L') (hd : Ops E k all os i l L') : Ops E k all os i l L := h ▸ hd
theorem min_if17 {n : Nat} : (if (17 : Int) < ((n : Nat) : Int) then (17 : Int) else ((n : Nat) : Int)) = ((min n 17 : Nat) : Int) := by split <;> omega
end
end Go.Proofs.Ytnhkecfapohlgaa

/-! What is shortened, what is named; plain. -/
namespace Go.Proofs.Ytnhkecfapohlgaa
open Go Go.RowKit

theorem SlO.asE {α : Type} [Enc α] {T : TypeId} {Y : List Ob} {p : Option Addr} {n cap : Nat} {l l' : List α} (h : SlO T Y p n cap l) (e : l = l') : SlO T Y p n cap l' := e ▸ h
theorem take_min {α : Type} {l : List α} {n : Nat} (h : n = l.length) : l.take (min n 17) = l.take 17 := by
  by_cases h2 : n ≤ 17
  · rw [Nat.min_eq_left h2, List.take_of_length_le (by omega), List.take_of_length_le (by omega)]
  · rw [Nat.min_eq_right (by omega)]
theorem take_U {ts : List Rn} {k : Nat} (hU : ∀ r ∈ ts, r.U) : ∀ r ∈ ts.take k, r.U := fun r hr => hU r (List.mem_of_mem_take hr)
def inL (l : List Int) (r : Rn) : Bool := decide (r.id ∈ l)
/-- The numbers that an op names, of those that are there. -/
def namedV (ts : List Rn) (l : List Int) : List Int := (ts.filter (inL l)).map Rn.id
section
variable {l : List Int} {x : Rn} {k : Int} {j : Nat}
end
end Go.Proofs.Ytnhkecfapohlgaa

/-! The document's top; plain. -/
namespace Go.Proofs.Ytnhkecfapohlgaa
open Go Go.RowKit

def topRS (s : Fq × Bool) (r : Rn) : Fq × Bool := if s.2 = false ∨ 0 < cmpI (r.t.num * s.1.w) (s.1.num * r.t.w) then (r.t, true) else s
def topRV (ts : List Rn) : Fq × Bool := ts.foldl topRS (zF, false)
section
variable {ts : List Rn} {x r : Rn} {j : Nat} {s : Fq × Bool} {k : Int}
theorem topR_on (hx : ts[j]? = some x) : (ts.take (j + 1)).foldl topRS (zF, false) = topRS ((ts.take j).foldl topRS (zF, false)) x := by
  rw [List.take_add_one, hx, List.foldl_append]; rfl
theorem topR_end (hj : ts.length ≤ j) : (ts.take j).foldl topRS (zF, false) = topRV ts := by rw [List.take_of_length_le hj]; rfl
theorem topRS_yes (h : s.2 = false ∨ 0 < cmpI (r.t.num * s.1.w) (s.1.num * r.t.w)) : topRS s r = (r.t, true) := by unfold topRS; rw [if_pos h]
theorem topRS_no (h : s.2 = true) (h2 : ¬ 0 < cmpI (r.t.num * s.1.w) (s.1.num * r.t.w)) : topRS s r = s := by unfold topRS; rw [if_neg (by rw [h]; simp; omega)]
theorem foldTR_U : ∀ {l : List Rn} {s : Fq × Bool}, (∀ r ∈ l, r.U) → s.1.U → (l.foldl topRS s).1.U
  | [], _, _, h => h
  | r :: l, s, hl, h => by
    refine foldTR_U (l := l) (fun y hy => hl y (List.mem_cons_of_mem _ hy)) ?_
    unfold topRS
    split
    · exact (hl r (List.mem_cons_self ..)).t
    · exact h
theorem topR_eq : ∀ {l : List Rn} {s : Fq × Bool}, (∀ r ∈ l, r.t.ok = true) → (s.2 = true → s.1.ok = true) → l.foldl topRS s = l.foldl topS s
  | [], _, _, _ => rfl
  | r :: l, s, hl, h => by
    have hr := hl r (List.mem_cons_self ..)
    have e : topRS s r = topS s r := by
      unfold topRS topS
      cases hs : s.2 with
      | false => simp
      | true => rw [cmpF_yes (by rw [hr, h hs]; rfl)]
    rw [List.foldl_cons, List.foldl_cons, e]
    refine topR_eq (l := l) (fun y hy => hl y (List.mem_cons_of_mem _ hy)) fun h2 => ?_
    unfold topS at h2 ⊢
    split
    · exact hr
    · rename_i hn; rw [if_neg hn] at h2; exact h h2
theorem topR_good (h : chkQ ts = true) : topRV ts = topQ ts := by
  rw [topQ_ok h]
  exact topR_eq (fun r hr => ((chk_iff.1 h).bnd hr).2.2.2.2) (fun h => by cases h)
theorem getO_split (o : Option Rn) : getO o = .tuple #[.agg #[.int .i64 (o.getD zR).id, .int .i64 (o.getD zR).each, .int .u64 (o.getD zR).th, .int .u64 (o.getD zR).tl, .int .u64 (o.getD zR).tw], .bool o.isSome] := by cases o <;> rfl
theorem getK_start : getK Rn.id (ts.drop 0) k = getK Rn.id ts k := by rw [List.drop_zero]
end
/-- A queue, as it lies in a row. -/
structure QueA where
  p : Option Addr
  n : Nat
  cap : Nat
  l : List Rn
instance : Enc QueA := ⟨fun x => [.slice x.p x.n x.cap], 1, fun _ => rfl, fun x v h => by simp at h; subst h; rfl, by decide⟩
structure QueA.Reads (x : QueA) (w : World) : Prop where
  sv : Sv w x.p x.l
  hn : x.n = x.l.length
  hc : x.n ≤ x.cap
  hb : x.cap ≤ 9223372036854775807
  hU : ∀ r ∈ x.l, r.U
end Go.Proofs.Ytnhkecfapohlgaa

/-! The walker: an operation whose answer is told (a shift); a range over a function whose body may return; a function that holds one. -/
namespace Go.Proofs.Ytnhkecfapohlgaa
open Go Go.RowKit

section
variable {E : Env} {k : List Fr} {l : Sl} {L : List Ob} {all os : List Oper} {o : Oper} {i : Nat}
/-- An operation whose answer is told. -/
theorem ops_opv (v : Value) (hw : wantL all l o = some true) (hd : okD E.n o.dst = true) (hk : knownO l o = true) (h : ∀ w, (execOp (look l) o).run E.P w = .ok (.value v) w) (hn : Ops E k all os (i + 1) (putL o.dst v l) L) : Ops E k all (o :: os) i l L := by
  refine ⟨fun a w ha hs => ?_⟩
  have hg := wantL_spec ha hw
  refine wpListIn_step fun K hK => ?_
  rw [if_pos hg]
  refine ⟨fun _ _ => trivial, ?_⟩
  have hdf : ∀ c, o.op ≠ .defer c := fun c e => by simp [knownO, e] at hk
  rw [Oper.semAt_eq _ _ _ hdf, look_exec ha hk, h]
  exact hK _ _ (hn.out _ _ (ha.put hd v) hs)
end
end Go.Proofs.Ytnhkecfapohlgaa

/-! The walker: operations whose answer is told, in regions that draw their order as well: bits, bytes of a table. -/
namespace Go.Proofs.Ytnhkecfapohlgaa
open Go Go.RowKit

section
variable {E : Env} {k : List Fr} {l : Sl} {L : List Ob} {all os : List Oper} {o : Oper} {i : Nat}
variable {P : Program} {ρ : Operand → Value} {T U : TypeId} {x y : Operand} {kd kd' : IntKind} {a b n : Int}
def orV (a b : Int) : Int := IntKind.u32.wrap (((a % 4294967296).toNat ||| (b % 4294967296).toNat : Nat) : Int)
def andV (a b : Int) : Int := IntKind.u32.wrap (((a % 4294967296).toNat &&& (b % 4294967296).toNat : Nat) : Int)
end
end Go.Proofs.Ytnhkecfapohlgaa

/-! The walker: more told operations on bits: and, and-not, sums that wrap. -/
namespace Go.Proofs.Ytnhkecfapohlgaa
open Go Go.RowKit
section
variable {P : Program} {ρ : Operand → Value} {T U : TypeId} {x y : Operand} {a b n : Int} {o : Oper}
def and64 (a b : Int) : Int := IntKind.u64.wrap (((a % 18446744073709551616).toNat &&& (b % 18446744073709551616).toNat : Nat) : Int)
def andI64 (a b : Int) : Int := IntKind.i64.wrap (((a % 18446744073709551616).toNat &&& (b % 18446744073709551616).toNat : Nat) : Int)
def andNotV (a b : Int) : Int := IntKind.u32.wrap (((a % 4294967296).toNat &&& (4294967295 - (b % 4294967296).toNat) : Nat) : Int)
end
end Go.Proofs.Ytnhkecfapohlgaa
