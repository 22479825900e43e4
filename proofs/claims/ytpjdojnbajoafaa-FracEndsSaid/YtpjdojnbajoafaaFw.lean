/- The law FracEnds: it answers true, whatever the input. -/
import Derived.Test.YtpjdojnbajoafaaFv
import Derived.Test.YtpjdojnbajoafaaFq
namespace Go.Proofs.Ytpjdojnbajoafaa
open Go Go.RowKit

/-- i over whom: greater; less. -/
def ahM (N X : Nat → Nat) (k j : Nat) : Bool := decide (N j * X k < N k * X j)
def ahL (N X : Nat → Nat) (k j : Nat) : Bool := decide (N k * X j < N j * X k)
theorem c3_pos (a b : Nat) : 0 < c3 (a : Int) (b : Int) ↔ b < a := by
  rcases Nat.lt_trichotomy a b with g | g | g
  · rw [c3_lt g]; omega
  · subst g; rw [c3_eq]; omega
  · rw [c3_gt g]; omega

section
variable {n : Nat} {N X : Nat → Nat}
theorem above_d (hok : ∀ k, k < n → okN (N k) (X k) = true) (k j : Nat) (hk : k < n) (hj : j < n) : Dt 62 #[nf (N k) (X k), nf (N j) (X j)] (.bool (ahM N X k j)) := fun w => by
  have C := Lib.hid (dFCmpY (hok k hk) (hok j hj))
  by_cases h : N j * X k < N k * X j
  · rw [show ahM N X k j = true from decide_eq_true h]
    exact above_true _ _ _ _ _ _ w _ C ((c3_pos _ _).2 h)
  · rw [show ahM N X k j = false from decide_eq_false h]
    exact above_false _ _ _ _ _ _ w _ C (fun h' => h ((c3_pos _ _).1 h'))
theorem below_d (hok : ∀ k, k < n → okN (N k) (X k) = true) (k j : Nat) (hk : k < n) (hj : j < n) : Dt 63 #[nf (N k) (X k), nf (N j) (X j)] (.bool (ahL N X k j)) := fun w => by
  have C := Lib.hid (dFCmpY (hok k hk) (hok j hj))
  by_cases h : N k * X j < N j * X k
  · rw [show ahL N X k j = true from decide_eq_true h]
    exact below_true _ _ _ _ _ _ w _ C ((c3_neg' _ _).2 h)
  · rw [show ahL N X k j = false from decide_eq_false h]
    exact below_false _ _ _ _ _ _ w _ C (fun h' => h ((c3_neg' _ _).1 h'))

/-- The cells of a row of fractions. -/
def RowOf (n : Nat) (N X : Nat → Nat) (cs : Array Value) : Prop := ∀ k, k < n → cs[3 * k]? = some (.int .u64 (N k / 2 ^ 64 : Nat)) ∧ cs[3 * k + 1]? = some (.int .u64 (N k % 2 ^ 64 : Nat)) ∧ cs[3 * k + 2]? = some (.int .u64 (X k : Nat))
theorem right_d {cap g : Nat} {cs : Array Value} {w : World} (hn : n ≤ 100) (hc : RowOf n N X cs) (hg : IsR w g cs 60) : Calls Try.prog 64 #[.slice (some ⟨g, 0, none⟩) n cap] w fun e w' => e = .returned (.bool (rightB n (fun k => N k / 2 ^ 64) X)) ∧ Below w.heap.size w w' :=
  right_any n cap g cs (fun k => N k / 2 ^ 64) (fun k => N k % 2 ^ 64) X w (by omega) (Lib.hid hg) (Lib.hid hc)

theorem most_bad {cap g : Nat} {cs : Array Value} {w : World} (hn : n ≤ 100) (hn1 : 0 < n) (hc : RowOf n N X cs) (hr : rightB n (fun k => N k / 2 ^ 64) X = false) (hg : IsR w g cs 60) : Calls Try.prog 35 #[.slice (some ⟨g, 0, none⟩) n cap] w fun e w' => e = .returned (.tuple #[.int .i64 0, .bool false]) ∧ Below w.heap.size w w' :=
  most_w n cap g 0 false cs w (Lib.hid hg) (Lib.hid fun w1 hg1 => find_bad n cap g _ 0 cs w1 hg1 (by omega) (Lib.hid fun w2 hg2 => by have := right_d (w := w2) (cap := cap) hn hc hg2.out; rwa [hr] at this))
theorem least_bad {cap g : Nat} {cs : Array Value} {w : World} (hn : n ≤ 100) (hn1 : 0 < n) (hc : RowOf n N X cs) (hr : rightB n (fun k => N k / 2 ^ 64) X = false) (hg : IsR w g cs 60) : Calls Try.prog 36 #[.slice (some ⟨g, 0, none⟩) n cap] w fun e w' => e = .returned (.tuple #[.int .i64 0, .bool false]) ∧ Below w.heap.size w w' :=
  least_w n cap g 0 false cs w (Lib.hid hg) (Lib.hid fun w1 hg1 => find_bad n cap g _ 0 cs w1 hg1 (by omega) (Lib.hid fun w2 hg2 => by have := right_d (w := w2) (cap := cap) hn hc hg2.out; rwa [hr] at this))
theorem most_nil {cap g : Nat} {cs : Array Value} {w : World} (hg : IsR w g cs 60) : Calls Try.prog 35 #[.slice (some ⟨g, 0, none⟩) 0 cap] w fun e w' => e = .returned (.tuple #[.int .i64 0, .bool false]) ∧ Below w.heap.size w w' :=
  most_w 0 cap g 0 false cs w (Lib.hid hg) (Lib.hid fun w1 hg1 => find_nil 0 cap g _ 0 cs w1 hg1 rfl)
theorem least_nil {cap g : Nat} {cs : Array Value} {w : World} (hg : IsR w g cs 60) : Calls Try.prog 36 #[.slice (some ⟨g, 0, none⟩) 0 cap] w fun e w' => e = .returned (.tuple #[.int .i64 0, .bool false]) ∧ Below w.heap.size w w' :=
  least_w 0 cap g 0 false cs w (Lib.hid hg) (Lib.hid fun w1 hg1 => find_nil 0 cap g _ 0 cs w1 hg1 rfl)
theorem most_ok {cap g : Nat} {cs : Array Value} {w : World} (hn : n ≤ 100) (hn1 : 0 < n) (hc : RowOf n N X cs) (hok : ∀ k, k < n → okN (N k) (X k) = true) (hg : IsR w g cs 60) : Calls Try.prog 35 #[.slice (some ⟨g, 0, none⟩) n cap] w fun e w' => e = .returned (.tuple #[.int .i64 (bst (ahM N X) n : Nat), .bool true]) ∧ Below w.heap.size w w' := by
  have hr : rightB n (fun k => N k / 2 ^ 64) X = true := rightB_yes hok
  exact most_w n cap g _ true cs w (Lib.hid hg) (Lib.hid fun w1 hg1 => find_yes n cap g _ _ cs w1 hg1 (by omega) (Lib.hid fun w2 hg2 => by have := right_d (w := w2) (cap := cap) hn hc hg2.out; rwa [hr] at this)
    (Lib.hid fun w2 hg2 => first_above n cap g cs _ _ _ (ahM N X) w2 (by omega) hg2 (Lib.hid hc) (Lib.hid fun k j hk hj => above_d hok k j hk hj)))
theorem least_ok {cap g : Nat} {cs : Array Value} {w : World} (hn : n ≤ 100) (hn1 : 0 < n) (hc : RowOf n N X cs) (hok : ∀ k, k < n → okN (N k) (X k) = true) (hg : IsR w g cs 60) : Calls Try.prog 36 #[.slice (some ⟨g, 0, none⟩) n cap] w fun e w' => e = .returned (.tuple #[.int .i64 (bst (ahL N X) n : Nat), .bool true]) ∧ Below w.heap.size w w' := by
  have hr : rightB n (fun k => N k / 2 ^ 64) X = true := rightB_yes hok
  exact least_w n cap g _ true cs w (Lib.hid hg) (Lib.hid fun w1 hg1 => find_yes n cap g _ _ cs w1 hg1 (by omega) (Lib.hid fun w2 hg2 => by have := right_d (w := w2) (cap := cap) hn hc hg2.out; rwa [hr] at this)
    (Lib.hid fun w2 hg2 => first_below n cap g cs _ _ _ (ahL N X) w2 (by omega) hg2 (Lib.hid hc) (Lib.hid fun k j hk hj => below_d hok k j hk hj)))
end

theorem row_of {n cap : Nat} {N X : Nat → Nat} {news : List Value} {cs : Array Value} (hO : OwnS 3 news n cap cs)
    (hc : ∀ k, k < n → news[3 * k]? = some (.int .u64 (N k / 2 ^ 64 : Nat)) ∧ news[3 * k + 1]? = some (.int .u64 (N k % 2 ^ 64 : Nat)) ∧ news[3 * k + 2]? = some (.int .u64 (X k : Nat))) : RowOf n N X cs := fun k hk => by
  rw [hO.get (3 * k) (by omega), hO.get (3 * k + 1) (by omega), hO.get (3 * k + 2) (by omega)]
  exact hc k hk

theorem fracends_nil (w : World) : Calls Try.prog 9 #[.slice none 0 0] w fun e w' => e = .returned (.bool true) ∧ Below w.heap.size w w' :=
  lends_nil 0 0 0 0 [] (fun _ => 0) (fun _ => 0) (fun _ => 0) (fun _ _ => false) (fun _ _ => false) w (Lib.hid fun _ _ _ _ _ hg => most_nil hg) (Lib.hid fun _ _ _ _ _ hg => least_nil hg)

theorem fracends_zero (cap : Nat) (a0 : Addr) (w : World) : Calls Try.prog 9 #[.slice (some a0) 0 cap] w fun e w' => e = .returned (.bool true) ∧ Below w.heap.size w w' :=
  lends_zero 0 cap 0 0 [] (fun _ => 0) (fun _ => 0) (fun _ => 0) (fun _ _ => false) (fun _ _ => false) w a0 (Lib.hid fun _ _ _ _ _ hg => most_nil hg) (Lib.hid fun _ _ _ _ _ hg => least_nil hg)

theorem fracends_any (n cap b off : Nat) (news : List Value) (N X : Nat → Nat) (w : World) (hb : b < w.heap.size) (hl : news.length = n * 3) (h1 : ∀ u ∈ news, u.oneCell' = true)
    (hmem : ∀ j u, news[j]? = some u → w.cell? ((⟨b, off, none⟩ : Addr).add j) = some u)
    (hc : ∀ k, k < n → news[3 * k]? = some (.int .u64 (N k / 2 ^ 64 : Nat)) ∧ news[3 * k + 1]? = some (.int .u64 (N k % 2 ^ 64 : Nat)) ∧ news[3 * k + 2]? = some (.int .u64 (X k : Nat))) :
    Calls Try.prog 9 #[.slice (some ⟨b, off, none⟩) n cap] w fun e w' => e = .returned (.bool true) ∧ Below w.heap.size w w' := by
  by_cases hn : n ≤ 100
  · by_cases hn1 : 0 < n
    · have R : Hid (∀ k, k < n → Dt 37 #[nf (N k) (X k)] (.bool (okN (N k) (X k)))) := Lib.hid fun k _ => dRRight (N k) (X k)
      by_cases hr : rightB n (fun k => N k / 2 ^ 64) X = true
      · have hok : ∀ k, k < n → okN (N k) (X k) = true := fun k hk => by
          unfold rightB at hr
          exact (List.all_eq_true.1 hr) k (List.mem_range.2 hk)
        exact lends_ok n cap b off news (fun k => N k / 2 ^ 64) (fun k => N k % 2 ^ 64) X (ahM N X) (ahL N X) w hb (by omega) (by omega) hn1 (Lib.hid hn) (Lib.hid hmem) (Lib.hid hl) (Lib.hid h1) (Lib.hid hc)
          (Lib.hid fun _ _ _ _ hO hg => most_ok hn hn1 (row_of hO hc) hok hg) (Lib.hid fun _ _ _ _ hO hg => least_ok hn hn1 (row_of hO hc) hok hg) (Lib.hid hok)
          (Lib.hid fun k j hk hj => ⟨_, dRCmp (hok k hk) (hok j hj), by rw [c3_pos]; exact decide_eq_true_iff, by rw [c3_neg']; exact decide_eq_true_iff⟩) R
      · have hr' : rightB n (fun k => N k / 2 ^ 64) X = false := by simpa using hr
        exact lends_bad n cap b off news (fun k => N k / 2 ^ 64) (fun k => N k % 2 ^ 64) X (fun _ _ => false) (fun _ _ => false) w hb (by omega) (by omega) hn1 (Lib.hid hn) (Lib.hid hmem) (Lib.hid hl) (Lib.hid h1) (Lib.hid hc)
          (Lib.hid fun _ _ _ _ hO hg => most_bad hn hn1 (row_of hO hc) hr' hg) (Lib.hid fun _ _ _ _ hO hg => least_bad hn hn1 (row_of hO hc) hr' hg) (Lib.hid hr') R
    · obtain rfl : n = 0 := by omega
      exact fracends_zero cap ⟨b, off, none⟩ w
  · exact lends_big n cap b off news (fun _ => 0) (fun _ => 0) (fun _ => 0) (fun _ _ => false) (fun _ _ => false) w hb (by omega)
end Go.Proofs.Ytpjdojnbajoafaa
