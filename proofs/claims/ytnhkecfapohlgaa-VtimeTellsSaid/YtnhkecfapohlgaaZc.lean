/- Texts of this proof, one behind the other. -/
import Derived.Test.YtnhkecfapohlgaaZb
import Derived.Test.YtnhkecfapohlgaaZa
import Derived.Test.YtnhkecfapohlgaaProg
/-! Fractions: which may be, how they stand. -/
namespace Go.Proofs.Ytnhkecfapohlgaa
open Go Go.RowKit

set_option maxRecDepth 100000 in
theorem weight_t (x : Int) (w : World)
 : Calls Try.prog 70 #[.int .u64 x] w fun e w' => e = .returned (.bool (wB x)) ∧ Below w.heap.size w w' := by
 refine enter (Hs.start w) Try.func70 rfl Try.ntmps70 rfl (sq_ (qa0 [] [0] [] (ds_ (sq_ ?_))))
 by_cases q3 : (x : Int) ≥ (1 : Int)
 ·
  by_cases q5 : (x : Int) ≤ (65535 : Int)
  ·
   refine qa [(1, .yes), (4, .yes)] [] [(2, .bool true)] ([(x : Int) ≥ (1 : Int)] ++ ([(x : Int) ≤ (65535 : Int)])) (alA (al1 q3) (al1 q5)) (ds_ (rt ([]) (.bool true) ?_))
   exact fun w' hw => ⟨by rw [show wB x = true from by simp only [wB, decide_eq_true_eq]; omega], hw.below⟩
  ·
   refine qa [(1, .yes), (4, .no)] [] [(2, .bool false)] ([(x : Int) ≥ (1 : Int)] ++ ([¬ ((x : Int) ≤ (65535 : Int))])) (alA (al1 q3) (al1 q5)) (ds_ (rt ([]) (.bool false) ?_))
   exact fun w' hw => ⟨by rw [show wB x = false from by simp only [wB, decide_eq_false_iff_not]; omega], hw.below⟩
 ·
  refine qa [(1, .no)] [] [(2, .bool false)] ([¬ ((x : Int) ≥ (1 : Int))]) (al1 q3) (ds_ (rt ([]) (.bool false) ?_))
  exact fun w' hw => ⟨by rw [show wB x = false from by simp only [wB, decide_eq_false_iff_not]; omega], hw.below⟩

set_option maxRecDepth 100000 in
theorem right_t (p : Option Addr) (n cap : Nat) (l : List Fq) (w : World)
 (hsl : Sv w p l) (hn : n = l.length) (hb : n ≤ 1000)
 : Calls Try.prog 39 #[.slice p n cap] w fun e w' => e = .returned (.bool (l.all Fq.ok)) ∧ Below w.heap.size w w' := by
 refine enter (Hs.start w) Try.func39 rfl Try.ntmps39 rfl (sq_ (qa0 [] [0] [] (ds_ (sq_ (sq_ (qa0 [] [] [(5, .slice p n cap), (6, .int .i64 (n : Nat)), (7, .int .i64 0)] (ds_ (at_block (at_loop (α := Nat) [5, 6, 7] (fun j => [(5, .slice p n cap), (6, .int .i64 (n : Nat)), (7, .int .i64 (j : Nat))]) (fun j => []) (fun j => j ≤ n ∧ ∀ y ∈ l.take j, y.ok = true) (fun j => n - j) 0 (by kernel_rfl) rfl ⟨Nat.zero_le _, all_take0T⟩ ?_)))))))))
 rintro j
 rintro ⟨hj, hI⟩
 refine sq_ ?_
 by_cases q4 : ((j : Nat) : Int) < ((n : Nat) : Int)
 ·
  refine qa [(0, .yes)] [5, 6, 7] [(8, .bool true)] ([((j : Nat) : Int) < ((n : Nat) : Int)]) (al1 q4) (ds_ (sq_ (t_ (at_skip (ds_ (sq_ (at_block (sq_ ?_))))))))
  obtain ⟨b7, o7, rfl⟩ := hsl.pos (i := j) (by omega)
  obtain ⟨x9, hx9⟩ := get_some (l := l) (m := j) (by omega)
  refine ma [(0, .at b7 o7 j), (1, .go (outs b7 (o7 + j * 3) [.int .u64 x9.hi, .int .u64 x9.lo, .int .u64 x9.w])), (3, .go (owns 0 0 3))] [5, 6, 7] (fun γ10 => [(4, .pointer (some ⟨γ10 0, 0, none⟩))]) (fun γ10 L => bx (γ10 0) (#[.int .u64 x9.hi, .int .u64 x9.lo, .int .u64 x9.w]) 33 :: L) (fun γ10 => [(some ⟨b7, o7, none⟩ : Option Addr) = some ⟨b7, o7, none⟩, (j : Nat) = ((j : Nat) : Int), j < n] ++ (cellsP w b7 (o7 + j * 3) [.int .u64 x9.hi, .int .u64 x9.lo, .int .u64 x9.w])) (fun γ10 => (alA (al2 rfl (al2 rfl (al1 (by omega)))) (rd_pre (hsl.get hx9) _ rfl))) (fun γ10 => ds_ (sq_ (ao_ (qo0 2 [(1, .go (owns 0 2 1))] [4, 5, 6, 7] [(12, .int .u64 x9.w)] ?_))))
  rcases q12 : wB x9.w with _ | _
  ·
   refine cD (.bool false) Try.call70 (fun w hw => by have := weight_t x9.w w; rw [q12] at this; exact this) (qo0 7 [] [5, 6, 7] [(20, .bool true)] (on_ (ds_ (t_ (sq_ (qa0 [] [] [(2, .bool false)] (ds_ (rt ([]) (.bool false) ?_))))))))
   exact fun w' hw => ⟨by rw [allF_no hx9 (ok_noW q12)], hw.below⟩
  ·
   refine cD (.bool true) Try.call70 (fun w hw => by have := weight_t x9.w w; rw [q12] at this; exact this) ?_
   by_cases q16 : (x9.hi : Int) ≥ (68719476736 : Int)
   ·
    refine qo 7 [(7, .go (owns 0 0 1)), (8, .yes)] [5, 6, 7] [(20, .bool true)] ([(x9.hi : Int) ≥ (68719476736 : Int)]) (al1 q16) (on_ (ds_ (t_ (sq_ (qa0 [] [] [(2, .bool false)] (ds_ (rt ([]) (.bool false) ?_)))))))
    exact fun w' hw => ⟨by rw [allF_no hx9 (ok_noH (by omega))], hw.below⟩
   ·
    refine qo 7 [(7, .go (owns 0 0 1)), (8, .no)] [5, 6, 7] [(20, .bool false)] ([¬ ((x9.hi : Int) ≥ (68719476736 : Int))]) (al1 q16) (on_ (ds_ (f_ (at_skip (done_block (ds_ (qa [(0, .fit)] [5, 6] [(7, .int .i64 (j + 1 : Nat))] ([Fit .i64 ((j + 1 : Nat))]) (al1 (fit64 (by omega) (by omega))) (Done.drop (L' := []) ?_ (List.Sublist.cons _ (List.Sublist.refl _))))))))))
    exact dr [5, 6, 7] (j + 1) ⟨by omega, all_onT hI hx9 (ok_yesW q12 (by omega))⟩
 ·
  refine qa [(0, .no)] [5, 6, 7] [(8, .bool false)] ([¬ (((j : Nat) : Int) < ((n : Nat) : Int))]) (al1 q4) (ds_ (sq_ (f_ (at_leave _ rfl (ds_ (sq_ (qa0 [] [] [(2, .bool true)] (ds_ (rt ([]) (.bool true) ?_)))))))))
  exact fun w' hw => ⟨by rw [allF_yes hI (by omega)], hw.below⟩

set_option maxRecDepth 100000 in
theorem fcheck_t (a : Fq) (w : World)
 : Calls Try.prog 53 #[.agg #[.int .u64 a.hi, .int .u64 a.lo, .int .u64 a.w]] w fun e w' => e = .returned (.int .i64 (if a.ok = true then 0 else 150)) ∧ Below w.heap.size w w' := by
 refine enter (Hs.start w) Try.func53 rfl Try.ntmps53 rfl (sq_ (ma0 [] [] (fun γ1 => [(1, .pointer (some ⟨γ1 0, 0, none⟩))]) (fun γ1 L => bx (γ1 0) (#[.int .u64 a.hi, .int .u64 a.lo, .int .u64 a.w]) 33 :: L) (fun γ1 => ds_ (sq_ (sq_ (ao_ (mo0 2 [(0, .go (owns 0 0 3))] [] (fun γ2 => [(4, .slice (some ⟨γ2 0, 0, none⟩) 1 1)]) (fun γ2 L => bx (γ2 0) (#[.int .u64 a.hi, .int .u64 a.lo, .int .u64 a.w]) 33 :: L) (fun γ2 => ?_))))))))
 rcases q3 : a.ok with _ | _
 ·
  refine cD (.bool false) Try.call39 (fun w hw => by have := right_t (some ⟨γ2 0, 0, none⟩) 1 1 [a] w (sv_row (hw.row 0 rfl) rfl) rfl (by decide); rw [all1, q3] at this; exact this) (qo0 1 [] [] [(6, .bool true)] (on_ (ds_ (t_ (sq_ (qa0 [] [] [(2, .int .i64 150)] (ds_ (rt ([]) (.int .i64 150) ?_))))))))
  exact fun w' hw => ⟨rfl, hw.below⟩
 ·
  refine cD (.bool true) Try.call39 (fun w hw => by have := right_t (some ⟨γ2 0, 0, none⟩) 1 1 [a] w (sv_row (hw.row 0 rfl) rfl) rfl (by decide); rw [all1, q3] at this; exact this) (qo0 1 [] [] [(6, .bool false)] (on_ (ds_ (f_ (at_skip (ds_ (sq_ (qa0 [] [] [(2, .int .i64 0)] (ds_ (rt ([]) (.int .i64 0) ?_))))))))))
  exact fun w' hw => ⟨rfl, hw.below⟩

set_option maxRecDepth 100000 in
theorem times_t (a : Fq) (m : Int) (w : World)
 (hU : a.U) (hk : a.ok = true) (hm : wB m = true)
 : Calls Try.prog 41 #[.agg #[.int .u64 a.hi, .int .u64 a.lo], .int .u64 m] w fun e w' => e = .returned (iv (hiV (a.num * m)) (loV (a.num * m))) ∧ Below w.heap.size w w' := by
 refine enter (Hs.start w) Try.func41 rfl Try.ntmps41 rfl (sq_ (ma0 [] [1] (fun γ1 => [(2, .pointer (some ⟨γ1 0, 0, none⟩)), (4, .pointer (some ⟨γ1 1, 0, none⟩))]) (fun γ1 L => bx (γ1 1) (#[.int .u64 0, .int .u64 0]) 31 :: bx (γ1 0) (#[.int .u64 a.hi, .int .u64 a.lo]) 31 :: L) (fun γ1 => ds_ (sq_ (ao_ (qo0 2 [(0, .go (owns 1 0 2))] [4] [(8, .agg #[.int .u64 a.hi, .int .u64 a.lo]), (9, .int .u64 m)] (cD (.tuple #[.agg #[.int .u64 (hiV (a.num * m)), .int .u64 (loV (a.num * m))], .int .i64 0]) Try.call71 (fun w hw => ftimes_v hU hk hm w) (mo0 6 [(7, .go (owns 0 0 2))] [4] (fun γ3 => [(5, .pointer (some ⟨γ3 0, 0, none⟩))]) (fun γ3 L => bx (γ3 0) (#[.int .u64 (hiV (a.num * m)), .int .u64 (loV (a.num * m))]) 31 :: L) (fun γ3 => on_ (ds_ (sq_ (ma0 [(0, .go (owns 0 0 2)), (1, .go (owns 1 0 2))] [4] (fun _ => []) (fun _ L => (L.set 1 (bx (γ1 1) (#[.int .u64 (hiV (a.num * m)), .int .u64 (loV (a.num * m))]) 31))) (fun _ => ds_ (rt (owns 1 0 2) (.agg #[.int .u64 (hiV (a.num * m)), .int .u64 (loV (a.num * m))]) ?_))))))))))))))
 exact fun w' hw => ⟨rfl, hw.below⟩

set_option maxRecDepth 100000 in
theorem fcmp_t (a b : Fq) (w : World)
 (hU : a.U) (hV : b.U)
 : Calls Try.prog 13 #[.agg #[.int .u64 a.hi, .int .u64 a.lo, .int .u64 a.w], .agg #[.int .u64 b.hi, .int .u64 b.lo, .int .u64 b.w]] w fun e w' => e = .returned (.int .i64 (cmpF a b)) ∧ Below w.heap.size w w' := by
 refine enter (Hs.start w) Try.func13 rfl Try.ntmps13 rfl (sq_ (ma0 [] [] (fun γ1 => [(2, .pointer (some ⟨γ1 0, 0, none⟩)), (3, .pointer (some ⟨γ1 1, 0, none⟩))]) (fun γ1 L => bx (γ1 1) (#[.int .u64 b.hi, .int .u64 b.lo, .int .u64 b.w]) 33 :: bx (γ1 0) (#[.int .u64 a.hi, .int .u64 a.lo, .int .u64 a.w]) 33 :: L) (fun γ1 => ds_ (sq_ (sq_ (ao_ (mo0 3 [(0, .go (owns 1 0 3)), (1, .go (owns 0 0 3))] [2, 3] (fun γ2 => [(7, .slice (some ⟨γ2 0, 0, none⟩) 2 2)]) (fun γ2 L => bx (γ2 0) (#[.int .u64 a.hi, .int .u64 a.lo, .int .u64 a.w, .int .u64 b.hi, .int .u64 b.lo, .int .u64 b.w]) 33 :: L) (fun γ2 => ?_))))))))
 rcases q3 : (a.ok && b.ok) with _ | _
 ·
  refine cD (.bool false) Try.call39 (fun w hw => by have := right_t (some ⟨γ2 0, 0, none⟩) 2 2 [a, b] w (sv_row (hw.row 0 rfl) rfl) rfl (by decide); rw [all2, q3] at this; exact this) (qo0 1 [] [2, 3] [(9, .bool true)] (on_ (ds_ (t_ (sq_ (qa0 [] [] [(4, .int .i64 0)] (ds_ (rt ([]) (.int .i64 0) ?_))))))))
  exact fun w' hw => ⟨by rw [cmpF_no q3], hw.below⟩
 ·
  refine cD (.bool true) Try.call39 (fun w hw => by have := right_t (some ⟨γ2 0, 0, none⟩) 2 2 [a, b] w (sv_row (hw.row 0 rfl) rfl) rfl (by decide); rw [all2, q3] at this; exact this) (qo0 1 [] [2, 3] [(9, .bool false)] (on_ (ds_ (f_ (at_skip (ds_ (sq_ ?_)))))))
  refine at_calm rfl (by kernel_rfl) (by kernel_rfl) ?_
  refine cm 4 [(1, .go (owns 2 0 2)), (3, .go (owns 1 2 1))] [2, 3] [(11, .agg #[.int .u64 a.hi, .int .u64 a.lo]), (13, .int .u64 b.w)] ([]) (by kernel_rfl) rfl al0 ?_
  refine cK (.agg #[.int .u64 (hiV (a.num * b.w)), .int .u64 (loV (a.num * b.w))]) Try.call41 (fun w hw => times_t a b.w w hU (and_l q3) (wB_of (and_r q3))) ?_
  refine cm 4 [(6, .go (owns 1 0 2)), (8, .go (owns 2 2 1))] [14] [(16, .agg #[.int .u64 b.hi, .int .u64 b.lo]), (18, .int .u64 a.w)] ([]) (by kernel_rfl) rfl al0 ?_
  refine cK (.agg #[.int .u64 (hiV (b.num * a.w)), .int .u64 (loV (b.num * a.w))]) Try.call41 (fun w hw => times_t b a.w w hV (and_r q3) (wB_of (and_l q3))) ?_
  refine cK (.int .i64 (cmpI (a.num * b.w) (b.num * a.w))) Try.call40 (fun w hw => wcmp_v (Int.mul_nonneg hU.n0 hV.w0) (Int.mul_nonneg hV.n0 hU.w0) w) ?_
  refine cm 1 [] [] [(4, .int .i64 (cmpI (a.num * b.w) (b.num * a.w)))] ([]) (by kernel_rfl) rfl al0 ?_
  refine calm_nil' ?_
  refine ds_ (rt ([]) (.int .i64 (cmpI (a.num * b.w) (b.num * a.w))) ?_)
  exact fun w' hw => ⟨by rw [cmpF_yes q3], hw.below⟩
end Go.Proofs.Ytnhkecfapohlgaa

/-! Fractions: what is reckoned with them. -/
namespace Go.Proofs.Ytnhkecfapohlgaa
open Go Go.RowKit

set_option maxRecDepth 100000 in
theorem fwith_t (a : Fq) (h l e_ : Int) (w : World)
 : Calls Try.prog 48 #[.agg #[.int .u64 a.hi, .int .u64 a.lo, .int .u64 a.w], .agg #[.int .u64 h, .int .u64 l], .int .i64 e_] w fun e w' => e = .returned (.tuple #[.agg #[.int .u64 (withV a.w h l e_).1.hi, .int .u64 (withV a.w h l e_).1.lo, .int .u64 (withV a.w h l e_).1.w], .int .i64 (withV a.w h l e_).2]) ∧ Below w.heap.size w w' := by
 refine enter (Hs.start w) Try.func48 rfl Try.ntmps48 rfl (sq_ (ma0 [] [2] (fun γ1 => [(3, .pointer (some ⟨γ1 0, 0, none⟩)), (4, .pointer (some ⟨γ1 1, 0, none⟩)), (6, .pointer (some ⟨γ1 2, 0, none⟩))]) (fun γ1 L => bx (γ1 2) (#[.int .u64 0, .int .u64 0, .int .u64 0]) 33 :: bx (γ1 1) (#[.int .u64 h, .int .u64 l]) 31 :: bx (γ1 0) (#[.int .u64 a.hi, .int .u64 a.lo, .int .u64 a.w]) 33 :: L) (fun γ1 => ds_ (sq_ (sq_ ?_)))))
 by_cases q3 : (e_ : Int) ≠ (0 : Int)
 ·
  refine qa [(1, .yes)] [3, 4, 6] [(14, .bool true)] ([(e_ : Int) ≠ (0 : Int)]) (al1 q3) (ds_ (t_ (sq_ (qa0 [(1, .go (owns 0 0 3))] [6] [(7, .int .i64 131)] (ds_ (rt (owns 0 0 3) (.tuple #[.agg #[.int .u64 0, .int .u64 0, .int .u64 0], .int .i64 131]) ?_))))))
  exact fun w' hw => ⟨by rw [with_no (by omega)], hw.below⟩
 ·
  by_cases q7 : (h : Int) ≥ (68719476736 : Int)
  ·
   refine qa [(1, .no), (4, .go (owns 1 0 1)), (5, .yes)] [3, 4, 6] [(14, .bool true)] ([¬ ((e_ : Int) ≠ (0 : Int))] ++ ([(h : Int) ≥ (68719476736 : Int)])) (alA (al1 q3) (al1 q7)) (ds_ (t_ (sq_ (qa0 [(1, .go (owns 0 0 3))] [6] [(7, .int .i64 131)] (ds_ (rt (owns 0 0 3) (.tuple #[.agg #[.int .u64 0, .int .u64 0, .int .u64 0], .int .i64 131]) ?_))))))
   exact fun w' hw => ⟨by rw [with_no (by omega)], hw.below⟩
  ·
   refine qa [(1, .no), (4, .go (owns 1 0 1)), (5, .no)] [3, 4, 6] [(14, .bool false)] ([¬ ((e_ : Int) ≠ (0 : Int))] ++ ([¬ ((h : Int) ≥ (68719476736 : Int))])) (alA (al1 q3) (al1 q7)) (ds_ (f_ (at_skip (ds_ (sq_ (ma0 [(0, .go (owns 1 0 2)), (2, .go (owns 2 2 1)), (4, .go (owns 0 0 3))] [6] (fun _ => [(7, .int .i64 0)]) (fun _ L => (L.set 0 (bx (γ1 2) (#[.int .u64 h, .int .u64 l, .int .u64 a.w]) 33))) (fun _ => ds_ (rt (owns 0 0 3) (.tuple #[.agg #[.int .u64 h, .int .u64 l, .int .u64 a.w], .int .i64 0]) ?_))))))))
   exact fun w' hw => ⟨by rw [with_yes (by omega) (by omega)], hw.below⟩

set_option maxRecDepth 100000 in
theorem fadd_t (a : Fq) (n : Int) (w : World)
 (hU : a.U) (hn0 : 0 ≤ n) (hn1 : n < 18446744073709551616)
 : Calls Try.prog 18 #[.agg #[.int .u64 a.hi, .int .u64 a.lo, .int .u64 a.w], .int .u64 n] w fun e w' => e = .returned (.tuple #[.agg #[.int .u64 (addV a n).1.hi, .int .u64 (addV a n).1.lo, .int .u64 (addV a n).1.w], .int .i64 (addV a n).2]) ∧ Below w.heap.size w w' := by
 refine enter (Hs.start w) Try.func18 rfl Try.ntmps18 rfl (sq_ (ma0 [] [1] (fun γ1 => [(2, .pointer (some ⟨γ1 0, 0, none⟩)), (4, .pointer (some ⟨γ1 1, 0, none⟩))]) (fun γ1 L => bx (γ1 1) (#[.int .u64 0, .int .u64 0, .int .u64 0]) 33 :: bx (γ1 0) (#[.int .u64 a.hi, .int .u64 a.lo, .int .u64 a.w]) 33 :: L) (fun γ1 => ds_ (sq_ (sq_ (ao_ (mo0 2 [(0, .go (owns 1 0 3))] [1, 2, 4] (fun γ2 => [(9, .slice (some ⟨γ2 0, 0, none⟩) 1 1)]) (fun γ2 L => bx (γ2 0) (#[.int .u64 a.hi, .int .u64 a.lo, .int .u64 a.w]) 33 :: L) (fun γ2 => ?_))))))))
 rcases q3 : a.ok with _ | _
 ·
  refine cD (.bool false) Try.call39 (fun w hw => by have := right_t (some ⟨γ2 0, 0, none⟩) 1 1 [a] w (sv_row (hw.row 0 rfl) rfl) rfl (by decide); rw [all1, q3] at this; exact this) (qo0 1 [] [1, 2, 4] [(11, .bool true)] (on_ (ds_ (t_ (sq_ (qa0 [(1, .go (owns 1 0 3))] [4] [(5, .int .i64 150)] (ds_ (rt (owns 1 0 3) (.tuple #[.agg #[.int .u64 0, .int .u64 0, .int .u64 0], .int .i64 150]) ?_))))))))
  exact fun w' hw => ⟨by rw [add_no q3], hw.below⟩
 ·
  refine cD (.bool true) Try.call39 (fun w hw => by have := right_t (some ⟨γ2 0, 0, none⟩) 1 1 [a] w (sv_row (hw.row 0 rfl) rfl) rfl (by decide); rw [all1, q3] at this; exact this) (qo0 1 [] [1, 2, 4] [(11, .bool false)] (on_ (ds_ (f_ (at_skip (ds_ (sq_ ?_)))))))
  refine at_any (by kernel_rfl) ?_
  refine tk (m := 9) [0, 2] [] [2, 4] [(14, .pointer (some ⟨γ1 0, 0, none⟩)), (16, .int .u64 n)] ([]) #[true, false, true, false, false, false, false, false, false, false, false] al0 ?_
  refine any_cutX (V := (Nat → Nat)) (fun γ170 => True) 0 #[true, true, true, true, true, true, true, true, true, true, true] (fun γ170 => [(2, .pointer (some ⟨γ1 0, 0, none⟩)), (4, .pointer (some ⟨γ1 1, 0, none⟩)), (6, .pointer (some ⟨γ170 0, 0, none⟩)), (7, .int .i64 0)]) (fun γ170 => [bx (γ170 0) (#[.int .u64 (hiV (a.num + n)), .int .u64 (loV (a.num + n))]) 31, bx (γ2 0) (#[.int .u64 a.hi, .int .u64 a.lo, .int .u64 a.w]) 33, bx (γ1 1) (#[.int .u64 0, .int .u64 0, .int .u64 0]) 33, bx (γ1 0) (#[.int .u64 a.hi, .int .u64 a.lo, .int .u64 a.w]) 33]) ?_ (fun hmx10 => ?_)
  rotate_left
  ·
   refine any_cutX (V := (Nat → Nat)) (fun γ170 => True) 2 #[true, true, true, true, true, true, true, true, true, false, false] (fun γ170 => [(2, .pointer (some ⟨γ1 0, 0, none⟩)), (4, .pointer (some ⟨γ1 1, 0, none⟩)), (6, .pointer (some ⟨γ170 0, 0, none⟩)), (19, .agg #[.int .u64 (hiV (a.num + n)), .int .u64 (loV (a.num + n))]), (20, .int .i64 0)]) (fun γ170 => [bx (γ170 0) (#[.int .u64 0, .int .u64 0]) 31, bx (γ2 0) (#[.int .u64 a.hi, .int .u64 a.lo, .int .u64 a.w]) 33, bx (γ1 1) (#[.int .u64 0, .int .u64 0, .int .u64 0]) 33, bx (γ1 0) (#[.int .u64 a.hi, .int .u64 a.lo, .int .u64 a.w]) 33]) ?_ (fun hmx9 => ?_)
   ·
    rintro γ170 _
    refine a1 9 rfl ?_
    refine mo0 1 [(9, .go (owns 0 0 2))] [2, 4, 6, 20] (fun _ => []) (fun _ L => (L.set 0 (bx (γ170 0) (#[.int .u64 (hiV (a.num + n)), .int .u64 (loV (a.num + n))]) 31))) (fun _ => ?_)
    refine od_ ?_
    refine tk (m := 0) [10] [] [2, 4, 6] [(7, .int .i64 0)] ([]) #[true, true, true, true, true, true, true, true, true, true, true] al0 ?_
    exact wk (hmx10 γ170 trivial) [2, 4, 6, 7] [[_], [_], [_], [_]] [0, 1, 2, 3] rfl rfl
   refine any_cutX (V := Unit) (fun _ => True) 3 #[true, true, true, true, true, true, true, true, false, false, false] (fun _ => [(2, .pointer (some ⟨γ1 0, 0, none⟩)), (4, .pointer (some ⟨γ1 1, 0, none⟩)), (19, .agg #[.int .u64 (hiV (a.num + n)), .int .u64 (loV (a.num + n))]), (20, .int .i64 0)]) (fun _ => [bx (γ2 0) (#[.int .u64 a.hi, .int .u64 a.lo, .int .u64 a.w]) 33, bx (γ1 1) (#[.int .u64 0, .int .u64 0, .int .u64 0]) 33, bx (γ1 0) (#[.int .u64 a.hi, .int .u64 a.lo, .int .u64 a.w]) 33]) ?_ (fun hmx8 => ?_)
   ·
    rintro _ _
    refine a1 8 rfl ?_
    refine mo0 1 [] [2, 4, 19, 20] (fun γ170 => [(6, .pointer (some ⟨γ170 0, 0, none⟩))]) (fun γ170 L => bx (γ170 0) (#[.int .u64 0, .int .u64 0]) 31 :: L) (fun γ170 => ?_)
    refine od_ ?_
    exact wk (hmx9 γ170 trivial) [2, 4, 6, 19, 20] [[_], [_], [_], [_]] [0, 1, 2, 3] rfl rfl
   refine any_cutX (V := (Nat → Nat)) (fun γ170 => True) 6 #[true, true, true, true, false, false, false, false, true, false, false] (fun γ170 => [(2, .pointer (some ⟨γ1 0, 0, none⟩)), (4, .pointer (some ⟨γ1 1, 0, none⟩)), (6, .pointer (some ⟨γ170 0, 0, none⟩)), (15, .agg #[.int .u64 a.hi, .int .u64 a.lo]), (17, .agg #[.int .u64 (hiV n), .int .u64 (loV n)])]) (fun γ170 => [bx (γ170 0) (#[.int .u64 0, .int .u64 0]) 31, bx (γ2 0) (#[.int .u64 a.hi, .int .u64 a.lo, .int .u64 a.w]) 33, bx (γ1 1) (#[.int .u64 0, .int .u64 0, .int .u64 0]) 33, bx (γ1 0) (#[.int .u64 a.hi, .int .u64 a.lo, .int .u64 a.w]) 33]) ?_ (fun hmx7 => ?_)
   ·
    rintro γ170 _
    refine a1 4 rfl ?_
    refine cD (.tuple #[.agg #[.int .u64 (hiV (a.num + n)), .int .u64 (loV (a.num + n))], .int .i64 0]) Try.call47 (fun w hw => fadd_v hU q3 hn0 hn1 w) ?_
    refine od_ ?_
    refine tk (m := 2) [5, 6, 7] [] [2, 4, 6] [(19, .agg #[.int .u64 (hiV (a.num + n)), .int .u64 (loV (a.num + n))]), (20, .int .i64 0)] ([]) #[true, true, true, true, true, true, true, true, true, false, false] al0 ?_
    exact wk (hmx9 γ170 trivial) [2, 4, 6, 19, 20] [[_], [_], [_], [_]] [0, 1, 2, 3] rfl rfl
   refine any_cutX (V := (Nat → Nat)) (fun γ170 => True) 7 #[true, false, true, true, false, false, false, false, true, false, false] (fun γ170 => [(2, .pointer (some ⟨γ1 0, 0, none⟩)), (4, .pointer (some ⟨γ1 1, 0, none⟩)), (6, .pointer (some ⟨γ170 0, 0, none⟩)), (14, .pointer (some ⟨γ1 0, 0, none⟩)), (17, .agg #[.int .u64 (hiV n), .int .u64 (loV n)])]) (fun γ170 => [bx (γ170 0) (#[.int .u64 0, .int .u64 0]) 31, bx (γ2 0) (#[.int .u64 a.hi, .int .u64 a.lo, .int .u64 a.w]) 33, bx (γ1 1) (#[.int .u64 0, .int .u64 0, .int .u64 0]) 33, bx (γ1 0) (#[.int .u64 a.hi, .int .u64 a.lo, .int .u64 a.w]) 33]) ?_ (fun hmx6 => ?_)
   ·
    rintro γ170 _
    refine a1 1 rfl ?_
    refine qo0 1 [(1, .go (owns 3 0 2))] [2, 4, 6, 17] [(15, .agg #[.int .u64 a.hi, .int .u64 a.lo])] ?_
    refine od_ ?_
    exact wk (hmx7 γ170 trivial) [2, 4, 6, 15, 17] [[_], [_], [_], [_]] [0, 1, 2, 3] rfl rfl
   refine any_cutX (V := (Nat → Nat)) (fun γ170 => True) 7 #[true, true, true, false, false, false, false, false, true, false, false] (fun γ170 => [(2, .pointer (some ⟨γ1 0, 0, none⟩)), (4, .pointer (some ⟨γ1 1, 0, none⟩)), (6, .pointer (some ⟨γ170 0, 0, none⟩)), (15, .agg #[.int .u64 a.hi, .int .u64 a.lo]), (16, .int .u64 n)]) (fun γ170 => [bx (γ170 0) (#[.int .u64 0, .int .u64 0]) 31, bx (γ2 0) (#[.int .u64 a.hi, .int .u64 a.lo, .int .u64 a.w]) 33, bx (γ1 1) (#[.int .u64 0, .int .u64 0, .int .u64 0]) 33, bx (γ1 0) (#[.int .u64 a.hi, .int .u64 a.lo, .int .u64 a.w]) 33]) ?_ (fun hmx5 => ?_)
   ·
    rintro γ170 _
    refine a1 3 rfl ?_
    refine cD (.agg #[.int .u64 (hiV n), .int .u64 (loV n)]) Try.call43 (fun w hw => wof_v hn0 hn1 w) ?_
    refine od_ ?_
    exact wk (hmx7 γ170 trivial) [2, 4, 6, 15, 17] [[_], [_], [_], [_]] [0, 1, 2, 3] rfl rfl
   refine any_cutX (V := Unit) (fun _ => True) 7 #[true, true, true, true, false, false, false, false, false, false, false] (fun _ => [(2, .pointer (some ⟨γ1 0, 0, none⟩)), (4, .pointer (some ⟨γ1 1, 0, none⟩)), (15, .agg #[.int .u64 a.hi, .int .u64 a.lo]), (17, .agg #[.int .u64 (hiV n), .int .u64 (loV n)])]) (fun _ => [bx (γ2 0) (#[.int .u64 a.hi, .int .u64 a.lo, .int .u64 a.w]) 33, bx (γ1 1) (#[.int .u64 0, .int .u64 0, .int .u64 0]) 33, bx (γ1 0) (#[.int .u64 a.hi, .int .u64 a.lo, .int .u64 a.w]) 33]) ?_ (fun hmx4 => ?_)
   ·
    rintro _ _
    refine any_fork [4, 8] (by kernel_rfl) (by simp) (each_cons _ rfl ?_ (each_cons _ rfl ?_ (each_nil)))
    ·
     refine cD (.tuple #[.agg #[.int .u64 (hiV (a.num + n)), .int .u64 (loV (a.num + n))], .int .i64 0]) Try.call47 (fun w hw => fadd_v hU q3 hn0 hn1 w) ?_
     refine od_ ?_
     refine tk (m := 3) [5, 6, 7] [] [2, 4] [(19, .agg #[.int .u64 (hiV (a.num + n)), .int .u64 (loV (a.num + n))]), (20, .int .i64 0)] ([]) #[true, true, true, true, true, true, true, true, false, false, false] al0 ?_
     exact wk (hmx8 () trivial) [2, 4, 19, 20] [[_], [_], [_]] [0, 1, 2] rfl rfl
    ·
     refine mo0 1 [] [2, 4, 15, 17] (fun γ170 => [(6, .pointer (some ⟨γ170 0, 0, none⟩))]) (fun γ170 L => bx (γ170 0) (#[.int .u64 0, .int .u64 0]) 31 :: L) (fun γ170 => ?_)
     refine od_ ?_
     exact wk (hmx7 γ170 trivial) [2, 4, 6, 15, 17] [[_], [_], [_], [_]] [0, 1, 2, 3] rfl rfl
   refine any_cutX (V := (Nat → Nat)) (fun γ170 => True) 8 #[true, false, true, false, false, false, false, false, true, false, false] (fun γ170 => [(2, .pointer (some ⟨γ1 0, 0, none⟩)), (4, .pointer (some ⟨γ1 1, 0, none⟩)), (6, .pointer (some ⟨γ170 0, 0, none⟩)), (14, .pointer (some ⟨γ1 0, 0, none⟩)), (16, .int .u64 n)]) (fun γ170 => [bx (γ170 0) (#[.int .u64 0, .int .u64 0]) 31, bx (γ2 0) (#[.int .u64 a.hi, .int .u64 a.lo, .int .u64 a.w]) 33, bx (γ1 1) (#[.int .u64 0, .int .u64 0, .int .u64 0]) 33, bx (γ1 0) (#[.int .u64 a.hi, .int .u64 a.lo, .int .u64 a.w]) 33]) ?_ (fun hmx3 => ?_)
   ·
    rintro γ170 _
    refine any_fork [1, 3] (by kernel_rfl) (by simp) (each_cons _ rfl ?_ (each_cons _ rfl ?_ (each_nil)))
    ·
     refine qo0 1 [(1, .go (owns 3 0 2))] [2, 4, 6, 16] [(15, .agg #[.int .u64 a.hi, .int .u64 a.lo])] ?_
     refine od_ ?_
     exact wk (hmx5 γ170 trivial) [2, 4, 6, 15, 16] [[_], [_], [_], [_]] [0, 1, 2, 3] rfl rfl
    ·
     refine cD (.agg #[.int .u64 (hiV n), .int .u64 (loV n)]) Try.call43 (fun w hw => wof_v hn0 hn1 w) ?_
     refine od_ ?_
     exact wk (hmx6 γ170 trivial) [2, 4, 6, 14, 17] [[_], [_], [_], [_]] [0, 1, 2, 3] rfl rfl
   refine any_cutX (V := Unit) (fun _ => True) 8 #[true, false, true, true, false, false, false, false, false, false, false] (fun _ => [(2, .pointer (some ⟨γ1 0, 0, none⟩)), (4, .pointer (some ⟨γ1 1, 0, none⟩)), (14, .pointer (some ⟨γ1 0, 0, none⟩)), (17, .agg #[.int .u64 (hiV n), .int .u64 (loV n)])]) (fun _ => [bx (γ2 0) (#[.int .u64 a.hi, .int .u64 a.lo, .int .u64 a.w]) 33, bx (γ1 1) (#[.int .u64 0, .int .u64 0, .int .u64 0]) 33, bx (γ1 0) (#[.int .u64 a.hi, .int .u64 a.lo, .int .u64 a.w]) 33]) ?_ (fun hmx2 => ?_)
   ·
    rintro _ _
    refine any_fork [1, 8] (by kernel_rfl) (by simp) (each_cons _ rfl ?_ (each_cons _ rfl ?_ (each_nil)))
    ·
     refine qo0 1 [(1, .go (owns 2 0 2))] [2, 4, 17] [(15, .agg #[.int .u64 a.hi, .int .u64 a.lo])] ?_
     refine od_ ?_
     exact wk (hmx4 () trivial) [2, 4, 15, 17] [[_], [_], [_]] [0, 1, 2] rfl rfl
    ·
     refine mo0 1 [] [2, 4, 14, 17] (fun γ170 => [(6, .pointer (some ⟨γ170 0, 0, none⟩))]) (fun γ170 L => bx (γ170 0) (#[.int .u64 0, .int .u64 0]) 31 :: L) (fun γ170 => ?_)
     refine od_ ?_
     exact wk (hmx6 γ170 trivial) [2, 4, 6, 14, 17] [[_], [_], [_], [_]] [0, 1, 2, 3] rfl rfl
   refine any_cutX (V := Unit) (fun _ => True) 8 #[true, true, true, false, false, false, false, false, false, false, false] (fun _ => [(2, .pointer (some ⟨γ1 0, 0, none⟩)), (4, .pointer (some ⟨γ1 1, 0, none⟩)), (15, .agg #[.int .u64 a.hi, .int .u64 a.lo]), (16, .int .u64 n)]) (fun _ => [bx (γ2 0) (#[.int .u64 a.hi, .int .u64 a.lo, .int .u64 a.w]) 33, bx (γ1 1) (#[.int .u64 0, .int .u64 0, .int .u64 0]) 33, bx (γ1 0) (#[.int .u64 a.hi, .int .u64 a.lo, .int .u64 a.w]) 33]) ?_ (fun hmx1 => ?_)
   ·
    rintro _ _
    refine any_fork [3, 8] (by kernel_rfl) (by simp) (each_cons _ rfl ?_ (each_cons _ rfl ?_ (each_nil)))
    ·
     refine cD (.agg #[.int .u64 (hiV n), .int .u64 (loV n)]) Try.call43 (fun w hw => wof_v hn0 hn1 w) ?_
     refine od_ ?_
     exact wk (hmx4 () trivial) [2, 4, 15, 17] [[_], [_], [_]] [0, 1, 2] rfl rfl
    ·
     refine mo0 1 [] [2, 4, 15, 16] (fun γ170 => [(6, .pointer (some ⟨γ170 0, 0, none⟩))]) (fun γ170 L => bx (γ170 0) (#[.int .u64 0, .int .u64 0]) 31 :: L) (fun γ170 => ?_)
     refine od_ ?_
     exact wk (hmx5 γ170 trivial) [2, 4, 6, 15, 16] [[_], [_], [_], [_]] [0, 1, 2, 3] rfl rfl
   refine any_fork [1, 3, 8] (by kernel_rfl) (by simp) (each_cons _ rfl ?_ (each_cons _ rfl ?_ (each_cons _ rfl ?_ (each_nil))))
   ·
    refine qo0 1 [(1, .go (owns 2 0 2))] [2, 4, 16] [(15, .agg #[.int .u64 a.hi, .int .u64 a.lo])] ?_
    refine od_ ?_
    exact wk (hmx1 () trivial) [2, 4, 15, 16] [[_], [_], [_]] [0, 1, 2] rfl rfl
   ·
    refine cD (.agg #[.int .u64 (hiV n), .int .u64 (loV n)]) Try.call43 (fun w hw => wof_v hn0 hn1 w) ?_
    refine od_ ?_
    exact wk (hmx2 () trivial) [2, 4, 14, 17] [[_], [_], [_]] [0, 1, 2] rfl rfl
   ·
    refine mo0 1 [] [2, 4, 14, 16] (fun γ170 => [(6, .pointer (some ⟨γ170 0, 0, none⟩))]) (fun γ170 L => bx (γ170 0) (#[.int .u64 0, .int .u64 0]) 31 :: L) (fun γ170 => ?_)
    refine od_ ?_
    exact wk (hmx3 γ170 trivial) [2, 4, 6, 14, 16] [[_], [_], [_], [_]] [0, 1, 2, 3] rfl rfl
  rintro γ170 _
  refine any_nil (by kernel_rfl) ?_
  refine ds_ (sq_ (ao_ (qo0 3 [(0, .go (owns 3 0 3)), (1, .go (owns 0 0 2))] [4] [(21, .agg #[.int .u64 a.hi, .int .u64 a.lo, .int .u64 a.w]), (22, .agg #[.int .u64 (hiV (a.num + n)), .int .u64 (loV (a.num + n))]), (23, .int .i64 0)] (cD (.tuple #[.agg #[.int .u64 ((withV a.w (hiV (a.num + n)) (loV (a.num + n)) 0).1.hi), .int .u64 ((withV a.w (hiV (a.num + n)) (loV (a.num + n)) 0).1.lo), .int .u64 ((withV a.w (hiV (a.num + n)) (loV (a.num + n)) 0).1.w)], .int .i64 ((withV a.w (hiV (a.num + n)) (loV (a.num + n)) 0).2)]) Try.call48 (fun w hw => fwith_t a (hiV (a.num + n)) (loV (a.num + n)) 0 w) (mo0 4 [(6, .go (owns 2 0 3))] [4] (fun _ => [(5, .int .i64 ((withV a.w (hiV (a.num + n)) (loV (a.num + n)) 0).2))]) (fun _ L => (L.set 2 (bx (γ1 1) (#[.int .u64 ((withV a.w (hiV (a.num + n)) (loV (a.num + n)) 0).1.hi), .int .u64 ((withV a.w (hiV (a.num + n)) (loV (a.num + n)) 0).1.lo), .int .u64 ((withV a.w (hiV (a.num + n)) (loV (a.num + n)) 0).1.w)]) 33))) (fun _ => on_ (ds_ (rt (owns 2 0 3) (.tuple #[.agg #[.int .u64 ((withV a.w (hiV (a.num + n)) (loV (a.num + n)) 0).1.hi), .int .u64 ((withV a.w (hiV (a.num + n)) (loV (a.num + n)) 0).1.lo), .int .u64 ((withV a.w (hiV (a.num + n)) (loV (a.num + n)) 0).1.w)], .int .i64 ((withV a.w (hiV (a.num + n)) (loV (a.num + n)) 0).2)]) ?_))))))))
  exact fun w' hw => ⟨by rw [add_yes q3], hw.below⟩

set_option maxRecDepth 100000 in
theorem fless_t (a : Fq) (n : Int) (w : World)
 (hU : a.U) (hn0 : 0 ≤ n) (hn1 : n < 18446744073709551616)
 : Calls Try.prog 14 #[.agg #[.int .u64 a.hi, .int .u64 a.lo, .int .u64 a.w], .int .u64 n] w fun e w' => e = .returned (.tuple #[.agg #[.int .u64 (lessV a n).1.hi, .int .u64 (lessV a n).1.lo, .int .u64 (lessV a n).1.w], .int .i64 (lessV a n).2]) ∧ Below w.heap.size w w' := by
 refine enter (Hs.start w) Try.func14 rfl Try.ntmps14 rfl (sq_ (ma0 [] [1] (fun γ1 => [(2, .pointer (some ⟨γ1 0, 0, none⟩)), (4, .pointer (some ⟨γ1 1, 0, none⟩))]) (fun γ1 L => bx (γ1 1) (#[.int .u64 0, .int .u64 0, .int .u64 0]) 33 :: bx (γ1 0) (#[.int .u64 a.hi, .int .u64 a.lo, .int .u64 a.w]) 33 :: L) (fun γ1 => ds_ (sq_ (sq_ (ao_ (mo0 2 [(0, .go (owns 1 0 3))] [1, 2, 4] (fun γ2 => [(9, .slice (some ⟨γ2 0, 0, none⟩) 1 1)]) (fun γ2 L => bx (γ2 0) (#[.int .u64 a.hi, .int .u64 a.lo, .int .u64 a.w]) 33 :: L) (fun γ2 => ?_))))))))
 rcases q3 : a.ok with _ | _
 ·
  refine cD (.bool false) Try.call39 (fun w hw => by have := right_t (some ⟨γ2 0, 0, none⟩) 1 1 [a] w (sv_row (hw.row 0 rfl) rfl) rfl (by decide); rw [all1, q3] at this; exact this) (qo0 1 [] [1, 2, 4] [(11, .bool true)] (on_ (ds_ (t_ (sq_ (qa0 [(1, .go (owns 1 0 3))] [4] [(5, .int .i64 150)] (ds_ (rt (owns 1 0 3) (.tuple #[.agg #[.int .u64 0, .int .u64 0, .int .u64 0], .int .i64 150]) ?_))))))))
  exact fun w' hw => ⟨by rw [less_noV q3], hw.below⟩
 ·
  refine cD (.bool true) Try.call39 (fun w hw => by have := right_t (some ⟨γ2 0, 0, none⟩) 1 1 [a] w (sv_row (hw.row 0 rfl) rfl) rfl (by decide); rw [all1, q3] at this; exact this) (qo0 1 [] [1, 2, 4] [(11, .bool false)] (on_ (ds_ (f_ (at_skip (ds_ (sq_ ?_)))))))
  by_cases q7 : (a.num : Int) < (n : Int)
  ·
   refine at_any (by kernel_rfl) ?_
   refine tk (m := 9) [0, 2] [] [2, 4] [(14, .pointer (some ⟨γ1 0, 0, none⟩)), (16, .int .u64 n)] ([]) #[true, false, true, false, false, false, false, false, false, false, false] al0 ?_
   refine any_cutX (V := (Nat → Nat)) (fun γ171 => True) 0 #[true, true, true, true, true, true, true, true, true, true, true] (fun γ171 => [(2, .pointer (some ⟨γ1 0, 0, none⟩)), (4, .pointer (some ⟨γ1 1, 0, none⟩)), (6, .pointer (some ⟨γ171 0, 0, none⟩)), (7, .int .i64 131)]) (fun γ171 => [bx (γ171 0) (#[.int .u64 0, .int .u64 0]) 31, bx (γ2 0) (#[.int .u64 a.hi, .int .u64 a.lo, .int .u64 a.w]) 33, bx (γ1 1) (#[.int .u64 0, .int .u64 0, .int .u64 0]) 33, bx (γ1 0) (#[.int .u64 a.hi, .int .u64 a.lo, .int .u64 a.w]) 33]) ?_ (fun hmx10 => ?_)
   rotate_left
   ·
    refine any_cutX (V := (Nat → Nat)) (fun γ171 => True) 2 #[true, true, true, true, true, true, true, true, true, false, false] (fun γ171 => [(2, .pointer (some ⟨γ1 0, 0, none⟩)), (4, .pointer (some ⟨γ1 1, 0, none⟩)), (6, .pointer (some ⟨γ171 0, 0, none⟩)), (19, .agg #[.int .u64 0, .int .u64 0]), (20, .int .i64 131)]) (fun γ171 => [bx (γ171 0) (#[.int .u64 0, .int .u64 0]) 31, bx (γ2 0) (#[.int .u64 a.hi, .int .u64 a.lo, .int .u64 a.w]) 33, bx (γ1 1) (#[.int .u64 0, .int .u64 0, .int .u64 0]) 33, bx (γ1 0) (#[.int .u64 a.hi, .int .u64 a.lo, .int .u64 a.w]) 33]) ?_ (fun hmx9 => ?_)
    ·
     rintro γ171 _
     refine a1 9 rfl ?_
     refine qo0 1 [(9, .go (owns 0 0 2))] [2, 4, 6, 20] [] ?_
     refine od_ ?_
     refine tk (m := 0) [10] [] [2, 4, 6] [(7, .int .i64 131)] ([]) #[true, true, true, true, true, true, true, true, true, true, true] al0 ?_
     exact wk (hmx10 γ171 trivial) [2, 4, 6, 7] [[_], [_], [_], [_]] [0, 1, 2, 3] rfl rfl
    refine any_cutX (V := Unit) (fun _ => True) 3 #[true, true, true, true, true, true, true, true, false, false, false] (fun _ => [(2, .pointer (some ⟨γ1 0, 0, none⟩)), (4, .pointer (some ⟨γ1 1, 0, none⟩)), (19, .agg #[.int .u64 0, .int .u64 0]), (20, .int .i64 131)]) (fun _ => [bx (γ2 0) (#[.int .u64 a.hi, .int .u64 a.lo, .int .u64 a.w]) 33, bx (γ1 1) (#[.int .u64 0, .int .u64 0, .int .u64 0]) 33, bx (γ1 0) (#[.int .u64 a.hi, .int .u64 a.lo, .int .u64 a.w]) 33]) ?_ (fun hmx8 => ?_)
    ·
     rintro _ _
     refine a1 8 rfl ?_
     refine mo0 1 [] [2, 4, 19, 20] (fun γ171 => [(6, .pointer (some ⟨γ171 0, 0, none⟩))]) (fun γ171 L => bx (γ171 0) (#[.int .u64 0, .int .u64 0]) 31 :: L) (fun γ171 => ?_)
     refine od_ ?_
     exact wk (hmx9 γ171 trivial) [2, 4, 6, 19, 20] [[_], [_], [_], [_]] [0, 1, 2, 3] rfl rfl
    refine any_cutX (V := (Nat → Nat)) (fun γ171 => True) 6 #[true, true, true, true, false, false, false, false, true, false, false] (fun γ171 => [(2, .pointer (some ⟨γ1 0, 0, none⟩)), (4, .pointer (some ⟨γ1 1, 0, none⟩)), (6, .pointer (some ⟨γ171 0, 0, none⟩)), (15, .agg #[.int .u64 a.hi, .int .u64 a.lo]), (17, .agg #[.int .u64 (hiV n), .int .u64 (loV n)])]) (fun γ171 => [bx (γ171 0) (#[.int .u64 0, .int .u64 0]) 31, bx (γ2 0) (#[.int .u64 a.hi, .int .u64 a.lo, .int .u64 a.w]) 33, bx (γ1 1) (#[.int .u64 0, .int .u64 0, .int .u64 0]) 33, bx (γ1 0) (#[.int .u64 a.hi, .int .u64 a.lo, .int .u64 a.w]) 33]) ?_ (fun hmx7 => ?_)
    ·
     rintro γ171 _
     refine a1 4 rfl ?_
     refine cD (.tuple #[.agg #[.int .u64 0, .int .u64 0], .int .i64 131]) Try.call42 (fun w hw => fsub_lt hU hn0 q7 w) ?_
     refine od_ ?_
     refine tk (m := 2) [5, 6, 7] [] [2, 4, 6] [(19, .agg #[.int .u64 0, .int .u64 0]), (20, .int .i64 131)] ([]) #[true, true, true, true, true, true, true, true, true, false, false] al0 ?_
     exact wk (hmx9 γ171 trivial) [2, 4, 6, 19, 20] [[_], [_], [_], [_]] [0, 1, 2, 3] rfl rfl
    refine any_cutX (V := (Nat → Nat)) (fun γ171 => True) 7 #[true, false, true, true, false, false, false, false, true, false, false] (fun γ171 => [(2, .pointer (some ⟨γ1 0, 0, none⟩)), (4, .pointer (some ⟨γ1 1, 0, none⟩)), (6, .pointer (some ⟨γ171 0, 0, none⟩)), (14, .pointer (some ⟨γ1 0, 0, none⟩)), (17, .agg #[.int .u64 (hiV n), .int .u64 (loV n)])]) (fun γ171 => [bx (γ171 0) (#[.int .u64 0, .int .u64 0]) 31, bx (γ2 0) (#[.int .u64 a.hi, .int .u64 a.lo, .int .u64 a.w]) 33, bx (γ1 1) (#[.int .u64 0, .int .u64 0, .int .u64 0]) 33, bx (γ1 0) (#[.int .u64 a.hi, .int .u64 a.lo, .int .u64 a.w]) 33]) ?_ (fun hmx6 => ?_)
    ·
     rintro γ171 _
     refine a1 1 rfl ?_
     refine qo0 1 [(1, .go (owns 3 0 2))] [2, 4, 6, 17] [(15, .agg #[.int .u64 a.hi, .int .u64 a.lo])] ?_
     refine od_ ?_
     exact wk (hmx7 γ171 trivial) [2, 4, 6, 15, 17] [[_], [_], [_], [_]] [0, 1, 2, 3] rfl rfl
    refine any_cutX (V := (Nat → Nat)) (fun γ171 => True) 7 #[true, true, true, false, false, false, false, false, true, false, false] (fun γ171 => [(2, .pointer (some ⟨γ1 0, 0, none⟩)), (4, .pointer (some ⟨γ1 1, 0, none⟩)), (6, .pointer (some ⟨γ171 0, 0, none⟩)), (15, .agg #[.int .u64 a.hi, .int .u64 a.lo]), (16, .int .u64 n)]) (fun γ171 => [bx (γ171 0) (#[.int .u64 0, .int .u64 0]) 31, bx (γ2 0) (#[.int .u64 a.hi, .int .u64 a.lo, .int .u64 a.w]) 33, bx (γ1 1) (#[.int .u64 0, .int .u64 0, .int .u64 0]) 33, bx (γ1 0) (#[.int .u64 a.hi, .int .u64 a.lo, .int .u64 a.w]) 33]) ?_ (fun hmx5 => ?_)
    ·
     rintro γ171 _
     refine a1 3 rfl ?_
     refine cD (.agg #[.int .u64 (hiV n), .int .u64 (loV n)]) Try.call43 (fun w hw => wof_v hn0 hn1 w) ?_
     refine od_ ?_
     exact wk (hmx7 γ171 trivial) [2, 4, 6, 15, 17] [[_], [_], [_], [_]] [0, 1, 2, 3] rfl rfl
    refine any_cutX (V := Unit) (fun _ => True) 7 #[true, true, true, true, false, false, false, false, false, false, false] (fun _ => [(2, .pointer (some ⟨γ1 0, 0, none⟩)), (4, .pointer (some ⟨γ1 1, 0, none⟩)), (15, .agg #[.int .u64 a.hi, .int .u64 a.lo]), (17, .agg #[.int .u64 (hiV n), .int .u64 (loV n)])]) (fun _ => [bx (γ2 0) (#[.int .u64 a.hi, .int .u64 a.lo, .int .u64 a.w]) 33, bx (γ1 1) (#[.int .u64 0, .int .u64 0, .int .u64 0]) 33, bx (γ1 0) (#[.int .u64 a.hi, .int .u64 a.lo, .int .u64 a.w]) 33]) ?_ (fun hmx4 => ?_)
    ·
     rintro _ _
     refine any_fork [4, 8] (by kernel_rfl) (by simp) (each_cons _ rfl ?_ (each_cons _ rfl ?_ (each_nil)))
     ·
      refine cD (.tuple #[.agg #[.int .u64 0, .int .u64 0], .int .i64 131]) Try.call42 (fun w hw => fsub_lt hU hn0 q7 w) ?_
      refine od_ ?_
      refine tk (m := 3) [5, 6, 7] [] [2, 4] [(19, .agg #[.int .u64 0, .int .u64 0]), (20, .int .i64 131)] ([]) #[true, true, true, true, true, true, true, true, false, false, false] al0 ?_
      exact wk (hmx8 () trivial) [2, 4, 19, 20] [[_], [_], [_]] [0, 1, 2] rfl rfl
     ·
      refine mo0 1 [] [2, 4, 15, 17] (fun γ171 => [(6, .pointer (some ⟨γ171 0, 0, none⟩))]) (fun γ171 L => bx (γ171 0) (#[.int .u64 0, .int .u64 0]) 31 :: L) (fun γ171 => ?_)
      refine od_ ?_
      exact wk (hmx7 γ171 trivial) [2, 4, 6, 15, 17] [[_], [_], [_], [_]] [0, 1, 2, 3] rfl rfl
    refine any_cutX (V := (Nat → Nat)) (fun γ171 => True) 8 #[true, false, true, false, false, false, false, false, true, false, false] (fun γ171 => [(2, .pointer (some ⟨γ1 0, 0, none⟩)), (4, .pointer (some ⟨γ1 1, 0, none⟩)), (6, .pointer (some ⟨γ171 0, 0, none⟩)), (14, .pointer (some ⟨γ1 0, 0, none⟩)), (16, .int .u64 n)]) (fun γ171 => [bx (γ171 0) (#[.int .u64 0, .int .u64 0]) 31, bx (γ2 0) (#[.int .u64 a.hi, .int .u64 a.lo, .int .u64 a.w]) 33, bx (γ1 1) (#[.int .u64 0, .int .u64 0, .int .u64 0]) 33, bx (γ1 0) (#[.int .u64 a.hi, .int .u64 a.lo, .int .u64 a.w]) 33]) ?_ (fun hmx3 => ?_)
    ·
     rintro γ171 _
     refine any_fork [1, 3] (by kernel_rfl) (by simp) (each_cons _ rfl ?_ (each_cons _ rfl ?_ (each_nil)))
     ·
      refine qo0 1 [(1, .go (owns 3 0 2))] [2, 4, 6, 16] [(15, .agg #[.int .u64 a.hi, .int .u64 a.lo])] ?_
      refine od_ ?_
      exact wk (hmx5 γ171 trivial) [2, 4, 6, 15, 16] [[_], [_], [_], [_]] [0, 1, 2, 3] rfl rfl
     ·
      refine cD (.agg #[.int .u64 (hiV n), .int .u64 (loV n)]) Try.call43 (fun w hw => wof_v hn0 hn1 w) ?_
      refine od_ ?_
      exact wk (hmx6 γ171 trivial) [2, 4, 6, 14, 17] [[_], [_], [_], [_]] [0, 1, 2, 3] rfl rfl
    refine any_cutX (V := Unit) (fun _ => True) 8 #[true, false, true, true, false, false, false, false, false, false, false] (fun _ => [(2, .pointer (some ⟨γ1 0, 0, none⟩)), (4, .pointer (some ⟨γ1 1, 0, none⟩)), (14, .pointer (some ⟨γ1 0, 0, none⟩)), (17, .agg #[.int .u64 (hiV n), .int .u64 (loV n)])]) (fun _ => [bx (γ2 0) (#[.int .u64 a.hi, .int .u64 a.lo, .int .u64 a.w]) 33, bx (γ1 1) (#[.int .u64 0, .int .u64 0, .int .u64 0]) 33, bx (γ1 0) (#[.int .u64 a.hi, .int .u64 a.lo, .int .u64 a.w]) 33]) ?_ (fun hmx2 => ?_)
    ·
     rintro _ _
     refine any_fork [1, 8] (by kernel_rfl) (by simp) (each_cons _ rfl ?_ (each_cons _ rfl ?_ (each_nil)))
     ·
      refine qo0 1 [(1, .go (owns 2 0 2))] [2, 4, 17] [(15, .agg #[.int .u64 a.hi, .int .u64 a.lo])] ?_
      refine od_ ?_
      exact wk (hmx4 () trivial) [2, 4, 15, 17] [[_], [_], [_]] [0, 1, 2] rfl rfl
     ·
      refine mo0 1 [] [2, 4, 14, 17] (fun γ171 => [(6, .pointer (some ⟨γ171 0, 0, none⟩))]) (fun γ171 L => bx (γ171 0) (#[.int .u64 0, .int .u64 0]) 31 :: L) (fun γ171 => ?_)
      refine od_ ?_
      exact wk (hmx6 γ171 trivial) [2, 4, 6, 14, 17] [[_], [_], [_], [_]] [0, 1, 2, 3] rfl rfl
    refine any_cutX (V := Unit) (fun _ => True) 8 #[true, true, true, false, false, false, false, false, false, false, false] (fun _ => [(2, .pointer (some ⟨γ1 0, 0, none⟩)), (4, .pointer (some ⟨γ1 1, 0, none⟩)), (15, .agg #[.int .u64 a.hi, .int .u64 a.lo]), (16, .int .u64 n)]) (fun _ => [bx (γ2 0) (#[.int .u64 a.hi, .int .u64 a.lo, .int .u64 a.w]) 33, bx (γ1 1) (#[.int .u64 0, .int .u64 0, .int .u64 0]) 33, bx (γ1 0) (#[.int .u64 a.hi, .int .u64 a.lo, .int .u64 a.w]) 33]) ?_ (fun hmx1 => ?_)
    ·
     rintro _ _
     refine any_fork [3, 8] (by kernel_rfl) (by simp) (each_cons _ rfl ?_ (each_cons _ rfl ?_ (each_nil)))
     ·
      refine cD (.agg #[.int .u64 (hiV n), .int .u64 (loV n)]) Try.call43 (fun w hw => wof_v hn0 hn1 w) ?_
      refine od_ ?_
      exact wk (hmx4 () trivial) [2, 4, 15, 17] [[_], [_], [_]] [0, 1, 2] rfl rfl
     ·
      refine mo0 1 [] [2, 4, 15, 16] (fun γ171 => [(6, .pointer (some ⟨γ171 0, 0, none⟩))]) (fun γ171 L => bx (γ171 0) (#[.int .u64 0, .int .u64 0]) 31 :: L) (fun γ171 => ?_)
      refine od_ ?_
      exact wk (hmx5 γ171 trivial) [2, 4, 6, 15, 16] [[_], [_], [_], [_]] [0, 1, 2, 3] rfl rfl
    refine any_fork [1, 3, 8] (by kernel_rfl) (by simp) (each_cons _ rfl ?_ (each_cons _ rfl ?_ (each_cons _ rfl ?_ (each_nil))))
    ·
     refine qo0 1 [(1, .go (owns 2 0 2))] [2, 4, 16] [(15, .agg #[.int .u64 a.hi, .int .u64 a.lo])] ?_
     refine od_ ?_
     exact wk (hmx1 () trivial) [2, 4, 15, 16] [[_], [_], [_]] [0, 1, 2] rfl rfl
    ·
     refine cD (.agg #[.int .u64 (hiV n), .int .u64 (loV n)]) Try.call43 (fun w hw => wof_v hn0 hn1 w) ?_
     refine od_ ?_
     exact wk (hmx2 () trivial) [2, 4, 14, 17] [[_], [_], [_]] [0, 1, 2] rfl rfl
    ·
     refine mo0 1 [] [2, 4, 14, 16] (fun γ171 => [(6, .pointer (some ⟨γ171 0, 0, none⟩))]) (fun γ171 L => bx (γ171 0) (#[.int .u64 0, .int .u64 0]) 31 :: L) (fun γ171 => ?_)
     refine od_ ?_
     exact wk (hmx3 γ171 trivial) [2, 4, 6, 14, 16] [[_], [_], [_], [_]] [0, 1, 2, 3] rfl rfl
   rintro γ171 _
   refine any_nil (by kernel_rfl) ?_
   refine ds_ (sq_ (sq_ (qa0 [] [2, 4, 6] [(22, .bool true)] (ds_ (t_ (qa0 [(1, .go (owns 0 0 2))] [2, 4, 6] [] (ds_ (sq_ (ma0 [(0, .go (owns 0 0 2)), (2, .go (owns 3 2 1)), (4, .go (owns 2 0 3))] [4] (fun _ => [(5, .int .i64 0)]) (fun _ L => (L.set 2 (bx (γ1 1) (#[.int .u64 0, .int .u64 0, .int .u64 a.w]) 33))) (fun _ => ds_ (rt (owns 2 0 3) (.tuple #[.agg #[.int .u64 0, .int .u64 0, .int .u64 a.w], .int .i64 0]) ?_)))))))))))
   exact fun w' hw => ⟨by rw [less_yesV q3, sub_lt q7]; rfl, hw.below⟩
  ·
   refine at_any (by kernel_rfl) ?_
   refine tk (m := 9) [0, 2] [] [2, 4] [(14, .pointer (some ⟨γ1 0, 0, none⟩)), (16, .int .u64 n)] ([]) #[true, false, true, false, false, false, false, false, false, false, false] al0 ?_
   refine any_cutX (V := (Nat → Nat)) (fun γ442 => True) 0 #[true, true, true, true, true, true, true, true, true, true, true] (fun γ442 => [(2, .pointer (some ⟨γ1 0, 0, none⟩)), (4, .pointer (some ⟨γ1 1, 0, none⟩)), (6, .pointer (some ⟨γ442 0, 0, none⟩)), (7, .int .i64 0)]) (fun γ442 => [bx (γ442 0) (#[.int .u64 (hiV (a.num - n)), .int .u64 (loV (a.num - n))]) 31, bx (γ2 0) (#[.int .u64 a.hi, .int .u64 a.lo, .int .u64 a.w]) 33, bx (γ1 1) (#[.int .u64 0, .int .u64 0, .int .u64 0]) 33, bx (γ1 0) (#[.int .u64 a.hi, .int .u64 a.lo, .int .u64 a.w]) 33]) ?_ (fun hmx10 => ?_)
   rotate_left
   ·
    refine any_cutX (V := (Nat → Nat)) (fun γ442 => True) 2 #[true, true, true, true, true, true, true, true, true, false, false] (fun γ442 => [(2, .pointer (some ⟨γ1 0, 0, none⟩)), (4, .pointer (some ⟨γ1 1, 0, none⟩)), (6, .pointer (some ⟨γ442 0, 0, none⟩)), (19, .agg #[.int .u64 (hiV (a.num - n)), .int .u64 (loV (a.num - n))]), (20, .int .i64 0)]) (fun γ442 => [bx (γ442 0) (#[.int .u64 0, .int .u64 0]) 31, bx (γ2 0) (#[.int .u64 a.hi, .int .u64 a.lo, .int .u64 a.w]) 33, bx (γ1 1) (#[.int .u64 0, .int .u64 0, .int .u64 0]) 33, bx (γ1 0) (#[.int .u64 a.hi, .int .u64 a.lo, .int .u64 a.w]) 33]) ?_ (fun hmx9 => ?_)
    ·
     rintro γ442 _
     refine a1 9 rfl ?_
     refine mo0 1 [(9, .go (owns 0 0 2))] [2, 4, 6, 20] (fun _ => []) (fun _ L => (L.set 0 (bx (γ442 0) (#[.int .u64 (hiV (a.num - n)), .int .u64 (loV (a.num - n))]) 31))) (fun _ => ?_)
     refine od_ ?_
     refine tk (m := 0) [10] [] [2, 4, 6] [(7, .int .i64 0)] ([]) #[true, true, true, true, true, true, true, true, true, true, true] al0 ?_
     exact wk (hmx10 γ442 trivial) [2, 4, 6, 7] [[_], [_], [_], [_]] [0, 1, 2, 3] rfl rfl
    refine any_cutX (V := Unit) (fun _ => True) 3 #[true, true, true, true, true, true, true, true, false, false, false] (fun _ => [(2, .pointer (some ⟨γ1 0, 0, none⟩)), (4, .pointer (some ⟨γ1 1, 0, none⟩)), (19, .agg #[.int .u64 (hiV (a.num - n)), .int .u64 (loV (a.num - n))]), (20, .int .i64 0)]) (fun _ => [bx (γ2 0) (#[.int .u64 a.hi, .int .u64 a.lo, .int .u64 a.w]) 33, bx (γ1 1) (#[.int .u64 0, .int .u64 0, .int .u64 0]) 33, bx (γ1 0) (#[.int .u64 a.hi, .int .u64 a.lo, .int .u64 a.w]) 33]) ?_ (fun hmx8 => ?_)
    ·
     rintro _ _
     refine a1 8 rfl ?_
     refine mo0 1 [] [2, 4, 19, 20] (fun γ442 => [(6, .pointer (some ⟨γ442 0, 0, none⟩))]) (fun γ442 L => bx (γ442 0) (#[.int .u64 0, .int .u64 0]) 31 :: L) (fun γ442 => ?_)
     refine od_ ?_
     exact wk (hmx9 γ442 trivial) [2, 4, 6, 19, 20] [[_], [_], [_], [_]] [0, 1, 2, 3] rfl rfl
    refine any_cutX (V := (Nat → Nat)) (fun γ442 => True) 6 #[true, true, true, true, false, false, false, false, true, false, false] (fun γ442 => [(2, .pointer (some ⟨γ1 0, 0, none⟩)), (4, .pointer (some ⟨γ1 1, 0, none⟩)), (6, .pointer (some ⟨γ442 0, 0, none⟩)), (15, .agg #[.int .u64 a.hi, .int .u64 a.lo]), (17, .agg #[.int .u64 (hiV n), .int .u64 (loV n)])]) (fun γ442 => [bx (γ442 0) (#[.int .u64 0, .int .u64 0]) 31, bx (γ2 0) (#[.int .u64 a.hi, .int .u64 a.lo, .int .u64 a.w]) 33, bx (γ1 1) (#[.int .u64 0, .int .u64 0, .int .u64 0]) 33, bx (γ1 0) (#[.int .u64 a.hi, .int .u64 a.lo, .int .u64 a.w]) 33]) ?_ (fun hmx7 => ?_)
    ·
     rintro γ442 _
     refine a1 4 rfl ?_
     refine cD (.tuple #[.agg #[.int .u64 (hiV (a.num - n)), .int .u64 (loV (a.num - n))], .int .i64 0]) Try.call42 (fun w hw => fsub_ge hU hn0 q7 w) ?_
     refine od_ ?_
     refine tk (m := 2) [5, 6, 7] [] [2, 4, 6] [(19, .agg #[.int .u64 (hiV (a.num - n)), .int .u64 (loV (a.num - n))]), (20, .int .i64 0)] ([]) #[true, true, true, true, true, true, true, true, true, false, false] al0 ?_
     exact wk (hmx9 γ442 trivial) [2, 4, 6, 19, 20] [[_], [_], [_], [_]] [0, 1, 2, 3] rfl rfl
    refine any_cutX (V := (Nat → Nat)) (fun γ442 => True) 7 #[true, false, true, true, false, false, false, false, true, false, false] (fun γ442 => [(2, .pointer (some ⟨γ1 0, 0, none⟩)), (4, .pointer (some ⟨γ1 1, 0, none⟩)), (6, .pointer (some ⟨γ442 0, 0, none⟩)), (14, .pointer (some ⟨γ1 0, 0, none⟩)), (17, .agg #[.int .u64 (hiV n), .int .u64 (loV n)])]) (fun γ442 => [bx (γ442 0) (#[.int .u64 0, .int .u64 0]) 31, bx (γ2 0) (#[.int .u64 a.hi, .int .u64 a.lo, .int .u64 a.w]) 33, bx (γ1 1) (#[.int .u64 0, .int .u64 0, .int .u64 0]) 33, bx (γ1 0) (#[.int .u64 a.hi, .int .u64 a.lo, .int .u64 a.w]) 33]) ?_ (fun hmx6 => ?_)
    ·
     rintro γ442 _
     refine a1 1 rfl ?_
     refine qo0 1 [(1, .go (owns 3 0 2))] [2, 4, 6, 17] [(15, .agg #[.int .u64 a.hi, .int .u64 a.lo])] ?_
     refine od_ ?_
     exact wk (hmx7 γ442 trivial) [2, 4, 6, 15, 17] [[_], [_], [_], [_]] [0, 1, 2, 3] rfl rfl
    refine any_cutX (V := (Nat → Nat)) (fun γ442 => True) 7 #[true, true, true, false, false, false, false, false, true, false, false] (fun γ442 => [(2, .pointer (some ⟨γ1 0, 0, none⟩)), (4, .pointer (some ⟨γ1 1, 0, none⟩)), (6, .pointer (some ⟨γ442 0, 0, none⟩)), (15, .agg #[.int .u64 a.hi, .int .u64 a.lo]), (16, .int .u64 n)]) (fun γ442 => [bx (γ442 0) (#[.int .u64 0, .int .u64 0]) 31, bx (γ2 0) (#[.int .u64 a.hi, .int .u64 a.lo, .int .u64 a.w]) 33, bx (γ1 1) (#[.int .u64 0, .int .u64 0, .int .u64 0]) 33, bx (γ1 0) (#[.int .u64 a.hi, .int .u64 a.lo, .int .u64 a.w]) 33]) ?_ (fun hmx5 => ?_)
    ·
     rintro γ442 _
     refine a1 3 rfl ?_
     refine cD (.agg #[.int .u64 (hiV n), .int .u64 (loV n)]) Try.call43 (fun w hw => wof_v hn0 hn1 w) ?_
     refine od_ ?_
     exact wk (hmx7 γ442 trivial) [2, 4, 6, 15, 17] [[_], [_], [_], [_]] [0, 1, 2, 3] rfl rfl
    refine any_cutX (V := Unit) (fun _ => True) 7 #[true, true, true, true, false, false, false, false, false, false, false] (fun _ => [(2, .pointer (some ⟨γ1 0, 0, none⟩)), (4, .pointer (some ⟨γ1 1, 0, none⟩)), (15, .agg #[.int .u64 a.hi, .int .u64 a.lo]), (17, .agg #[.int .u64 (hiV n), .int .u64 (loV n)])]) (fun _ => [bx (γ2 0) (#[.int .u64 a.hi, .int .u64 a.lo, .int .u64 a.w]) 33, bx (γ1 1) (#[.int .u64 0, .int .u64 0, .int .u64 0]) 33, bx (γ1 0) (#[.int .u64 a.hi, .int .u64 a.lo, .int .u64 a.w]) 33]) ?_ (fun hmx4 => ?_)
    ·
     rintro _ _
     refine any_fork [4, 8] (by kernel_rfl) (by simp) (each_cons _ rfl ?_ (each_cons _ rfl ?_ (each_nil)))
     ·
      refine cD (.tuple #[.agg #[.int .u64 (hiV (a.num - n)), .int .u64 (loV (a.num - n))], .int .i64 0]) Try.call42 (fun w hw => fsub_ge hU hn0 q7 w) ?_
      refine od_ ?_
      refine tk (m := 3) [5, 6, 7] [] [2, 4] [(19, .agg #[.int .u64 (hiV (a.num - n)), .int .u64 (loV (a.num - n))]), (20, .int .i64 0)] ([]) #[true, true, true, true, true, true, true, true, false, false, false] al0 ?_
      exact wk (hmx8 () trivial) [2, 4, 19, 20] [[_], [_], [_]] [0, 1, 2] rfl rfl
     ·
      refine mo0 1 [] [2, 4, 15, 17] (fun γ442 => [(6, .pointer (some ⟨γ442 0, 0, none⟩))]) (fun γ442 L => bx (γ442 0) (#[.int .u64 0, .int .u64 0]) 31 :: L) (fun γ442 => ?_)
      refine od_ ?_
      exact wk (hmx7 γ442 trivial) [2, 4, 6, 15, 17] [[_], [_], [_], [_]] [0, 1, 2, 3] rfl rfl
    refine any_cutX (V := (Nat → Nat)) (fun γ442 => True) 8 #[true, false, true, false, false, false, false, false, true, false, false] (fun γ442 => [(2, .pointer (some ⟨γ1 0, 0, none⟩)), (4, .pointer (some ⟨γ1 1, 0, none⟩)), (6, .pointer (some ⟨γ442 0, 0, none⟩)), (14, .pointer (some ⟨γ1 0, 0, none⟩)), (16, .int .u64 n)]) (fun γ442 => [bx (γ442 0) (#[.int .u64 0, .int .u64 0]) 31, bx (γ2 0) (#[.int .u64 a.hi, .int .u64 a.lo, .int .u64 a.w]) 33, bx (γ1 1) (#[.int .u64 0, .int .u64 0, .int .u64 0]) 33, bx (γ1 0) (#[.int .u64 a.hi, .int .u64 a.lo, .int .u64 a.w]) 33]) ?_ (fun hmx3 => ?_)
    ·
     rintro γ442 _
     refine any_fork [1, 3] (by kernel_rfl) (by simp) (each_cons _ rfl ?_ (each_cons _ rfl ?_ (each_nil)))
     ·
      refine qo0 1 [(1, .go (owns 3 0 2))] [2, 4, 6, 16] [(15, .agg #[.int .u64 a.hi, .int .u64 a.lo])] ?_
      refine od_ ?_
      exact wk (hmx5 γ442 trivial) [2, 4, 6, 15, 16] [[_], [_], [_], [_]] [0, 1, 2, 3] rfl rfl
     ·
      refine cD (.agg #[.int .u64 (hiV n), .int .u64 (loV n)]) Try.call43 (fun w hw => wof_v hn0 hn1 w) ?_
      refine od_ ?_
      exact wk (hmx6 γ442 trivial) [2, 4, 6, 14, 17] [[_], [_], [_], [_]] [0, 1, 2, 3] rfl rfl
    refine any_cutX (V := Unit) (fun _ => True) 8 #[true, false, true, true, false, false, false, false, false, false, false] (fun _ => [(2, .pointer (some ⟨γ1 0, 0, none⟩)), (4, .pointer (some ⟨γ1 1, 0, none⟩)), (14, .pointer (some ⟨γ1 0, 0, none⟩)), (17, .agg #[.int .u64 (hiV n), .int .u64 (loV n)])]) (fun _ => [bx (γ2 0) (#[.int .u64 a.hi, .int .u64 a.lo, .int .u64 a.w]) 33, bx (γ1 1) (#[.int .u64 0, .int .u64 0, .int .u64 0]) 33, bx (γ1 0) (#[.int .u64 a.hi, .int .u64 a.lo, .int .u64 a.w]) 33]) ?_ (fun hmx2 => ?_)
    ·
     rintro _ _
     refine any_fork [1, 8] (by kernel_rfl) (by simp) (each_cons _ rfl ?_ (each_cons _ rfl ?_ (each_nil)))
     ·
      refine qo0 1 [(1, .go (owns 2 0 2))] [2, 4, 17] [(15, .agg #[.int .u64 a.hi, .int .u64 a.lo])] ?_
      refine od_ ?_
      exact wk (hmx4 () trivial) [2, 4, 15, 17] [[_], [_], [_]] [0, 1, 2] rfl rfl
     ·
      refine mo0 1 [] [2, 4, 14, 17] (fun γ442 => [(6, .pointer (some ⟨γ442 0, 0, none⟩))]) (fun γ442 L => bx (γ442 0) (#[.int .u64 0, .int .u64 0]) 31 :: L) (fun γ442 => ?_)
      refine od_ ?_
      exact wk (hmx6 γ442 trivial) [2, 4, 6, 14, 17] [[_], [_], [_], [_]] [0, 1, 2, 3] rfl rfl
    refine any_cutX (V := Unit) (fun _ => True) 8 #[true, true, true, false, false, false, false, false, false, false, false] (fun _ => [(2, .pointer (some ⟨γ1 0, 0, none⟩)), (4, .pointer (some ⟨γ1 1, 0, none⟩)), (15, .agg #[.int .u64 a.hi, .int .u64 a.lo]), (16, .int .u64 n)]) (fun _ => [bx (γ2 0) (#[.int .u64 a.hi, .int .u64 a.lo, .int .u64 a.w]) 33, bx (γ1 1) (#[.int .u64 0, .int .u64 0, .int .u64 0]) 33, bx (γ1 0) (#[.int .u64 a.hi, .int .u64 a.lo, .int .u64 a.w]) 33]) ?_ (fun hmx1 => ?_)
    ·
     rintro _ _
     refine any_fork [3, 8] (by kernel_rfl) (by simp) (each_cons _ rfl ?_ (each_cons _ rfl ?_ (each_nil)))
     ·
      refine cD (.agg #[.int .u64 (hiV n), .int .u64 (loV n)]) Try.call43 (fun w hw => wof_v hn0 hn1 w) ?_
      refine od_ ?_
      exact wk (hmx4 () trivial) [2, 4, 15, 17] [[_], [_], [_]] [0, 1, 2] rfl rfl
     ·
      refine mo0 1 [] [2, 4, 15, 16] (fun γ442 => [(6, .pointer (some ⟨γ442 0, 0, none⟩))]) (fun γ442 L => bx (γ442 0) (#[.int .u64 0, .int .u64 0]) 31 :: L) (fun γ442 => ?_)
      refine od_ ?_
      exact wk (hmx5 γ442 trivial) [2, 4, 6, 15, 16] [[_], [_], [_], [_]] [0, 1, 2, 3] rfl rfl
    refine any_fork [1, 3, 8] (by kernel_rfl) (by simp) (each_cons _ rfl ?_ (each_cons _ rfl ?_ (each_cons _ rfl ?_ (each_nil))))
    ·
     refine qo0 1 [(1, .go (owns 2 0 2))] [2, 4, 16] [(15, .agg #[.int .u64 a.hi, .int .u64 a.lo])] ?_
     refine od_ ?_
     exact wk (hmx1 () trivial) [2, 4, 15, 16] [[_], [_], [_]] [0, 1, 2] rfl rfl
    ·
     refine cD (.agg #[.int .u64 (hiV n), .int .u64 (loV n)]) Try.call43 (fun w hw => wof_v hn0 hn1 w) ?_
     refine od_ ?_
     exact wk (hmx2 () trivial) [2, 4, 14, 17] [[_], [_], [_]] [0, 1, 2] rfl rfl
    ·
     refine mo0 1 [] [2, 4, 14, 16] (fun γ442 => [(6, .pointer (some ⟨γ442 0, 0, none⟩))]) (fun γ442 L => bx (γ442 0) (#[.int .u64 0, .int .u64 0]) 31 :: L) (fun γ442 => ?_)
     refine od_ ?_
     exact wk (hmx3 γ442 trivial) [2, 4, 6, 14, 16] [[_], [_], [_], [_]] [0, 1, 2, 3] rfl rfl
   rintro γ442 _
   refine any_nil (by kernel_rfl) ?_
   refine ds_ (sq_ (sq_ (qa0 [] [2, 4, 6] [(22, .bool false)] (ds_ (f_ (at_skip (ds_ (sq_ (ma0 [(0, .go (owns 0 0 2)), (2, .go (owns 3 2 1)), (4, .go (owns 2 0 3))] [4] (fun _ => [(5, .int .i64 0)]) (fun _ L => (L.set 2 (bx (γ1 1) (#[.int .u64 (hiV (a.num - n)), .int .u64 (loV (a.num - n)), .int .u64 a.w]) 33))) (fun _ => ds_ (rt (owns 2 0 3) (.tuple #[.agg #[.int .u64 (hiV (a.num - n)), .int .u64 (loV (a.num - n)), .int .u64 a.w], .int .i64 0]) ?_)))))))))))
   exact fun w' hw => ⟨by rw [less_yesV q3, sub_ge q7], hw.below⟩

set_option maxRecDepth 100000 in
theorem fover_t (a : Fq) (m : Int) (w : World)
 (hU : a.U)
 : Calls Try.prog 38 #[.agg #[.int .u64 a.hi, .int .u64 a.lo, .int .u64 a.w], .int .u64 m] w fun e w' => e = .returned (.tuple #[.agg #[.int .u64 (overV a m).1.hi, .int .u64 (overV a m).1.lo, .int .u64 (overV a m).1.w], .int .i64 (overV a m).2]) ∧ Below w.heap.size w w' := by
 refine enter (Hs.start w) Try.func38 rfl Try.ntmps38 rfl (sq_ (ma0 [] [1] (fun γ1 => [(2, .pointer (some ⟨γ1 0, 0, none⟩)), (4, .pointer (some ⟨γ1 1, 0, none⟩))]) (fun γ1 L => bx (γ1 1) (#[.int .u64 0, .int .u64 0, .int .u64 0]) 33 :: bx (γ1 0) (#[.int .u64 a.hi, .int .u64 a.lo, .int .u64 a.w]) 33 :: L) (fun γ1 => ds_ (sq_ (at_block (sq_ (ao_ (mo0 2 [(0, .go (owns 1 0 3))] [1, 2, 4] (fun γ2 => [(10, .slice (some ⟨γ2 0, 0, none⟩) 1 1)]) (fun γ2 L => bx (γ2 0) (#[.int .u64 a.hi, .int .u64 a.lo, .int .u64 a.w]) 33 :: L) (fun γ2 => ?_)))))))))
 rcases q3 : a.ok with _ | _
 ·
  refine cD (.bool false) Try.call39 (fun w hw => by have := right_t (some ⟨γ2 0, 0, none⟩) 1 1 [a] w (sv_row (hw.row 0 rfl) rfl) rfl (by decide); rw [all1, q3] at this; exact this) (qo0 2 [] [1, 2, 4] [(8, .bool true)] (on_ (ds_ (t_ (sq_ (qa0 [(1, .go (owns 1 0 3))] [4] [(5, .int .i64 150)] (ds_ (rt (owns 1 0 3) (.tuple #[.agg #[.int .u64 0, .int .u64 0, .int .u64 0], .int .i64 150]) ?_))))))))
  exact fun w' hw => ⟨by rw [over_no q3], hw.below⟩
 ·
  refine cD (.bool true) Try.call39 (fun w hw => by have := right_t (some ⟨γ2 0, 0, none⟩) 1 1 [a] w (sv_row (hw.row 0 rfl) rfl) rfl (by decide); rw [all1, q3] at this; exact this) (qo0 2 [] [1, 2, 4] [(8, .bool false)] (on_ (ds_ (f_ (sq_ (ao_ (qo0 1 [] [1, 2, 4] [(15, .int .u64 m)] ?_)))))))
  rcases q8 : wB m with _ | _
  ·
   refine cD (.bool false) Try.call70 (fun w hw => by have := weight_t m w; rw [q8] at this; exact this) (qo0 2 [] [1, 2, 4] [(14, .bool true)] (on_ (ds_ (t_ (sq_ (qa0 [(1, .go (owns 1 0 3))] [4] [(5, .int .i64 2)] (ds_ (rt (owns 1 0 3) (.tuple #[.agg #[.int .u64 0, .int .u64 0, .int .u64 0], .int .i64 2]) ?_))))))))
   exact fun w' hw => ⟨by rw [over_arg q3 q8], hw.below⟩
  ·
   refine cD (.bool true) Try.call70 (fun w hw => by have := weight_t m w; rw [q8] at this; exact this) (qo0 2 [] [1, 2, 4] [(14, .bool false)] (on_ (ds_ (f_ (at_skip (done_block (ds_ (sq_ (ao_ (qo0 5 [(1, .go (owns 2 0 2)), (4, .go (owns 2 2 1))] [1, 4] [(21, .agg #[.int .u64 a.hi, .int .u64 a.lo]), (22, .int .u64 m), (24, .int .u64 a.w)] (cD (.tuple #[.agg #[.int .u64 (hiV (upD (a.num * m) a.w)), .int .u64 (loV (upD (a.num * m) a.w))], .int .i64 0]) Try.call71 (fun w hw => fscale_v hU q3 q8 w) (mo0 6 [(10, .go (owns 0 0 2))] [1, 4] (fun γ13 => [(6, .pointer (some ⟨γ13 0, 0, none⟩)), (7, .int .i64 0)]) (fun γ13 L => bx (γ13 0) (#[.int .u64 (hiV (upD (a.num * m) a.w)), .int .u64 (loV (upD (a.num * m) a.w))]) 31 :: L) (fun γ13 => on_ (ds_ (sq_ (ao_ (qo0 4 [(2, .go (owns 0 0 2))] [4] [(29, .agg #[.int .u64 0, .int .u64 0, .int .u64 m]), (30, .agg #[.int .u64 (hiV (upD (a.num * m) a.w)), .int .u64 (loV (upD (a.num * m) a.w))]), (31, .int .i64 0)] (cD (.tuple #[.agg #[.int .u64 ((withV m (hiV (upD (a.num * m) a.w)) (loV (upD (a.num * m) a.w)) 0).1.hi), .int .u64 ((withV m (hiV (upD (a.num * m) a.w)) (loV (upD (a.num * m) a.w)) 0).1.lo), .int .u64 ((withV m (hiV (upD (a.num * m) a.w)) (loV (upD (a.num * m) a.w)) 0).1.w)], .int .i64 ((withV m (hiV (upD (a.num * m) a.w)) (loV (upD (a.num * m) a.w)) 0).2)]) Try.call48 (fun w hw => fwith_t (⟨0, 0, m⟩ : Fq) (hiV (upD (a.num * m) a.w)) (loV (upD (a.num * m) a.w)) 0 w) (mo0 4 [(7, .go (owns 2 0 3))] [4] (fun _ => [(5, .int .i64 ((withV m (hiV (upD (a.num * m) a.w)) (loV (upD (a.num * m) a.w)) 0).2))]) (fun _ L => (L.set 2 (bx (γ1 1) (#[.int .u64 ((withV m (hiV (upD (a.num * m) a.w)) (loV (upD (a.num * m) a.w)) 0).1.hi), .int .u64 ((withV m (hiV (upD (a.num * m) a.w)) (loV (upD (a.num * m) a.w)) 0).1.lo), .int .u64 ((withV m (hiV (upD (a.num * m) a.w)) (loV (upD (a.num * m) a.w)) 0).1.w)]) 33))) (fun _ => on_ (ds_ (rt (owns 2 0 3) (.tuple #[.agg #[.int .u64 ((withV m (hiV (upD (a.num * m) a.w)) (loV (upD (a.num * m) a.w)) 0).1.hi), .int .u64 ((withV m (hiV (upD (a.num * m) a.w)) (loV (upD (a.num * m) a.w)) 0).1.lo), .int .u64 ((withV m (hiV (upD (a.num * m) a.w)) (loV (upD (a.num * m) a.w)) 0).1.w)], .int .i64 ((withV m (hiV (upD (a.num * m) a.w)) (loV (upD (a.num * m) a.w)) 0).2)]) ?_))))))))))))))))))))))
   exact fun w' hw => ⟨by rw [over_yes q3 q8], hw.below⟩

set_option maxRecDepth 100000 in
theorem floor_t (t : Fq) (s : Int) (w : World)
 (hU : t.U) (hs0 : 0 ≤ s) (hs1 : s < 18446744073709551616)
 : Calls Try.prog 65 #[.agg #[.int .u64 t.hi, .int .u64 t.lo, .int .u64 t.w], .int .u64 s] w fun e w' => e = .returned (.agg #[.int .u64 (floorV t s).hi, .int .u64 (floorV t s).lo, .int .u64 (floorV t s).w]) ∧ Below w.heap.size w w' := by
 refine enter (Hs.start w) Try.func65 rfl Try.ntmps65 rfl (sq_ (ma0 [] [1] (fun γ1 => [(2, .pointer (some ⟨γ1 0, 0, none⟩)), (4, .pointer (some ⟨γ1 1, 0, none⟩))]) (fun γ1 L => bx (γ1 1) (#[.int .u64 0, .int .u64 0, .int .u64 0]) 33 :: bx (γ1 0) (#[.int .u64 t.hi, .int .u64 t.lo, .int .u64 t.w]) 33 :: L) (fun γ1 => ds_ (sq_ ?_))))
 by_cases q2 : (t.num : Int) < ((s * t.w) : Int)
 ·
  refine at_any (by kernel_rfl) ?_
  refine tk (m := 10) [0, 2, 3] [] [2, 4] [(8, .pointer (some ⟨γ1 0, 0, none⟩)), (10, .int .u64 s), (11, .pointer (some ⟨γ1 0, 2, none⟩))] ([]) #[true, false, true, true, false, false, false, false, false, false, false, false, false] al0 ?_
  refine any_cutX (V := (Nat → Nat)) (fun γ206 => True) 0 #[true, true, true, true, true, true, true, true, true, true, true, true, true] (fun γ206 => [(2, .pointer (some ⟨γ1 0, 0, none⟩)), (4, .pointer (some ⟨γ1 1, 0, none⟩)), (5, .pointer (some ⟨γ206 0, 0, none⟩)), (6, .int .i64 131)]) (fun γ206 => [bx (γ206 0) (#[.int .u64 0, .int .u64 0]) 31, bx (γ1 1) (#[.int .u64 0, .int .u64 0, .int .u64 0]) 33, bx (γ1 0) (#[.int .u64 t.hi, .int .u64 t.lo, .int .u64 t.w]) 33]) ?_ (fun hmx14 => ?_)
  rotate_left
  ·
   refine any_cutX (V := (Nat → Nat)) (fun γ206 => True) 2 #[true, true, true, true, true, true, true, true, true, true, true, false, false] (fun γ206 => [(2, .pointer (some ⟨γ1 0, 0, none⟩)), (4, .pointer (some ⟨γ1 1, 0, none⟩)), (5, .pointer (some ⟨γ206 0, 0, none⟩)), (15, .agg #[.int .u64 0, .int .u64 0]), (16, .int .i64 131)]) (fun γ206 => [bx (γ206 0) (#[.int .u64 0, .int .u64 0]) 31, bx (γ1 1) (#[.int .u64 0, .int .u64 0, .int .u64 0]) 33, bx (γ1 0) (#[.int .u64 t.hi, .int .u64 t.lo, .int .u64 t.w]) 33]) ?_ (fun hmx13 => ?_)
   ·
    rintro γ206 _
    refine a1 11 rfl ?_
    refine qo0 1 [(11, .go (owns 0 0 2))] [2, 4, 5, 16] [] ?_
    refine od_ ?_
    refine tk (m := 0) [12] [] [2, 4, 5] [(6, .int .i64 131)] ([]) #[true, true, true, true, true, true, true, true, true, true, true, true, true] al0 ?_
    exact wk (hmx14 γ206 trivial) [2, 4, 5, 6] [[_], [_], [_]] [0, 1, 2] rfl rfl
   refine any_cutX (V := Unit) (fun _ => True) 3 #[true, true, true, true, true, true, true, true, true, true, false, false, false] (fun _ => [(2, .pointer (some ⟨γ1 0, 0, none⟩)), (4, .pointer (some ⟨γ1 1, 0, none⟩)), (15, .agg #[.int .u64 0, .int .u64 0]), (16, .int .i64 131)]) (fun _ => [bx (γ1 1) (#[.int .u64 0, .int .u64 0, .int .u64 0]) 33, bx (γ1 0) (#[.int .u64 t.hi, .int .u64 t.lo, .int .u64 t.w]) 33]) ?_ (fun hmx12 => ?_)
   ·
    rintro _ _
    refine a1 10 rfl ?_
    refine mo0 1 [] [2, 4, 15, 16] (fun γ206 => [(5, .pointer (some ⟨γ206 0, 0, none⟩))]) (fun γ206 L => bx (γ206 0) (#[.int .u64 0, .int .u64 0]) 31 :: L) (fun γ206 => ?_)
    refine od_ ?_
    exact wk (hmx13 γ206 trivial) [2, 4, 5, 15, 16] [[_], [_], [_]] [0, 1, 2] rfl rfl
   refine any_cutX (V := (Nat → Nat)) (fun γ206 => True) 6 #[true, true, true, true, true, true, false, false, false, false, true, false, false] (fun γ206 => [(2, .pointer (some ⟨γ1 0, 0, none⟩)), (4, .pointer (some ⟨γ1 1, 0, none⟩)), (5, .pointer (some ⟨γ206 0, 0, none⟩)), (9, .agg #[.int .u64 t.hi, .int .u64 t.lo]), (13, .agg #[.int .u64 (hiV (s * t.w)), .int .u64 (loV (s * t.w))])]) (fun γ206 => [bx (γ206 0) (#[.int .u64 0, .int .u64 0]) 31, bx (γ1 1) (#[.int .u64 0, .int .u64 0, .int .u64 0]) 33, bx (γ1 0) (#[.int .u64 t.hi, .int .u64 t.lo, .int .u64 t.w]) 33]) ?_ (fun hmx11 => ?_)
   ·
    rintro γ206 _
    refine a1 6 rfl ?_
    refine cD (.tuple #[.agg #[.int .u64 0, .int .u64 0], .int .i64 131]) Try.call42 (fun w hw => fsub_lt hU (Int.mul_nonneg hs0 hU.w0) q2 w) ?_
    refine od_ ?_
    refine tk (m := 2) [7, 8, 9] [] [2, 4, 5] [(15, .agg #[.int .u64 0, .int .u64 0]), (16, .int .i64 131)] ([]) #[true, true, true, true, true, true, true, true, true, true, true, false, false] al0 ?_
    exact wk (hmx13 γ206 trivial) [2, 4, 5, 15, 16] [[_], [_], [_]] [0, 1, 2] rfl rfl
   refine any_cutX (V := (Nat → Nat)) (fun γ206 => True) 7 #[true, false, true, true, true, true, false, false, false, false, true, false, false] (fun γ206 => [(2, .pointer (some ⟨γ1 0, 0, none⟩)), (4, .pointer (some ⟨γ1 1, 0, none⟩)), (5, .pointer (some ⟨γ206 0, 0, none⟩)), (8, .pointer (some ⟨γ1 0, 0, none⟩)), (13, .agg #[.int .u64 (hiV (s * t.w)), .int .u64 (loV (s * t.w))])]) (fun γ206 => [bx (γ206 0) (#[.int .u64 0, .int .u64 0]) 31, bx (γ1 1) (#[.int .u64 0, .int .u64 0, .int .u64 0]) 33, bx (γ1 0) (#[.int .u64 t.hi, .int .u64 t.lo, .int .u64 t.w]) 33]) ?_ (fun hmx10 => ?_)
   ·
    rintro γ206 _
    refine a1 1 rfl ?_
    refine qo0 1 [(1, .go (owns 2 0 2))] [2, 4, 5, 13] [(9, .agg #[.int .u64 t.hi, .int .u64 t.lo])] ?_
    refine od_ ?_
    exact wk (hmx11 γ206 trivial) [2, 4, 5, 9, 13] [[_], [_], [_]] [0, 1, 2] rfl rfl
   refine any_cutX (V := (Nat → Nat)) (fun γ206 => True) 7 #[true, true, true, true, true, false, false, false, false, false, true, false, false] (fun γ206 => [(2, .pointer (some ⟨γ1 0, 0, none⟩)), (4, .pointer (some ⟨γ1 1, 0, none⟩)), (5, .pointer (some ⟨γ206 0, 0, none⟩)), (9, .agg #[.int .u64 t.hi, .int .u64 t.lo]), (10, .int .u64 s), (12, .int .u64 t.w)]) (fun γ206 => [bx (γ206 0) (#[.int .u64 0, .int .u64 0]) 31, bx (γ1 1) (#[.int .u64 0, .int .u64 0, .int .u64 0]) 33, bx (γ1 0) (#[.int .u64 t.hi, .int .u64 t.lo, .int .u64 t.w]) 33]) ?_ (fun hmx9 => ?_)
   ·
    rintro γ206 _
    refine a1 5 rfl ?_
    refine cD (.agg #[.int .u64 (hiV (s * t.w)), .int .u64 (loV (s * t.w))]) Try.call82 (fun w hw => wmul_v hs0 hU.w0 hs1 hU.w1 w) ?_
    refine od_ ?_
    exact wk (hmx11 γ206 trivial) [2, 4, 5, 9, 13] [[_], [_], [_]] [0, 1, 2] rfl rfl
   refine any_cutX (V := Unit) (fun _ => True) 7 #[true, true, true, true, true, true, false, false, false, false, false, false, false] (fun _ => [(2, .pointer (some ⟨γ1 0, 0, none⟩)), (4, .pointer (some ⟨γ1 1, 0, none⟩)), (9, .agg #[.int .u64 t.hi, .int .u64 t.lo]), (13, .agg #[.int .u64 (hiV (s * t.w)), .int .u64 (loV (s * t.w))])]) (fun _ => [bx (γ1 1) (#[.int .u64 0, .int .u64 0, .int .u64 0]) 33, bx (γ1 0) (#[.int .u64 t.hi, .int .u64 t.lo, .int .u64 t.w]) 33]) ?_ (fun hmx8 => ?_)
   ·
    rintro _ _
    refine any_fork [6, 10] (by kernel_rfl) (by simp) (each_cons _ rfl ?_ (each_cons _ rfl ?_ (each_nil)))
    ·
     refine cD (.tuple #[.agg #[.int .u64 0, .int .u64 0], .int .i64 131]) Try.call42 (fun w hw => fsub_lt hU (Int.mul_nonneg hs0 hU.w0) q2 w) ?_
     refine od_ ?_
     refine tk (m := 3) [7, 8, 9] [] [2, 4] [(15, .agg #[.int .u64 0, .int .u64 0]), (16, .int .i64 131)] ([]) #[true, true, true, true, true, true, true, true, true, true, false, false, false] al0 ?_
     exact wk (hmx12 () trivial) [2, 4, 15, 16] [[_], [_]] [0, 1] rfl rfl
    ·
     refine mo0 1 [] [2, 4, 9, 13] (fun γ206 => [(5, .pointer (some ⟨γ206 0, 0, none⟩))]) (fun γ206 L => bx (γ206 0) (#[.int .u64 0, .int .u64 0]) 31 :: L) (fun γ206 => ?_)
     refine od_ ?_
     exact wk (hmx11 γ206 trivial) [2, 4, 5, 9, 13] [[_], [_], [_]] [0, 1, 2] rfl rfl
   refine any_cutX (V := (Nat → Nat)) (fun γ206 => True) 8 #[true, false, true, true, true, false, false, false, false, false, true, false, false] (fun γ206 => [(2, .pointer (some ⟨γ1 0, 0, none⟩)), (4, .pointer (some ⟨γ1 1, 0, none⟩)), (5, .pointer (some ⟨γ206 0, 0, none⟩)), (8, .pointer (some ⟨γ1 0, 0, none⟩)), (10, .int .u64 s), (12, .int .u64 t.w)]) (fun γ206 => [bx (γ206 0) (#[.int .u64 0, .int .u64 0]) 31, bx (γ1 1) (#[.int .u64 0, .int .u64 0, .int .u64 0]) 33, bx (γ1 0) (#[.int .u64 t.hi, .int .u64 t.lo, .int .u64 t.w]) 33]) ?_ (fun hmx7 => ?_)
   ·
    rintro γ206 _
    refine any_fork [1, 5] (by kernel_rfl) (by simp) (each_cons _ rfl ?_ (each_cons _ rfl ?_ (each_nil)))
    ·
     refine qo0 1 [(1, .go (owns 2 0 2))] [2, 4, 5, 10, 12] [(9, .agg #[.int .u64 t.hi, .int .u64 t.lo])] ?_
     refine od_ ?_
     exact wk (hmx9 γ206 trivial) [2, 4, 5, 9, 10, 12] [[_], [_], [_]] [0, 1, 2] rfl rfl
    ·
     refine cD (.agg #[.int .u64 (hiV (s * t.w)), .int .u64 (loV (s * t.w))]) Try.call82 (fun w hw => wmul_v hs0 hU.w0 hs1 hU.w1 w) ?_
     refine od_ ?_
     exact wk (hmx10 γ206 trivial) [2, 4, 5, 8, 13] [[_], [_], [_]] [0, 1, 2] rfl rfl
   refine any_cutX (V := Unit) (fun _ => True) 8 #[true, false, true, true, true, true, false, false, false, false, false, false, false] (fun _ => [(2, .pointer (some ⟨γ1 0, 0, none⟩)), (4, .pointer (some ⟨γ1 1, 0, none⟩)), (8, .pointer (some ⟨γ1 0, 0, none⟩)), (13, .agg #[.int .u64 (hiV (s * t.w)), .int .u64 (loV (s * t.w))])]) (fun _ => [bx (γ1 1) (#[.int .u64 0, .int .u64 0, .int .u64 0]) 33, bx (γ1 0) (#[.int .u64 t.hi, .int .u64 t.lo, .int .u64 t.w]) 33]) ?_ (fun hmx6 => ?_)
   ·
    rintro _ _
    refine any_fork [1, 10] (by kernel_rfl) (by simp) (each_cons _ rfl ?_ (each_cons _ rfl ?_ (each_nil)))
    ·
     refine qo0 1 [(1, .go (owns 1 0 2))] [2, 4, 13] [(9, .agg #[.int .u64 t.hi, .int .u64 t.lo])] ?_
     refine od_ ?_
     exact wk (hmx8 () trivial) [2, 4, 9, 13] [[_], [_]] [0, 1] rfl rfl
    ·
     refine mo0 1 [] [2, 4, 8, 13] (fun γ206 => [(5, .pointer (some ⟨γ206 0, 0, none⟩))]) (fun γ206 L => bx (γ206 0) (#[.int .u64 0, .int .u64 0]) 31 :: L) (fun γ206 => ?_)
     refine od_ ?_
     exact wk (hmx10 γ206 trivial) [2, 4, 5, 8, 13] [[_], [_], [_]] [0, 1, 2] rfl rfl
   refine any_cutX (V := (Nat → Nat)) (fun γ206 => True) 8 #[true, true, true, true, false, false, false, false, false, false, true, false, false] (fun γ206 => [(2, .pointer (some ⟨γ1 0, 0, none⟩)), (4, .pointer (some ⟨γ1 1, 0, none⟩)), (5, .pointer (some ⟨γ206 0, 0, none⟩)), (9, .agg #[.int .u64 t.hi, .int .u64 t.lo]), (10, .int .u64 s), (11, .pointer (some ⟨γ1 0, 2, none⟩))]) (fun γ206 => [bx (γ206 0) (#[.int .u64 0, .int .u64 0]) 31, bx (γ1 1) (#[.int .u64 0, .int .u64 0, .int .u64 0]) 33, bx (γ1 0) (#[.int .u64 t.hi, .int .u64 t.lo, .int .u64 t.w]) 33]) ?_ (fun hmx5 => ?_)
   ·
    rintro γ206 _
    refine a1 4 rfl ?_
    refine qo0 1 [(4, .go (owns 2 2 1))] [2, 4, 5, 9, 10] [(12, .int .u64 t.w)] ?_
    refine od_ ?_
    exact wk (hmx9 γ206 trivial) [2, 4, 5, 9, 10, 12] [[_], [_], [_]] [0, 1, 2] rfl rfl
   refine any_cutX (V := Unit) (fun _ => True) 8 #[true, true, true, true, true, false, false, false, false, false, false, false, false] (fun _ => [(2, .pointer (some ⟨γ1 0, 0, none⟩)), (4, .pointer (some ⟨γ1 1, 0, none⟩)), (9, .agg #[.int .u64 t.hi, .int .u64 t.lo]), (10, .int .u64 s), (12, .int .u64 t.w)]) (fun _ => [bx (γ1 1) (#[.int .u64 0, .int .u64 0, .int .u64 0]) 33, bx (γ1 0) (#[.int .u64 t.hi, .int .u64 t.lo, .int .u64 t.w]) 33]) ?_ (fun hmx4 => ?_)
   ·
    rintro _ _
    refine any_fork [5, 10] (by kernel_rfl) (by simp) (each_cons _ rfl ?_ (each_cons _ rfl ?_ (each_nil)))
    ·
     refine cD (.agg #[.int .u64 (hiV (s * t.w)), .int .u64 (loV (s * t.w))]) Try.call82 (fun w hw => wmul_v hs0 hU.w0 hs1 hU.w1 w) ?_
     refine od_ ?_
     exact wk (hmx8 () trivial) [2, 4, 9, 13] [[_], [_]] [0, 1] rfl rfl
    ·
     refine mo0 1 [] [2, 4, 9, 10, 12] (fun γ206 => [(5, .pointer (some ⟨γ206 0, 0, none⟩))]) (fun γ206 L => bx (γ206 0) (#[.int .u64 0, .int .u64 0]) 31 :: L) (fun γ206 => ?_)
     refine od_ ?_
     exact wk (hmx9 γ206 trivial) [2, 4, 5, 9, 10, 12] [[_], [_], [_]] [0, 1, 2] rfl rfl
   refine any_cutX (V := (Nat → Nat)) (fun γ206 => True) 9 #[true, false, true, true, false, false, false, false, false, false, true, false, false] (fun γ206 => [(2, .pointer (some ⟨γ1 0, 0, none⟩)), (4, .pointer (some ⟨γ1 1, 0, none⟩)), (5, .pointer (some ⟨γ206 0, 0, none⟩)), (8, .pointer (some ⟨γ1 0, 0, none⟩)), (10, .int .u64 s), (11, .pointer (some ⟨γ1 0, 2, none⟩))]) (fun γ206 => [bx (γ206 0) (#[.int .u64 0, .int .u64 0]) 31, bx (γ1 1) (#[.int .u64 0, .int .u64 0, .int .u64 0]) 33, bx (γ1 0) (#[.int .u64 t.hi, .int .u64 t.lo, .int .u64 t.w]) 33]) ?_ (fun hmx3 => ?_)
   ·
    rintro γ206 _
    refine any_fork [1, 4] (by kernel_rfl) (by simp) (each_cons _ rfl ?_ (each_cons _ rfl ?_ (each_nil)))
    ·
     refine qo0 1 [(1, .go (owns 2 0 2))] [2, 4, 5, 10, 11] [(9, .agg #[.int .u64 t.hi, .int .u64 t.lo])] ?_
     refine od_ ?_
     exact wk (hmx5 γ206 trivial) [2, 4, 5, 9, 10, 11] [[_], [_], [_]] [0, 1, 2] rfl rfl
    ·
     refine qo0 1 [(4, .go (owns 2 2 1))] [2, 4, 5, 8, 10] [(12, .int .u64 t.w)] ?_
     refine od_ ?_
     exact wk (hmx7 γ206 trivial) [2, 4, 5, 8, 10, 12] [[_], [_], [_]] [0, 1, 2] rfl rfl
   refine any_cutX (V := Unit) (fun _ => True) 9 #[true, false, true, true, true, false, false, false, false, false, false, false, false] (fun _ => [(2, .pointer (some ⟨γ1 0, 0, none⟩)), (4, .pointer (some ⟨γ1 1, 0, none⟩)), (8, .pointer (some ⟨γ1 0, 0, none⟩)), (10, .int .u64 s), (12, .int .u64 t.w)]) (fun _ => [bx (γ1 1) (#[.int .u64 0, .int .u64 0, .int .u64 0]) 33, bx (γ1 0) (#[.int .u64 t.hi, .int .u64 t.lo, .int .u64 t.w]) 33]) ?_ (fun hmx2 => ?_)
   ·
    rintro _ _
    refine any_fork [1, 5, 10] (by kernel_rfl) (by simp) (each_cons _ rfl ?_ (each_cons _ rfl ?_ (each_cons _ rfl ?_ (each_nil))))
    ·
     refine qo0 1 [(1, .go (owns 1 0 2))] [2, 4, 10, 12] [(9, .agg #[.int .u64 t.hi, .int .u64 t.lo])] ?_
     refine od_ ?_
     exact wk (hmx4 () trivial) [2, 4, 9, 10, 12] [[_], [_]] [0, 1] rfl rfl
    ·
     refine cD (.agg #[.int .u64 (hiV (s * t.w)), .int .u64 (loV (s * t.w))]) Try.call82 (fun w hw => wmul_v hs0 hU.w0 hs1 hU.w1 w) ?_
     refine od_ ?_
     exact wk (hmx6 () trivial) [2, 4, 8, 13] [[_], [_]] [0, 1] rfl rfl
    ·
     refine mo0 1 [] [2, 4, 8, 10, 12] (fun γ206 => [(5, .pointer (some ⟨γ206 0, 0, none⟩))]) (fun γ206 L => bx (γ206 0) (#[.int .u64 0, .int .u64 0]) 31 :: L) (fun γ206 => ?_)
     refine od_ ?_
     exact wk (hmx7 γ206 trivial) [2, 4, 5, 8, 10, 12] [[_], [_], [_]] [0, 1, 2] rfl rfl
   refine any_cutX (V := Unit) (fun _ => True) 9 #[true, true, true, true, false, false, false, false, false, false, false, false, false] (fun _ => [(2, .pointer (some ⟨γ1 0, 0, none⟩)), (4, .pointer (some ⟨γ1 1, 0, none⟩)), (9, .agg #[.int .u64 t.hi, .int .u64 t.lo]), (10, .int .u64 s), (11, .pointer (some ⟨γ1 0, 2, none⟩))]) (fun _ => [bx (γ1 1) (#[.int .u64 0, .int .u64 0, .int .u64 0]) 33, bx (γ1 0) (#[.int .u64 t.hi, .int .u64 t.lo, .int .u64 t.w]) 33]) ?_ (fun hmx1 => ?_)
   ·
    rintro _ _
    refine any_fork [4, 10] (by kernel_rfl) (by simp) (each_cons _ rfl ?_ (each_cons _ rfl ?_ (each_nil)))
    ·
     refine qo0 1 [(4, .go (owns 1 2 1))] [2, 4, 9, 10] [(12, .int .u64 t.w)] ?_
     refine od_ ?_
     exact wk (hmx4 () trivial) [2, 4, 9, 10, 12] [[_], [_]] [0, 1] rfl rfl
    ·
     refine mo0 1 [] [2, 4, 9, 10, 11] (fun γ206 => [(5, .pointer (some ⟨γ206 0, 0, none⟩))]) (fun γ206 L => bx (γ206 0) (#[.int .u64 0, .int .u64 0]) 31 :: L) (fun γ206 => ?_)
     refine od_ ?_
     exact wk (hmx5 γ206 trivial) [2, 4, 5, 9, 10, 11] [[_], [_], [_]] [0, 1, 2] rfl rfl
   refine any_fork [1, 4, 10] (by kernel_rfl) (by simp) (each_cons _ rfl ?_ (each_cons _ rfl ?_ (each_cons _ rfl ?_ (each_nil))))
   ·
    refine qo0 1 [(1, .go (owns 1 0 2))] [2, 4, 10, 11] [(9, .agg #[.int .u64 t.hi, .int .u64 t.lo])] ?_
    refine od_ ?_
    exact wk (hmx1 () trivial) [2, 4, 9, 10, 11] [[_], [_]] [0, 1] rfl rfl
   ·
    refine qo0 1 [(4, .go (owns 1 2 1))] [2, 4, 8, 10] [(12, .int .u64 t.w)] ?_
    refine od_ ?_
    exact wk (hmx2 () trivial) [2, 4, 8, 10, 12] [[_], [_]] [0, 1] rfl rfl
   ·
    refine mo0 1 [] [2, 4, 8, 10, 11] (fun γ206 => [(5, .pointer (some ⟨γ206 0, 0, none⟩))]) (fun γ206 L => bx (γ206 0) (#[.int .u64 0, .int .u64 0]) 31 :: L) (fun γ206 => ?_)
    refine od_ ?_
    exact wk (hmx3 γ206 trivial) [2, 4, 5, 8, 10, 11] [[_], [_], [_]] [0, 1, 2] rfl rfl
  rintro γ206 _
  refine any_nil (by kernel_rfl) ?_
  refine ds_ (sq_ (sq_ (qa0 [] [2, 4, 5] [(18, .bool true)] (ds_ (t_ (qa0 [(1, .go (owns 0 0 2))] [2, 4, 5] [] (ds_ (sq_ (ma0 [(0, .go (owns 0 0 2)), (2, .go (owns 2 2 1)), (4, .go (owns 1 0 3))] [4] (fun _ => []) (fun _ L => (L.set 1 (bx (γ1 1) (#[.int .u64 0, .int .u64 0, .int .u64 t.w]) 33))) (fun _ => ds_ (rt (owns 1 0 3) (.agg #[.int .u64 0, .int .u64 0, .int .u64 t.w]) ?_)))))))))))
  exact fun w' hw => ⟨by unfold floorV; rw [sub_lt q2]; rfl, hw.below⟩
 ·
  refine at_any (by kernel_rfl) ?_
  refine tk (m := 10) [0, 2, 3] [] [2, 4] [(8, .pointer (some ⟨γ1 0, 0, none⟩)), (10, .int .u64 s), (11, .pointer (some ⟨γ1 0, 2, none⟩))] ([]) #[true, false, true, true, false, false, false, false, false, false, false, false, false] al0 ?_
  refine any_cutX (V := (Nat → Nat)) (fun γ517 => True) 0 #[true, true, true, true, true, true, true, true, true, true, true, true, true] (fun γ517 => [(2, .pointer (some ⟨γ1 0, 0, none⟩)), (4, .pointer (some ⟨γ1 1, 0, none⟩)), (5, .pointer (some ⟨γ517 0, 0, none⟩)), (6, .int .i64 0)]) (fun γ517 => [bx (γ517 0) (#[.int .u64 (hiV (t.num - (s * t.w))), .int .u64 (loV (t.num - (s * t.w)))]) 31, bx (γ1 1) (#[.int .u64 0, .int .u64 0, .int .u64 0]) 33, bx (γ1 0) (#[.int .u64 t.hi, .int .u64 t.lo, .int .u64 t.w]) 33]) ?_ (fun hmx14 => ?_)
  rotate_left
  ·
   refine any_cutX (V := (Nat → Nat)) (fun γ517 => True) 2 #[true, true, true, true, true, true, true, true, true, true, true, false, false] (fun γ517 => [(2, .pointer (some ⟨γ1 0, 0, none⟩)), (4, .pointer (some ⟨γ1 1, 0, none⟩)), (5, .pointer (some ⟨γ517 0, 0, none⟩)), (15, .agg #[.int .u64 (hiV (t.num - (s * t.w))), .int .u64 (loV (t.num - (s * t.w)))]), (16, .int .i64 0)]) (fun γ517 => [bx (γ517 0) (#[.int .u64 0, .int .u64 0]) 31, bx (γ1 1) (#[.int .u64 0, .int .u64 0, .int .u64 0]) 33, bx (γ1 0) (#[.int .u64 t.hi, .int .u64 t.lo, .int .u64 t.w]) 33]) ?_ (fun hmx13 => ?_)
   ·
    rintro γ517 _
    refine a1 11 rfl ?_
    refine mo0 1 [(11, .go (owns 0 0 2))] [2, 4, 5, 16] (fun _ => []) (fun _ L => (L.set 0 (bx (γ517 0) (#[.int .u64 (hiV (t.num - (s * t.w))), .int .u64 (loV (t.num - (s * t.w)))]) 31))) (fun _ => ?_)
    refine od_ ?_
    refine tk (m := 0) [12] [] [2, 4, 5] [(6, .int .i64 0)] ([]) #[true, true, true, true, true, true, true, true, true, true, true, true, true] al0 ?_
    exact wk (hmx14 γ517 trivial) [2, 4, 5, 6] [[_], [_], [_]] [0, 1, 2] rfl rfl
   refine any_cutX (V := Unit) (fun _ => True) 3 #[true, true, true, true, true, true, true, true, true, true, false, false, false] (fun _ => [(2, .pointer (some ⟨γ1 0, 0, none⟩)), (4, .pointer (some ⟨γ1 1, 0, none⟩)), (15, .agg #[.int .u64 (hiV (t.num - (s * t.w))), .int .u64 (loV (t.num - (s * t.w)))]), (16, .int .i64 0)]) (fun _ => [bx (γ1 1) (#[.int .u64 0, .int .u64 0, .int .u64 0]) 33, bx (γ1 0) (#[.int .u64 t.hi, .int .u64 t.lo, .int .u64 t.w]) 33]) ?_ (fun hmx12 => ?_)
   ·
    rintro _ _
    refine a1 10 rfl ?_
    refine mo0 1 [] [2, 4, 15, 16] (fun γ517 => [(5, .pointer (some ⟨γ517 0, 0, none⟩))]) (fun γ517 L => bx (γ517 0) (#[.int .u64 0, .int .u64 0]) 31 :: L) (fun γ517 => ?_)
    refine od_ ?_
    exact wk (hmx13 γ517 trivial) [2, 4, 5, 15, 16] [[_], [_], [_]] [0, 1, 2] rfl rfl
   refine any_cutX (V := (Nat → Nat)) (fun γ517 => True) 6 #[true, true, true, true, true, true, false, false, false, false, true, false, false] (fun γ517 => [(2, .pointer (some ⟨γ1 0, 0, none⟩)), (4, .pointer (some ⟨γ1 1, 0, none⟩)), (5, .pointer (some ⟨γ517 0, 0, none⟩)), (9, .agg #[.int .u64 t.hi, .int .u64 t.lo]), (13, .agg #[.int .u64 (hiV (s * t.w)), .int .u64 (loV (s * t.w))])]) (fun γ517 => [bx (γ517 0) (#[.int .u64 0, .int .u64 0]) 31, bx (γ1 1) (#[.int .u64 0, .int .u64 0, .int .u64 0]) 33, bx (γ1 0) (#[.int .u64 t.hi, .int .u64 t.lo, .int .u64 t.w]) 33]) ?_ (fun hmx11 => ?_)
   ·
    rintro γ517 _
    refine a1 6 rfl ?_
    refine cD (.tuple #[.agg #[.int .u64 (hiV (t.num - (s * t.w))), .int .u64 (loV (t.num - (s * t.w)))], .int .i64 0]) Try.call42 (fun w hw => fsub_ge hU (Int.mul_nonneg hs0 hU.w0) q2 w) ?_
    refine od_ ?_
    refine tk (m := 2) [7, 8, 9] [] [2, 4, 5] [(15, .agg #[.int .u64 (hiV (t.num - (s * t.w))), .int .u64 (loV (t.num - (s * t.w)))]), (16, .int .i64 0)] ([]) #[true, true, true, true, true, true, true, true, true, true, true, false, false] al0 ?_
    exact wk (hmx13 γ517 trivial) [2, 4, 5, 15, 16] [[_], [_], [_]] [0, 1, 2] rfl rfl
   refine any_cutX (V := (Nat → Nat)) (fun γ517 => True) 7 #[true, false, true, true, true, true, false, false, false, false, true, false, false] (fun γ517 => [(2, .pointer (some ⟨γ1 0, 0, none⟩)), (4, .pointer (some ⟨γ1 1, 0, none⟩)), (5, .pointer (some ⟨γ517 0, 0, none⟩)), (8, .pointer (some ⟨γ1 0, 0, none⟩)), (13, .agg #[.int .u64 (hiV (s * t.w)), .int .u64 (loV (s * t.w))])]) (fun γ517 => [bx (γ517 0) (#[.int .u64 0, .int .u64 0]) 31, bx (γ1 1) (#[.int .u64 0, .int .u64 0, .int .u64 0]) 33, bx (γ1 0) (#[.int .u64 t.hi, .int .u64 t.lo, .int .u64 t.w]) 33]) ?_ (fun hmx10 => ?_)
   ·
    rintro γ517 _
    refine a1 1 rfl ?_
    refine qo0 1 [(1, .go (owns 2 0 2))] [2, 4, 5, 13] [(9, .agg #[.int .u64 t.hi, .int .u64 t.lo])] ?_
    refine od_ ?_
    exact wk (hmx11 γ517 trivial) [2, 4, 5, 9, 13] [[_], [_], [_]] [0, 1, 2] rfl rfl
   refine any_cutX (V := (Nat → Nat)) (fun γ517 => True) 7 #[true, true, true, true, true, false, false, false, false, false, true, false, false] (fun γ517 => [(2, .pointer (some ⟨γ1 0, 0, none⟩)), (4, .pointer (some ⟨γ1 1, 0, none⟩)), (5, .pointer (some ⟨γ517 0, 0, none⟩)), (9, .agg #[.int .u64 t.hi, .int .u64 t.lo]), (10, .int .u64 s), (12, .int .u64 t.w)]) (fun γ517 => [bx (γ517 0) (#[.int .u64 0, .int .u64 0]) 31, bx (γ1 1) (#[.int .u64 0, .int .u64 0, .int .u64 0]) 33, bx (γ1 0) (#[.int .u64 t.hi, .int .u64 t.lo, .int .u64 t.w]) 33]) ?_ (fun hmx9 => ?_)
   ·
    rintro γ517 _
    refine a1 5 rfl ?_
    refine cD (.agg #[.int .u64 (hiV (s * t.w)), .int .u64 (loV (s * t.w))]) Try.call82 (fun w hw => wmul_v hs0 hU.w0 hs1 hU.w1 w) ?_
    refine od_ ?_
    exact wk (hmx11 γ517 trivial) [2, 4, 5, 9, 13] [[_], [_], [_]] [0, 1, 2] rfl rfl
   refine any_cutX (V := Unit) (fun _ => True) 7 #[true, true, true, true, true, true, false, false, false, false, false, false, false] (fun _ => [(2, .pointer (some ⟨γ1 0, 0, none⟩)), (4, .pointer (some ⟨γ1 1, 0, none⟩)), (9, .agg #[.int .u64 t.hi, .int .u64 t.lo]), (13, .agg #[.int .u64 (hiV (s * t.w)), .int .u64 (loV (s * t.w))])]) (fun _ => [bx (γ1 1) (#[.int .u64 0, .int .u64 0, .int .u64 0]) 33, bx (γ1 0) (#[.int .u64 t.hi, .int .u64 t.lo, .int .u64 t.w]) 33]) ?_ (fun hmx8 => ?_)
   ·
    rintro _ _
    refine any_fork [6, 10] (by kernel_rfl) (by simp) (each_cons _ rfl ?_ (each_cons _ rfl ?_ (each_nil)))
    ·
     refine cD (.tuple #[.agg #[.int .u64 (hiV (t.num - (s * t.w))), .int .u64 (loV (t.num - (s * t.w)))], .int .i64 0]) Try.call42 (fun w hw => fsub_ge hU (Int.mul_nonneg hs0 hU.w0) q2 w) ?_
     refine od_ ?_
     refine tk (m := 3) [7, 8, 9] [] [2, 4] [(15, .agg #[.int .u64 (hiV (t.num - (s * t.w))), .int .u64 (loV (t.num - (s * t.w)))]), (16, .int .i64 0)] ([]) #[true, true, true, true, true, true, true, true, true, true, false, false, false] al0 ?_
     exact wk (hmx12 () trivial) [2, 4, 15, 16] [[_], [_]] [0, 1] rfl rfl
    ·
     refine mo0 1 [] [2, 4, 9, 13] (fun γ517 => [(5, .pointer (some ⟨γ517 0, 0, none⟩))]) (fun γ517 L => bx (γ517 0) (#[.int .u64 0, .int .u64 0]) 31 :: L) (fun γ517 => ?_)
     refine od_ ?_
     exact wk (hmx11 γ517 trivial) [2, 4, 5, 9, 13] [[_], [_], [_]] [0, 1, 2] rfl rfl
   refine any_cutX (V := (Nat → Nat)) (fun γ517 => True) 8 #[true, false, true, true, true, false, false, false, false, false, true, false, false] (fun γ517 => [(2, .pointer (some ⟨γ1 0, 0, none⟩)), (4, .pointer (some ⟨γ1 1, 0, none⟩)), (5, .pointer (some ⟨γ517 0, 0, none⟩)), (8, .pointer (some ⟨γ1 0, 0, none⟩)), (10, .int .u64 s), (12, .int .u64 t.w)]) (fun γ517 => [bx (γ517 0) (#[.int .u64 0, .int .u64 0]) 31, bx (γ1 1) (#[.int .u64 0, .int .u64 0, .int .u64 0]) 33, bx (γ1 0) (#[.int .u64 t.hi, .int .u64 t.lo, .int .u64 t.w]) 33]) ?_ (fun hmx7 => ?_)
   ·
    rintro γ517 _
    refine any_fork [1, 5] (by kernel_rfl) (by simp) (each_cons _ rfl ?_ (each_cons _ rfl ?_ (each_nil)))
    ·
     refine qo0 1 [(1, .go (owns 2 0 2))] [2, 4, 5, 10, 12] [(9, .agg #[.int .u64 t.hi, .int .u64 t.lo])] ?_
     refine od_ ?_
     exact wk (hmx9 γ517 trivial) [2, 4, 5, 9, 10, 12] [[_], [_], [_]] [0, 1, 2] rfl rfl
    ·
     refine cD (.agg #[.int .u64 (hiV (s * t.w)), .int .u64 (loV (s * t.w))]) Try.call82 (fun w hw => wmul_v hs0 hU.w0 hs1 hU.w1 w) ?_
     refine od_ ?_
     exact wk (hmx10 γ517 trivial) [2, 4, 5, 8, 13] [[_], [_], [_]] [0, 1, 2] rfl rfl
   refine any_cutX (V := Unit) (fun _ => True) 8 #[true, false, true, true, true, true, false, false, false, false, false, false, false] (fun _ => [(2, .pointer (some ⟨γ1 0, 0, none⟩)), (4, .pointer (some ⟨γ1 1, 0, none⟩)), (8, .pointer (some ⟨γ1 0, 0, none⟩)), (13, .agg #[.int .u64 (hiV (s * t.w)), .int .u64 (loV (s * t.w))])]) (fun _ => [bx (γ1 1) (#[.int .u64 0, .int .u64 0, .int .u64 0]) 33, bx (γ1 0) (#[.int .u64 t.hi, .int .u64 t.lo, .int .u64 t.w]) 33]) ?_ (fun hmx6 => ?_)
   ·
    rintro _ _
    refine any_fork [1, 10] (by kernel_rfl) (by simp) (each_cons _ rfl ?_ (each_cons _ rfl ?_ (each_nil)))
    ·
     refine qo0 1 [(1, .go (owns 1 0 2))] [2, 4, 13] [(9, .agg #[.int .u64 t.hi, .int .u64 t.lo])] ?_
     refine od_ ?_
     exact wk (hmx8 () trivial) [2, 4, 9, 13] [[_], [_]] [0, 1] rfl rfl
    ·
     refine mo0 1 [] [2, 4, 8, 13] (fun γ517 => [(5, .pointer (some ⟨γ517 0, 0, none⟩))]) (fun γ517 L => bx (γ517 0) (#[.int .u64 0, .int .u64 0]) 31 :: L) (fun γ517 => ?_)
     refine od_ ?_
     exact wk (hmx10 γ517 trivial) [2, 4, 5, 8, 13] [[_], [_], [_]] [0, 1, 2] rfl rfl
   refine any_cutX (V := (Nat → Nat)) (fun γ517 => True) 8 #[true, true, true, true, false, false, false, false, false, false, true, false, false] (fun γ517 => [(2, .pointer (some ⟨γ1 0, 0, none⟩)), (4, .pointer (some ⟨γ1 1, 0, none⟩)), (5, .pointer (some ⟨γ517 0, 0, none⟩)), (9, .agg #[.int .u64 t.hi, .int .u64 t.lo]), (10, .int .u64 s), (11, .pointer (some ⟨γ1 0, 2, none⟩))]) (fun γ517 => [bx (γ517 0) (#[.int .u64 0, .int .u64 0]) 31, bx (γ1 1) (#[.int .u64 0, .int .u64 0, .int .u64 0]) 33, bx (γ1 0) (#[.int .u64 t.hi, .int .u64 t.lo, .int .u64 t.w]) 33]) ?_ (fun hmx5 => ?_)
   ·
    rintro γ517 _
    refine a1 4 rfl ?_
    refine qo0 1 [(4, .go (owns 2 2 1))] [2, 4, 5, 9, 10] [(12, .int .u64 t.w)] ?_
    refine od_ ?_
    exact wk (hmx9 γ517 trivial) [2, 4, 5, 9, 10, 12] [[_], [_], [_]] [0, 1, 2] rfl rfl
   refine any_cutX (V := Unit) (fun _ => True) 8 #[true, true, true, true, true, false, false, false, false, false, false, false, false] (fun _ => [(2, .pointer (some ⟨γ1 0, 0, none⟩)), (4, .pointer (some ⟨γ1 1, 0, none⟩)), (9, .agg #[.int .u64 t.hi, .int .u64 t.lo]), (10, .int .u64 s), (12, .int .u64 t.w)]) (fun _ => [bx (γ1 1) (#[.int .u64 0, .int .u64 0, .int .u64 0]) 33, bx (γ1 0) (#[.int .u64 t.hi, .int .u64 t.lo, .int .u64 t.w]) 33]) ?_ (fun hmx4 => ?_)
   ·
    rintro _ _
    refine any_fork [5, 10] (by kernel_rfl) (by simp) (each_cons _ rfl ?_ (each_cons _ rfl ?_ (each_nil)))
    ·
     refine cD (.agg #[.int .u64 (hiV (s * t.w)), .int .u64 (loV (s * t.w))]) Try.call82 (fun w hw => wmul_v hs0 hU.w0 hs1 hU.w1 w) ?_
     refine od_ ?_
     exact wk (hmx8 () trivial) [2, 4, 9, 13] [[_], [_]] [0, 1] rfl rfl
    ·
     refine mo0 1 [] [2, 4, 9, 10, 12] (fun γ517 => [(5, .pointer (some ⟨γ517 0, 0, none⟩))]) (fun γ517 L => bx (γ517 0) (#[.int .u64 0, .int .u64 0]) 31 :: L) (fun γ517 => ?_)
     refine od_ ?_
     exact wk (hmx9 γ517 trivial) [2, 4, 5, 9, 10, 12] [[_], [_], [_]] [0, 1, 2] rfl rfl
   refine any_cutX (V := (Nat → Nat)) (fun γ517 => True) 9 #[true, false, true, true, false, false, false, false, false, false, true, false, false] (fun γ517 => [(2, .pointer (some ⟨γ1 0, 0, none⟩)), (4, .pointer (some ⟨γ1 1, 0, none⟩)), (5, .pointer (some ⟨γ517 0, 0, none⟩)), (8, .pointer (some ⟨γ1 0, 0, none⟩)), (10, .int .u64 s), (11, .pointer (some ⟨γ1 0, 2, none⟩))]) (fun γ517 => [bx (γ517 0) (#[.int .u64 0, .int .u64 0]) 31, bx (γ1 1) (#[.int .u64 0, .int .u64 0, .int .u64 0]) 33, bx (γ1 0) (#[.int .u64 t.hi, .int .u64 t.lo, .int .u64 t.w]) 33]) ?_ (fun hmx3 => ?_)
   ·
    rintro γ517 _
    refine any_fork [1, 4] (by kernel_rfl) (by simp) (each_cons _ rfl ?_ (each_cons _ rfl ?_ (each_nil)))
    ·
     refine qo0 1 [(1, .go (owns 2 0 2))] [2, 4, 5, 10, 11] [(9, .agg #[.int .u64 t.hi, .int .u64 t.lo])] ?_
     refine od_ ?_
     exact wk (hmx5 γ517 trivial) [2, 4, 5, 9, 10, 11] [[_], [_], [_]] [0, 1, 2] rfl rfl
    ·
     refine qo0 1 [(4, .go (owns 2 2 1))] [2, 4, 5, 8, 10] [(12, .int .u64 t.w)] ?_
     refine od_ ?_
     exact wk (hmx7 γ517 trivial) [2, 4, 5, 8, 10, 12] [[_], [_], [_]] [0, 1, 2] rfl rfl
   refine any_cutX (V := Unit) (fun _ => True) 9 #[true, false, true, true, true, false, false, false, false, false, false, false, false] (fun _ => [(2, .pointer (some ⟨γ1 0, 0, none⟩)), (4, .pointer (some ⟨γ1 1, 0, none⟩)), (8, .pointer (some ⟨γ1 0, 0, none⟩)), (10, .int .u64 s), (12, .int .u64 t.w)]) (fun _ => [bx (γ1 1) (#[.int .u64 0, .int .u64 0, .int .u64 0]) 33, bx (γ1 0) (#[.int .u64 t.hi, .int .u64 t.lo, .int .u64 t.w]) 33]) ?_ (fun hmx2 => ?_)
   ·
    rintro _ _
    refine any_fork [1, 5, 10] (by kernel_rfl) (by simp) (each_cons _ rfl ?_ (each_cons _ rfl ?_ (each_cons _ rfl ?_ (each_nil))))
    ·
     refine qo0 1 [(1, .go (owns 1 0 2))] [2, 4, 10, 12] [(9, .agg #[.int .u64 t.hi, .int .u64 t.lo])] ?_
     refine od_ ?_
     exact wk (hmx4 () trivial) [2, 4, 9, 10, 12] [[_], [_]] [0, 1] rfl rfl
    ·
     refine cD (.agg #[.int .u64 (hiV (s * t.w)), .int .u64 (loV (s * t.w))]) Try.call82 (fun w hw => wmul_v hs0 hU.w0 hs1 hU.w1 w) ?_
     refine od_ ?_
     exact wk (hmx6 () trivial) [2, 4, 8, 13] [[_], [_]] [0, 1] rfl rfl
    ·
     refine mo0 1 [] [2, 4, 8, 10, 12] (fun γ517 => [(5, .pointer (some ⟨γ517 0, 0, none⟩))]) (fun γ517 L => bx (γ517 0) (#[.int .u64 0, .int .u64 0]) 31 :: L) (fun γ517 => ?_)
     refine od_ ?_
     exact wk (hmx7 γ517 trivial) [2, 4, 5, 8, 10, 12] [[_], [_], [_]] [0, 1, 2] rfl rfl
   refine any_cutX (V := Unit) (fun _ => True) 9 #[true, true, true, true, false, false, false, false, false, false, false, false, false] (fun _ => [(2, .pointer (some ⟨γ1 0, 0, none⟩)), (4, .pointer (some ⟨γ1 1, 0, none⟩)), (9, .agg #[.int .u64 t.hi, .int .u64 t.lo]), (10, .int .u64 s), (11, .pointer (some ⟨γ1 0, 2, none⟩))]) (fun _ => [bx (γ1 1) (#[.int .u64 0, .int .u64 0, .int .u64 0]) 33, bx (γ1 0) (#[.int .u64 t.hi, .int .u64 t.lo, .int .u64 t.w]) 33]) ?_ (fun hmx1 => ?_)
   ·
    rintro _ _
    refine any_fork [4, 10] (by kernel_rfl) (by simp) (each_cons _ rfl ?_ (each_cons _ rfl ?_ (each_nil)))
    ·
     refine qo0 1 [(4, .go (owns 1 2 1))] [2, 4, 9, 10] [(12, .int .u64 t.w)] ?_
     refine od_ ?_
     exact wk (hmx4 () trivial) [2, 4, 9, 10, 12] [[_], [_]] [0, 1] rfl rfl
    ·
     refine mo0 1 [] [2, 4, 9, 10, 11] (fun γ517 => [(5, .pointer (some ⟨γ517 0, 0, none⟩))]) (fun γ517 L => bx (γ517 0) (#[.int .u64 0, .int .u64 0]) 31 :: L) (fun γ517 => ?_)
     refine od_ ?_
     exact wk (hmx5 γ517 trivial) [2, 4, 5, 9, 10, 11] [[_], [_], [_]] [0, 1, 2] rfl rfl
   refine any_fork [1, 4, 10] (by kernel_rfl) (by simp) (each_cons _ rfl ?_ (each_cons _ rfl ?_ (each_cons _ rfl ?_ (each_nil))))
   ·
    refine qo0 1 [(1, .go (owns 1 0 2))] [2, 4, 10, 11] [(9, .agg #[.int .u64 t.hi, .int .u64 t.lo])] ?_
    refine od_ ?_
    exact wk (hmx1 () trivial) [2, 4, 9, 10, 11] [[_], [_]] [0, 1] rfl rfl
   ·
    refine qo0 1 [(4, .go (owns 1 2 1))] [2, 4, 8, 10] [(12, .int .u64 t.w)] ?_
    refine od_ ?_
    exact wk (hmx2 () trivial) [2, 4, 8, 10, 12] [[_], [_]] [0, 1] rfl rfl
   ·
    refine mo0 1 [] [2, 4, 8, 10, 11] (fun γ517 => [(5, .pointer (some ⟨γ517 0, 0, none⟩))]) (fun γ517 L => bx (γ517 0) (#[.int .u64 0, .int .u64 0]) 31 :: L) (fun γ517 => ?_)
    refine od_ ?_
    exact wk (hmx3 γ517 trivial) [2, 4, 5, 8, 10, 11] [[_], [_], [_]] [0, 1, 2] rfl rfl
  rintro γ517 _
  refine any_nil (by kernel_rfl) ?_
  refine ds_ (sq_ (sq_ (qa0 [] [2, 4, 5] [(18, .bool false)] (ds_ (f_ (at_skip (ds_ (sq_ (ma0 [(0, .go (owns 0 0 2)), (2, .go (owns 2 2 1)), (4, .go (owns 1 0 3))] [4] (fun _ => []) (fun _ L => (L.set 1 (bx (γ1 1) (#[.int .u64 (hiV (t.num - (s * t.w))), .int .u64 (loV (t.num - (s * t.w))), .int .u64 t.w]) 33))) (fun _ => ds_ (rt (owns 1 0 3) (.agg #[.int .u64 (hiV (t.num - (s * t.w))), .int .u64 (loV (t.num - (s * t.w))), .int .u64 t.w]) ?_)))))))))))
  exact fun w' hw => ⟨by unfold floorV; rw [sub_ge q2], hw.below⟩

set_option maxRecDepth 100000 in
theorem fbeh_t (a t : Fq) (s : Int) (w : World)
 (hU : a.U) (hV : t.U) (hs0 : 0 ≤ s) (hs1 : s < 18446744073709551616)
 : Calls Try.prog 30 #[.agg #[.int .u64 a.hi, .int .u64 a.lo, .int .u64 a.w], .agg #[.int .u64 t.hi, .int .u64 t.lo, .int .u64 t.w], .int .u64 s] w fun e w' => e = .returned (.bool (behV a t s)) ∧ Below w.heap.size w w' := by
 refine enter (Hs.start w) Try.func30 rfl Try.ntmps30 rfl (sq_ (ma0 [] [2] (fun γ1 => [(3, .pointer (some ⟨γ1 0, 0, none⟩)), (4, .pointer (some ⟨γ1 1, 0, none⟩))]) (fun γ1 L => bx (γ1 1) (#[.int .u64 t.hi, .int .u64 t.lo, .int .u64 t.w]) 33 :: bx (γ1 0) (#[.int .u64 a.hi, .int .u64 a.lo, .int .u64 a.w]) 33 :: L) (fun γ1 => ds_ (sq_ ?_))))
 rcases q2 : (a.ok && t.ok) with _ | _
 ·
  refine at_calmTo (f := 11) 2 rfl (by kernel_rfl) (by kernel_rfl) (by kernel_rfl) (by kernel_rfl) (by kernel_rfl) (by kernel_rfl) ?_
  refine cm 2 [(0, .go (owns 1 0 3)), (1, .go (owns 0 0 3))] [2, 3, 4] [(7, .agg #[.int .u64 a.hi, .int .u64 a.lo, .int .u64 a.w]), (8, .agg #[.int .u64 t.hi, .int .u64 t.lo, .int .u64 t.w])] ([]) (by kernel_rfl) rfl al0 ?_
  refine calm_nil' ?_
  refine done_pre (li' := #[true, true, false, false, false, false, false, false, false, false, false, false, false]) (by kernel_rfl) ?_
  refine any_cutX (V := (Nat → Nat)) (fun γ46 => True) 0 #[true, true, true, true, true, true, true, true, true, true, true, true, true] (fun γ46 => [(6, .bool false)]) (fun γ46 => [bx (γ46 0) (#[.int .u64 a.hi, .int .u64 a.lo, .int .u64 a.w, .int .u64 t.hi, .int .u64 t.lo, .int .u64 t.w]) 33, bx (γ1 1) (#[.int .u64 t.hi, .int .u64 t.lo, .int .u64 t.w]) 33, bx (γ1 0) (#[.int .u64 a.hi, .int .u64 a.lo, .int .u64 a.w]) 33]) ?_ (fun hmx8 => ?_)
  rotate_left
  ·
   refine any_cutX (V := (Nat → Nat)) (fun γ46 => True) 4 #[true, true, true, true, true, true, true, true, true, false, false, false, false] (fun γ46 => [(11, .bool false), (12, undef), (15, undef)]) (fun γ46 => [bx (γ46 0) (#[.int .u64 a.hi, .int .u64 a.lo, .int .u64 a.w, .int .u64 t.hi, .int .u64 t.lo, .int .u64 t.w]) 33, bx (γ1 1) (#[.int .u64 t.hi, .int .u64 t.lo, .int .u64 t.w]) 33, bx (γ1 0) (#[.int .u64 a.hi, .int .u64 a.lo, .int .u64 a.w]) 33]) ?_ (fun hmx7 => ?_)
   ·
    rintro γ46 _
    refine a1 9 rfl ?_
    refine qo0 1 [] [11] [(16, undef)] ?_
    refine od_ ?_
    refine tk (m := 0) [10, 11, 12] [] [] [(6, .bool false)] ([]) #[true, true, true, true, true, true, true, true, true, true, true, true, true] al0 ?_
    exact wk (hmx8 γ46 trivial) [6] [[_], [_], [_]] [0, 1, 2] rfl rfl
   refine any_cutX (V := (Nat → Nat)) (fun γ46 => True) 5 #[true, true, true, true, true, false, true, true, true, false, false, false, false] (fun γ46 => [(3, .pointer (some ⟨γ1 0, 0, none⟩)), (11, .bool false), (15, undef)]) (fun γ46 => [bx (γ46 0) (#[.int .u64 a.hi, .int .u64 a.lo, .int .u64 a.w, .int .u64 t.hi, .int .u64 t.lo, .int .u64 t.w]) 33, bx (γ1 1) (#[.int .u64 t.hi, .int .u64 t.lo, .int .u64 t.w]) 33, bx (γ1 0) (#[.int .u64 a.hi, .int .u64 a.lo, .int .u64 a.w]) 33]) ?_ (fun hmx6 => ?_)
   ·
    rintro γ46 _
    refine a1 5 rfl ?_
    refine qo0 1 [] [11, 15] [(12, undef)] ?_
    refine od_ ?_
    exact wk (hmx7 γ46 trivial) [11, 12, 15] [[_], [_], [_]] [0, 1, 2] rfl rfl
   refine any_cutX (V := (Nat → Nat)) (fun γ46 => True) 5 #[true, true, true, true, true, true, true, true, false, false, false, false, false] (fun γ46 => [(11, .bool false), (12, undef), (13, undef), (14, undef)]) (fun γ46 => [bx (γ46 0) (#[.int .u64 a.hi, .int .u64 a.lo, .int .u64 a.w, .int .u64 t.hi, .int .u64 t.lo, .int .u64 t.w]) 33, bx (γ1 1) (#[.int .u64 t.hi, .int .u64 t.lo, .int .u64 t.w]) 33, bx (γ1 0) (#[.int .u64 a.hi, .int .u64 a.lo, .int .u64 a.w]) 33]) ?_ (fun hmx5 => ?_)
   ·
    rintro γ46 _
    refine a1 8 rfl ?_
    refine qo0 1 [] [11, 12] [(15, undef)] ?_
    refine od_ ?_
    exact wk (hmx7 γ46 trivial) [11, 12, 15] [[_], [_], [_]] [0, 1, 2] rfl rfl
   refine any_cutX (V := (Nat → Nat)) (fun γ46 => True) 6 #[true, true, true, true, true, false, true, true, false, false, false, false, false] (fun γ46 => [(3, .pointer (some ⟨γ1 0, 0, none⟩)), (11, .bool false), (13, undef), (14, undef)]) (fun γ46 => [bx (γ46 0) (#[.int .u64 a.hi, .int .u64 a.lo, .int .u64 a.w, .int .u64 t.hi, .int .u64 t.lo, .int .u64 t.w]) 33, bx (γ1 1) (#[.int .u64 t.hi, .int .u64 t.lo, .int .u64 t.w]) 33, bx (γ1 0) (#[.int .u64 a.hi, .int .u64 a.lo, .int .u64 a.w]) 33]) ?_ (fun hmx4 => ?_)
   ·
    rintro γ46 _
    refine any_fork [5, 8] (by kernel_rfl) (by simp) (each_cons _ rfl ?_ (each_cons _ rfl ?_ (each_nil)))
    ·
     refine qo0 1 [] [11, 13, 14] [(12, undef)] ?_
     refine od_ ?_
     exact wk (hmx5 γ46 trivial) [11, 12, 13, 14] [[_], [_], [_]] [0, 1, 2] rfl rfl
    ·
     refine qo0 1 [] [3, 11] [(15, undef)] ?_
     refine od_ ?_
     exact wk (hmx6 γ46 trivial) [3, 11, 15] [[_], [_], [_]] [0, 1, 2] rfl rfl
   refine any_cutX (V := (Nat → Nat)) (fun γ46 => True) 6 #[true, true, true, true, true, true, false, true, false, false, false, false, false] (fun γ46 => [(4, .pointer (some ⟨γ1 1, 0, none⟩)), (11, .bool false), (12, undef), (14, undef)]) (fun γ46 => [bx (γ46 0) (#[.int .u64 a.hi, .int .u64 a.lo, .int .u64 a.w, .int .u64 t.hi, .int .u64 t.lo, .int .u64 t.w]) 33, bx (γ1 1) (#[.int .u64 t.hi, .int .u64 t.lo, .int .u64 t.w]) 33, bx (γ1 0) (#[.int .u64 a.hi, .int .u64 a.lo, .int .u64 a.w]) 33]) ?_ (fun hmx3 => ?_)
   ·
    rintro γ46 _
    refine a1 6 rfl ?_
    refine qo0 1 [] [11, 12, 14] [(13, undef)] ?_
    refine od_ ?_
    exact wk (hmx5 γ46 trivial) [11, 12, 13, 14] [[_], [_], [_]] [0, 1, 2] rfl rfl
   refine any_cutX (V := (Nat → Nat)) (fun γ46 => True) 7 #[true, true, true, true, true, false, false, true, false, false, false, false, false] (fun γ46 => [(3, .pointer (some ⟨γ1 0, 0, none⟩)), (4, .pointer (some ⟨γ1 1, 0, none⟩)), (11, .bool false), (14, undef)]) (fun γ46 => [bx (γ46 0) (#[.int .u64 a.hi, .int .u64 a.lo, .int .u64 a.w, .int .u64 t.hi, .int .u64 t.lo, .int .u64 t.w]) 33, bx (γ1 1) (#[.int .u64 t.hi, .int .u64 t.lo, .int .u64 t.w]) 33, bx (γ1 0) (#[.int .u64 a.hi, .int .u64 a.lo, .int .u64 a.w]) 33]) ?_ (fun hmx2 => ?_)
   ·
    rintro γ46 _
    refine any_fork [5, 6] (by kernel_rfl) (by simp) (each_cons _ rfl ?_ (each_cons _ rfl ?_ (each_nil)))
    ·
     refine qo0 1 [] [4, 11, 14] [(12, undef)] ?_
     refine od_ ?_
     exact wk (hmx3 γ46 trivial) [4, 11, 12, 14] [[_], [_], [_]] [0, 1, 2] rfl rfl
    ·
     refine qo0 1 [] [3, 11, 14] [(13, undef)] ?_
     refine od_ ?_
     exact wk (hmx4 γ46 trivial) [3, 11, 13, 14] [[_], [_], [_]] [0, 1, 2] rfl rfl
   refine any_cutX (V := (Nat → Nat)) (fun γ46 => True) 10 #[true, true, true, false, false, false, false, false, false, false, false, false, false] (fun γ46 => [(2, .int .u64 s), (3, .pointer (some ⟨γ1 0, 0, none⟩)), (4, .pointer (some ⟨γ1 1, 0, none⟩)), (9, .slice (some ⟨γ46 0, 0, none⟩) 2 2)]) (fun γ46 => [bx (γ46 0) (#[.int .u64 a.hi, .int .u64 a.lo, .int .u64 a.w, .int .u64 t.hi, .int .u64 t.lo, .int .u64 t.w]) 33, bx (γ1 1) (#[.int .u64 t.hi, .int .u64 t.lo, .int .u64 t.w]) 33, bx (γ1 0) (#[.int .u64 a.hi, .int .u64 a.lo, .int .u64 a.w]) 33]) ?_ (fun hmx1 => ?_)
   ·
    rintro γ46 _
    refine a1 3 rfl ?_
    refine cD (.bool false) Try.call39 (fun w hw => by have := right_t (some ⟨γ46 0, 0, none⟩) 2 2 [a, t] w (sv_row (hw.row 0 rfl) rfl) rfl (by decide); rw [all2, q2] at this; exact this) ?_
    refine od_ ?_
    refine tk (m := 7) [4, 7] [] [3, 4] [(11, .bool false), (14, undef)] ([]) #[true, true, true, true, true, false, false, true, false, false, false, false, false] al0 ?_
    exact wk (hmx2 γ46 trivial) [3, 4, 11, 14] [[_], [_], [_]] [0, 1, 2] rfl rfl
   refine a1 2 rfl ?_
   refine mo0 1 [] [2, 3, 4] (fun γ46 => [(9, .slice (some ⟨γ46 0, 0, none⟩) 2 2)]) (fun γ46 L => bx (γ46 0) (#[.int .u64 a.hi, .int .u64 a.lo, .int .u64 a.w, .int .u64 t.hi, .int .u64 t.lo, .int .u64 t.w]) 33 :: L) (fun γ46 => ?_)
   refine od_ ?_
   exact wk (hmx1 γ46 trivial) [2, 3, 4, 9] [[_], [_], [_]] [0, 1, 2] rfl rfl
  rintro γ46 _
  refine any_nil (by kernel_rfl) ?_
  refine ds_ (rt ([]) (.bool false) ?_)
  exact fun w' hw => ⟨by rw [beh_no q2], hw.below⟩
 ·
  by_cases q309 : ((cmpF a (floorV t s)) : Int) < (0 : Int)
  ·
   refine at_calmTo (f := 11) 2 rfl (by kernel_rfl) (by kernel_rfl) (by kernel_rfl) (by kernel_rfl) (by kernel_rfl) (by kernel_rfl) ?_
   refine cm 2 [(0, .go (owns 1 0 3)), (1, .go (owns 0 0 3))] [2, 3, 4] [(7, .agg #[.int .u64 a.hi, .int .u64 a.lo, .int .u64 a.w]), (8, .agg #[.int .u64 t.hi, .int .u64 t.lo, .int .u64 t.w])] ([]) (by kernel_rfl) rfl al0 ?_
   refine calm_nil' ?_
   refine done_pre (li' := #[true, true, false, false, false, false, false, false, false, false, false, false, false]) (by kernel_rfl) ?_
   refine any_cutX (V := (Nat → Nat)) (fun γ353 => True) 0 #[true, true, true, true, true, true, true, true, true, true, true, true, true] (fun γ353 => [(6, .bool true)]) (fun γ353 => [bx (γ353 0) (#[.int .u64 a.hi, .int .u64 a.lo, .int .u64 a.w, .int .u64 t.hi, .int .u64 t.lo, .int .u64 t.w]) 33, bx (γ1 1) (#[.int .u64 t.hi, .int .u64 t.lo, .int .u64 t.w]) 33, bx (γ1 0) (#[.int .u64 a.hi, .int .u64 a.lo, .int .u64 a.w]) 33]) ?_ (fun hmx8 => ?_)
   rotate_left
   ·
    refine any_cutX (V := (Nat → Nat)) (fun γ353 => True) 4 #[true, true, true, true, true, true, true, true, true, false, false, false, false] (fun γ353 => [(11, .bool true), (12, .agg #[.int .u64 a.hi, .int .u64 a.lo, .int .u64 a.w]), (15, .agg #[.int .u64 ((floorV t s).hi), .int .u64 ((floorV t s).lo), .int .u64 ((floorV t s).w)])]) (fun γ353 => [bx (γ353 0) (#[.int .u64 a.hi, .int .u64 a.lo, .int .u64 a.w, .int .u64 t.hi, .int .u64 t.lo, .int .u64 t.w]) 33, bx (γ1 1) (#[.int .u64 t.hi, .int .u64 t.lo, .int .u64 t.w]) 33, bx (γ1 0) (#[.int .u64 a.hi, .int .u64 a.lo, .int .u64 a.w]) 33]) ?_ (fun hmx7 => ?_)
    ·
     rintro γ353 _
     refine a1 9 rfl ?_
     refine cD (.int .i64 (cmpF a (floorV t s))) Try.call13 (fun w hw => fcmp_t a (floorV t s) w hU (floor_U hV (and_r q2) hs0)) ?_
     refine od_ ?_
     refine tk (m := 0) [10, 11, 12] [(10, .yes)] [] [(6, .bool true)] ([((cmpF a (floorV t s)) : Int) < (0 : Int)]) #[true, true, true, true, true, true, true, true, true, true, true, true, true] (al1 q309) ?_
     exact wk (hmx8 γ353 trivial) [6] [[_], [_], [_]] [0, 1, 2] rfl rfl
    refine any_cutX (V := (Nat → Nat)) (fun γ353 => True) 5 #[true, true, true, true, true, false, true, true, true, false, false, false, false] (fun γ353 => [(3, .pointer (some ⟨γ1 0, 0, none⟩)), (11, .bool true), (15, .agg #[.int .u64 ((floorV t s).hi), .int .u64 ((floorV t s).lo), .int .u64 ((floorV t s).w)])]) (fun γ353 => [bx (γ353 0) (#[.int .u64 a.hi, .int .u64 a.lo, .int .u64 a.w, .int .u64 t.hi, .int .u64 t.lo, .int .u64 t.w]) 33, bx (γ1 1) (#[.int .u64 t.hi, .int .u64 t.lo, .int .u64 t.w]) 33, bx (γ1 0) (#[.int .u64 a.hi, .int .u64 a.lo, .int .u64 a.w]) 33]) ?_ (fun hmx6 => ?_)
    ·
     rintro γ353 _
     refine a1 5 rfl ?_
     refine qo0 1 [(5, .go (owns 2 0 3))] [11, 15] [(12, .agg #[.int .u64 a.hi, .int .u64 a.lo, .int .u64 a.w])] ?_
     refine od_ ?_
     exact wk (hmx7 γ353 trivial) [11, 12, 15] [[_], [_], [_]] [0, 1, 2] rfl rfl
    refine any_cutX (V := (Nat → Nat)) (fun γ353 => True) 5 #[true, true, true, true, true, true, true, true, false, false, false, false, false] (fun γ353 => [(11, .bool true), (12, .agg #[.int .u64 a.hi, .int .u64 a.lo, .int .u64 a.w]), (13, .agg #[.int .u64 t.hi, .int .u64 t.lo, .int .u64 t.w]), (14, .int .u64 s)]) (fun γ353 => [bx (γ353 0) (#[.int .u64 a.hi, .int .u64 a.lo, .int .u64 a.w, .int .u64 t.hi, .int .u64 t.lo, .int .u64 t.w]) 33, bx (γ1 1) (#[.int .u64 t.hi, .int .u64 t.lo, .int .u64 t.w]) 33, bx (γ1 0) (#[.int .u64 a.hi, .int .u64 a.lo, .int .u64 a.w]) 33]) ?_ (fun hmx5 => ?_)
    ·
     rintro γ353 _
     refine a1 8 rfl ?_
     refine cD (.agg #[.int .u64 ((floorV t s).hi), .int .u64 ((floorV t s).lo), .int .u64 ((floorV t s).w)]) Try.call65 (fun w hw => floor_t t s w hV hs0 hs1) ?_
     refine od_ ?_
     exact wk (hmx7 γ353 trivial) [11, 12, 15] [[_], [_], [_]] [0, 1, 2] rfl rfl
    refine any_cutX (V := (Nat → Nat)) (fun γ353 => True) 6 #[true, true, true, true, true, false, true, true, false, false, false, false, false] (fun γ353 => [(3, .pointer (some ⟨γ1 0, 0, none⟩)), (11, .bool true), (13, .agg #[.int .u64 t.hi, .int .u64 t.lo, .int .u64 t.w]), (14, .int .u64 s)]) (fun γ353 => [bx (γ353 0) (#[.int .u64 a.hi, .int .u64 a.lo, .int .u64 a.w, .int .u64 t.hi, .int .u64 t.lo, .int .u64 t.w]) 33, bx (γ1 1) (#[.int .u64 t.hi, .int .u64 t.lo, .int .u64 t.w]) 33, bx (γ1 0) (#[.int .u64 a.hi, .int .u64 a.lo, .int .u64 a.w]) 33]) ?_ (fun hmx4 => ?_)
    ·
     rintro γ353 _
     refine any_fork [5, 8] (by kernel_rfl) (by simp) (each_cons _ rfl ?_ (each_cons _ rfl ?_ (each_nil)))
     ·
      refine qo0 1 [(5, .go (owns 2 0 3))] [11, 13, 14] [(12, .agg #[.int .u64 a.hi, .int .u64 a.lo, .int .u64 a.w])] ?_
      refine od_ ?_
      exact wk (hmx5 γ353 trivial) [11, 12, 13, 14] [[_], [_], [_]] [0, 1, 2] rfl rfl
     ·
      refine cD (.agg #[.int .u64 ((floorV t s).hi), .int .u64 ((floorV t s).lo), .int .u64 ((floorV t s).w)]) Try.call65 (fun w hw => floor_t t s w hV hs0 hs1) ?_
      refine od_ ?_
      exact wk (hmx6 γ353 trivial) [3, 11, 15] [[_], [_], [_]] [0, 1, 2] rfl rfl
    refine any_cutX (V := (Nat → Nat)) (fun γ353 => True) 6 #[true, true, true, true, true, true, false, true, false, false, false, false, false] (fun γ353 => [(4, .pointer (some ⟨γ1 1, 0, none⟩)), (11, .bool true), (12, .agg #[.int .u64 a.hi, .int .u64 a.lo, .int .u64 a.w]), (14, .int .u64 s)]) (fun γ353 => [bx (γ353 0) (#[.int .u64 a.hi, .int .u64 a.lo, .int .u64 a.w, .int .u64 t.hi, .int .u64 t.lo, .int .u64 t.w]) 33, bx (γ1 1) (#[.int .u64 t.hi, .int .u64 t.lo, .int .u64 t.w]) 33, bx (γ1 0) (#[.int .u64 a.hi, .int .u64 a.lo, .int .u64 a.w]) 33]) ?_ (fun hmx3 => ?_)
    ·
     rintro γ353 _
     refine a1 6 rfl ?_
     refine qo0 1 [(6, .go (owns 1 0 3))] [11, 12, 14] [(13, .agg #[.int .u64 t.hi, .int .u64 t.lo, .int .u64 t.w])] ?_
     refine od_ ?_
     exact wk (hmx5 γ353 trivial) [11, 12, 13, 14] [[_], [_], [_]] [0, 1, 2] rfl rfl
    refine any_cutX (V := (Nat → Nat)) (fun γ353 => True) 7 #[true, true, true, true, true, false, false, true, false, false, false, false, false] (fun γ353 => [(3, .pointer (some ⟨γ1 0, 0, none⟩)), (4, .pointer (some ⟨γ1 1, 0, none⟩)), (11, .bool true), (14, .int .u64 s)]) (fun γ353 => [bx (γ353 0) (#[.int .u64 a.hi, .int .u64 a.lo, .int .u64 a.w, .int .u64 t.hi, .int .u64 t.lo, .int .u64 t.w]) 33, bx (γ1 1) (#[.int .u64 t.hi, .int .u64 t.lo, .int .u64 t.w]) 33, bx (γ1 0) (#[.int .u64 a.hi, .int .u64 a.lo, .int .u64 a.w]) 33]) ?_ (fun hmx2 => ?_)
    ·
     rintro γ353 _
     refine any_fork [5, 6] (by kernel_rfl) (by simp) (each_cons _ rfl ?_ (each_cons _ rfl ?_ (each_nil)))
     ·
      refine qo0 1 [(5, .go (owns 2 0 3))] [4, 11, 14] [(12, .agg #[.int .u64 a.hi, .int .u64 a.lo, .int .u64 a.w])] ?_
      refine od_ ?_
      exact wk (hmx3 γ353 trivial) [4, 11, 12, 14] [[_], [_], [_]] [0, 1, 2] rfl rfl
     ·
      refine qo0 1 [(6, .go (owns 1 0 3))] [3, 11, 14] [(13, .agg #[.int .u64 t.hi, .int .u64 t.lo, .int .u64 t.w])] ?_
      refine od_ ?_
      exact wk (hmx4 γ353 trivial) [3, 11, 13, 14] [[_], [_], [_]] [0, 1, 2] rfl rfl
    refine any_cutX (V := (Nat → Nat)) (fun γ353 => True) 10 #[true, true, true, false, false, false, false, false, false, false, false, false, false] (fun γ353 => [(2, .int .u64 s), (3, .pointer (some ⟨γ1 0, 0, none⟩)), (4, .pointer (some ⟨γ1 1, 0, none⟩)), (9, .slice (some ⟨γ353 0, 0, none⟩) 2 2)]) (fun γ353 => [bx (γ353 0) (#[.int .u64 a.hi, .int .u64 a.lo, .int .u64 a.w, .int .u64 t.hi, .int .u64 t.lo, .int .u64 t.w]) 33, bx (γ1 1) (#[.int .u64 t.hi, .int .u64 t.lo, .int .u64 t.w]) 33, bx (γ1 0) (#[.int .u64 a.hi, .int .u64 a.lo, .int .u64 a.w]) 33]) ?_ (fun hmx1 => ?_)
    ·
     rintro γ353 _
     refine a1 3 rfl ?_
     refine cD (.bool true) Try.call39 (fun w hw => by have := right_t (some ⟨γ353 0, 0, none⟩) 2 2 [a, t] w (sv_row (hw.row 0 rfl) rfl) rfl (by decide); rw [all2, q2] at this; exact this) ?_
     refine od_ ?_
     refine tk (m := 7) [4, 7] [] [3, 4] [(11, .bool true), (14, .int .u64 s)] ([]) #[true, true, true, true, true, false, false, true, false, false, false, false, false] al0 ?_
     exact wk (hmx2 γ353 trivial) [3, 4, 11, 14] [[_], [_], [_]] [0, 1, 2] rfl rfl
    refine a1 2 rfl ?_
    refine mo0 1 [] [2, 3, 4] (fun γ353 => [(9, .slice (some ⟨γ353 0, 0, none⟩) 2 2)]) (fun γ353 L => bx (γ353 0) (#[.int .u64 a.hi, .int .u64 a.lo, .int .u64 a.w, .int .u64 t.hi, .int .u64 t.lo, .int .u64 t.w]) 33 :: L) (fun γ353 => ?_)
    refine od_ ?_
    exact wk (hmx1 γ353 trivial) [2, 3, 4, 9] [[_], [_], [_]] [0, 1, 2] rfl rfl
   rintro γ353 _
   refine any_nil (by kernel_rfl) ?_
   refine ds_ (rt ([]) (.bool true) ?_)
   exact fun w' hw => ⟨by rw [beh_yes q2, decide_eq_true (by omega)], hw.below⟩
  ·
   refine at_calmTo (f := 11) 2 rfl (by kernel_rfl) (by kernel_rfl) (by kernel_rfl) (by kernel_rfl) (by kernel_rfl) (by kernel_rfl) ?_
   refine cm 2 [(0, .go (owns 1 0 3)), (1, .go (owns 0 0 3))] [2, 3, 4] [(7, .agg #[.int .u64 a.hi, .int .u64 a.lo, .int .u64 a.w]), (8, .agg #[.int .u64 t.hi, .int .u64 t.lo, .int .u64 t.w])] ([]) (by kernel_rfl) rfl al0 ?_
   refine calm_nil' ?_
   refine done_pre (li' := #[true, true, false, false, false, false, false, false, false, false, false, false, false]) (by kernel_rfl) ?_
   refine any_cutX (V := (Nat → Nat)) (fun γ659 => True) 0 #[true, true, true, true, true, true, true, true, true, true, true, true, true] (fun γ659 => [(6, .bool false)]) (fun γ659 => [bx (γ659 0) (#[.int .u64 a.hi, .int .u64 a.lo, .int .u64 a.w, .int .u64 t.hi, .int .u64 t.lo, .int .u64 t.w]) 33, bx (γ1 1) (#[.int .u64 t.hi, .int .u64 t.lo, .int .u64 t.w]) 33, bx (γ1 0) (#[.int .u64 a.hi, .int .u64 a.lo, .int .u64 a.w]) 33]) ?_ (fun hmx8 => ?_)
   rotate_left
   ·
    refine any_cutX (V := (Nat → Nat)) (fun γ659 => True) 4 #[true, true, true, true, true, true, true, true, true, false, false, false, false] (fun γ659 => [(11, .bool true), (12, .agg #[.int .u64 a.hi, .int .u64 a.lo, .int .u64 a.w]), (15, .agg #[.int .u64 ((floorV t s).hi), .int .u64 ((floorV t s).lo), .int .u64 ((floorV t s).w)])]) (fun γ659 => [bx (γ659 0) (#[.int .u64 a.hi, .int .u64 a.lo, .int .u64 a.w, .int .u64 t.hi, .int .u64 t.lo, .int .u64 t.w]) 33, bx (γ1 1) (#[.int .u64 t.hi, .int .u64 t.lo, .int .u64 t.w]) 33, bx (γ1 0) (#[.int .u64 a.hi, .int .u64 a.lo, .int .u64 a.w]) 33]) ?_ (fun hmx7 => ?_)
    ·
     rintro γ659 _
     refine a1 9 rfl ?_
     refine cD (.int .i64 (cmpF a (floorV t s))) Try.call13 (fun w hw => fcmp_t a (floorV t s) w hU (floor_U hV (and_r q2) hs0)) ?_
     refine od_ ?_
     refine tk (m := 0) [10, 11, 12] [(10, .no)] [] [(6, .bool false)] ([¬ (((cmpF a (floorV t s)) : Int) < (0 : Int))]) #[true, true, true, true, true, true, true, true, true, true, true, true, true] (al1 q309) ?_
     exact wk (hmx8 γ659 trivial) [6] [[_], [_], [_]] [0, 1, 2] rfl rfl
    refine any_cutX (V := (Nat → Nat)) (fun γ659 => True) 5 #[true, true, true, true, true, false, true, true, true, false, false, false, false] (fun γ659 => [(3, .pointer (some ⟨γ1 0, 0, none⟩)), (11, .bool true), (15, .agg #[.int .u64 ((floorV t s).hi), .int .u64 ((floorV t s).lo), .int .u64 ((floorV t s).w)])]) (fun γ659 => [bx (γ659 0) (#[.int .u64 a.hi, .int .u64 a.lo, .int .u64 a.w, .int .u64 t.hi, .int .u64 t.lo, .int .u64 t.w]) 33, bx (γ1 1) (#[.int .u64 t.hi, .int .u64 t.lo, .int .u64 t.w]) 33, bx (γ1 0) (#[.int .u64 a.hi, .int .u64 a.lo, .int .u64 a.w]) 33]) ?_ (fun hmx6 => ?_)
    ·
     rintro γ659 _
     refine a1 5 rfl ?_
     refine qo0 1 [(5, .go (owns 2 0 3))] [11, 15] [(12, .agg #[.int .u64 a.hi, .int .u64 a.lo, .int .u64 a.w])] ?_
     refine od_ ?_
     exact wk (hmx7 γ659 trivial) [11, 12, 15] [[_], [_], [_]] [0, 1, 2] rfl rfl
    refine any_cutX (V := (Nat → Nat)) (fun γ659 => True) 5 #[true, true, true, true, true, true, true, true, false, false, false, false, false] (fun γ659 => [(11, .bool true), (12, .agg #[.int .u64 a.hi, .int .u64 a.lo, .int .u64 a.w]), (13, .agg #[.int .u64 t.hi, .int .u64 t.lo, .int .u64 t.w]), (14, .int .u64 s)]) (fun γ659 => [bx (γ659 0) (#[.int .u64 a.hi, .int .u64 a.lo, .int .u64 a.w, .int .u64 t.hi, .int .u64 t.lo, .int .u64 t.w]) 33, bx (γ1 1) (#[.int .u64 t.hi, .int .u64 t.lo, .int .u64 t.w]) 33, bx (γ1 0) (#[.int .u64 a.hi, .int .u64 a.lo, .int .u64 a.w]) 33]) ?_ (fun hmx5 => ?_)
    ·
     rintro γ659 _
     refine a1 8 rfl ?_
     refine cD (.agg #[.int .u64 ((floorV t s).hi), .int .u64 ((floorV t s).lo), .int .u64 ((floorV t s).w)]) Try.call65 (fun w hw => floor_t t s w hV hs0 hs1) ?_
     refine od_ ?_
     exact wk (hmx7 γ659 trivial) [11, 12, 15] [[_], [_], [_]] [0, 1, 2] rfl rfl
    refine any_cutX (V := (Nat → Nat)) (fun γ659 => True) 6 #[true, true, true, true, true, false, true, true, false, false, false, false, false] (fun γ659 => [(3, .pointer (some ⟨γ1 0, 0, none⟩)), (11, .bool true), (13, .agg #[.int .u64 t.hi, .int .u64 t.lo, .int .u64 t.w]), (14, .int .u64 s)]) (fun γ659 => [bx (γ659 0) (#[.int .u64 a.hi, .int .u64 a.lo, .int .u64 a.w, .int .u64 t.hi, .int .u64 t.lo, .int .u64 t.w]) 33, bx (γ1 1) (#[.int .u64 t.hi, .int .u64 t.lo, .int .u64 t.w]) 33, bx (γ1 0) (#[.int .u64 a.hi, .int .u64 a.lo, .int .u64 a.w]) 33]) ?_ (fun hmx4 => ?_)
    ·
     rintro γ659 _
     refine any_fork [5, 8] (by kernel_rfl) (by simp) (each_cons _ rfl ?_ (each_cons _ rfl ?_ (each_nil)))
     ·
      refine qo0 1 [(5, .go (owns 2 0 3))] [11, 13, 14] [(12, .agg #[.int .u64 a.hi, .int .u64 a.lo, .int .u64 a.w])] ?_
      refine od_ ?_
      exact wk (hmx5 γ659 trivial) [11, 12, 13, 14] [[_], [_], [_]] [0, 1, 2] rfl rfl
     ·
      refine cD (.agg #[.int .u64 ((floorV t s).hi), .int .u64 ((floorV t s).lo), .int .u64 ((floorV t s).w)]) Try.call65 (fun w hw => floor_t t s w hV hs0 hs1) ?_
      refine od_ ?_
      exact wk (hmx6 γ659 trivial) [3, 11, 15] [[_], [_], [_]] [0, 1, 2] rfl rfl
    refine any_cutX (V := (Nat → Nat)) (fun γ659 => True) 6 #[true, true, true, true, true, true, false, true, false, false, false, false, false] (fun γ659 => [(4, .pointer (some ⟨γ1 1, 0, none⟩)), (11, .bool true), (12, .agg #[.int .u64 a.hi, .int .u64 a.lo, .int .u64 a.w]), (14, .int .u64 s)]) (fun γ659 => [bx (γ659 0) (#[.int .u64 a.hi, .int .u64 a.lo, .int .u64 a.w, .int .u64 t.hi, .int .u64 t.lo, .int .u64 t.w]) 33, bx (γ1 1) (#[.int .u64 t.hi, .int .u64 t.lo, .int .u64 t.w]) 33, bx (γ1 0) (#[.int .u64 a.hi, .int .u64 a.lo, .int .u64 a.w]) 33]) ?_ (fun hmx3 => ?_)
    ·
     rintro γ659 _
     refine a1 6 rfl ?_
     refine qo0 1 [(6, .go (owns 1 0 3))] [11, 12, 14] [(13, .agg #[.int .u64 t.hi, .int .u64 t.lo, .int .u64 t.w])] ?_
     refine od_ ?_
     exact wk (hmx5 γ659 trivial) [11, 12, 13, 14] [[_], [_], [_]] [0, 1, 2] rfl rfl
    refine any_cutX (V := (Nat → Nat)) (fun γ659 => True) 7 #[true, true, true, true, true, false, false, true, false, false, false, false, false] (fun γ659 => [(3, .pointer (some ⟨γ1 0, 0, none⟩)), (4, .pointer (some ⟨γ1 1, 0, none⟩)), (11, .bool true), (14, .int .u64 s)]) (fun γ659 => [bx (γ659 0) (#[.int .u64 a.hi, .int .u64 a.lo, .int .u64 a.w, .int .u64 t.hi, .int .u64 t.lo, .int .u64 t.w]) 33, bx (γ1 1) (#[.int .u64 t.hi, .int .u64 t.lo, .int .u64 t.w]) 33, bx (γ1 0) (#[.int .u64 a.hi, .int .u64 a.lo, .int .u64 a.w]) 33]) ?_ (fun hmx2 => ?_)
    ·
     rintro γ659 _
     refine any_fork [5, 6] (by kernel_rfl) (by simp) (each_cons _ rfl ?_ (each_cons _ rfl ?_ (each_nil)))
     ·
      refine qo0 1 [(5, .go (owns 2 0 3))] [4, 11, 14] [(12, .agg #[.int .u64 a.hi, .int .u64 a.lo, .int .u64 a.w])] ?_
      refine od_ ?_
      exact wk (hmx3 γ659 trivial) [4, 11, 12, 14] [[_], [_], [_]] [0, 1, 2] rfl rfl
     ·
      refine qo0 1 [(6, .go (owns 1 0 3))] [3, 11, 14] [(13, .agg #[.int .u64 t.hi, .int .u64 t.lo, .int .u64 t.w])] ?_
      refine od_ ?_
      exact wk (hmx4 γ659 trivial) [3, 11, 13, 14] [[_], [_], [_]] [0, 1, 2] rfl rfl
    refine any_cutX (V := (Nat → Nat)) (fun γ659 => True) 10 #[true, true, true, false, false, false, false, false, false, false, false, false, false] (fun γ659 => [(2, .int .u64 s), (3, .pointer (some ⟨γ1 0, 0, none⟩)), (4, .pointer (some ⟨γ1 1, 0, none⟩)), (9, .slice (some ⟨γ659 0, 0, none⟩) 2 2)]) (fun γ659 => [bx (γ659 0) (#[.int .u64 a.hi, .int .u64 a.lo, .int .u64 a.w, .int .u64 t.hi, .int .u64 t.lo, .int .u64 t.w]) 33, bx (γ1 1) (#[.int .u64 t.hi, .int .u64 t.lo, .int .u64 t.w]) 33, bx (γ1 0) (#[.int .u64 a.hi, .int .u64 a.lo, .int .u64 a.w]) 33]) ?_ (fun hmx1 => ?_)
    ·
     rintro γ659 _
     refine a1 3 rfl ?_
     refine cD (.bool true) Try.call39 (fun w hw => by have := right_t (some ⟨γ659 0, 0, none⟩) 2 2 [a, t] w (sv_row (hw.row 0 rfl) rfl) rfl (by decide); rw [all2, q2] at this; exact this) ?_
     refine od_ ?_
     refine tk (m := 7) [4, 7] [] [3, 4] [(11, .bool true), (14, .int .u64 s)] ([]) #[true, true, true, true, true, false, false, true, false, false, false, false, false] al0 ?_
     exact wk (hmx2 γ659 trivial) [3, 4, 11, 14] [[_], [_], [_]] [0, 1, 2] rfl rfl
    refine a1 2 rfl ?_
    refine mo0 1 [] [2, 3, 4] (fun γ659 => [(9, .slice (some ⟨γ659 0, 0, none⟩) 2 2)]) (fun γ659 L => bx (γ659 0) (#[.int .u64 a.hi, .int .u64 a.lo, .int .u64 a.w, .int .u64 t.hi, .int .u64 t.lo, .int .u64 t.w]) 33 :: L) (fun γ659 => ?_)
    refine od_ ?_
    exact wk (hmx1 γ659 trivial) [2, 3, 4, 9] [[_], [_], [_]] [0, 1, 2] rfl rfl
   rintro γ659 _
   refine any_nil (by kernel_rfl) ?_
   refine ds_ (rt ([]) (.bool false) ?_)
   exact fun w' hw => ⟨by rw [beh_yes q2, decide_eq_false (by omega)], hw.below⟩

set_option maxRecDepth 100000 in
theorem fraise_t (a t : Fq) (s : Int) (w : World)
 (hU : a.U) (hV : t.U) (hs0 : 0 ≤ s) (hs1 : s < 18446744073709551616)
 : Calls Try.prog 64 #[.agg #[.int .u64 a.hi, .int .u64 a.lo, .int .u64 a.w], .agg #[.int .u64 t.hi, .int .u64 t.lo, .int .u64 t.w], .int .u64 s] w fun e w' => e = .returned (.tuple #[.agg #[.int .u64 (raiseV a t s).1.hi, .int .u64 (raiseV a t s).1.lo, .int .u64 (raiseV a t s).1.w], .int .i64 (raiseV a t s).2]) ∧ Below w.heap.size w w' := by
 refine enter (Hs.start w) Try.func64 rfl Try.ntmps64 rfl (sq_ (ma0 [] [2] (fun γ1 => [(3, .pointer (some ⟨γ1 0, 0, none⟩)), (4, .pointer (some ⟨γ1 1, 0, none⟩)), (6, .pointer (some ⟨γ1 2, 0, none⟩))]) (fun γ1 L => bx (γ1 2) (#[.int .u64 0, .int .u64 0, .int .u64 0]) 33 :: bx (γ1 1) (#[.int .u64 t.hi, .int .u64 t.lo, .int .u64 t.w]) 33 :: bx (γ1 0) (#[.int .u64 a.hi, .int .u64 a.lo, .int .u64 a.w]) 33 :: L) (fun γ1 => ds_ (sq_ (at_block (sq_ (ao_ (mo0 3 [(0, .go (owns 2 0 3)), (1, .go (owns 1 0 3))] [2, 3, 4, 6] (fun γ2 => [(11, .slice (some ⟨γ2 0, 0, none⟩) 2 2)]) (fun γ2 L => bx (γ2 0) (#[.int .u64 a.hi, .int .u64 a.lo, .int .u64 a.w, .int .u64 t.hi, .int .u64 t.lo, .int .u64 t.w]) 33 :: L) (fun γ2 => ?_)))))))))
 rcases q3 : (a.ok && t.ok) with _ | _
 ·
  refine cD (.bool false) Try.call39 (fun w hw => by have := right_t (some ⟨γ2 0, 0, none⟩) 2 2 [a, t] w (sv_row (hw.row 0 rfl) rfl) rfl (by decide); rw [all2, q3] at this; exact this) (qo0 2 [] [2, 3, 4, 6] [(8, .bool true)] (on_ (ds_ (t_ (sq_ (qa0 [(1, .go (owns 1 0 3))] [6] [(7, .int .i64 150)] (ds_ (rt (owns 1 0 3) (.tuple #[.agg #[.int .u64 0, .int .u64 0, .int .u64 0], .int .i64 150]) ?_))))))))
  exact fun w' hw => ⟨by rw [raise_no q3], hw.below⟩
 ·
  refine cD (.bool true) Try.call39 (fun w hw => by have := right_t (some ⟨γ2 0, 0, none⟩) 2 2 [a, t] w (sv_row (hw.row 0 rfl) rfl) rfl (by decide); rw [all2, q3] at this; exact this) (qo0 2 [] [2, 3, 4, 6] [(8, .bool false)] (on_ (ds_ (f_ (sq_ (ao_ (qo0 3 [(0, .go (owns 3 0 3)), (1, .go (owns 2 0 3))] [2, 3, 4, 6] [(16, .agg #[.int .u64 a.hi, .int .u64 a.lo, .int .u64 a.w]), (17, .agg #[.int .u64 t.hi, .int .u64 t.lo, .int .u64 t.w]), (18, .int .u64 s)] ?_)))))))
  rcases q8 : behV a t s with _ | _
  ·
   refine cD (.bool false) Try.call30 (fun w hw => by have := fbeh_t a t s w hU hV hs0 hs1; rw [q8] at this; exact this) (qo0 2 [] [2, 3, 4, 6] [(15, .bool true)] (on_ (ds_ (t_ (sq_ (ma0 [(0, .go (owns 3 0 3)), (1, .go (owns 1 0 3))] [6] (fun _ => [(7, .int .i64 0)]) (fun _ L => (L.set 1 (bx (γ1 2) (#[.int .u64 a.hi, .int .u64 a.lo, .int .u64 a.w]) 33))) (fun _ => ds_ (rt (owns 1 0 3) (.tuple #[.agg #[.int .u64 a.hi, .int .u64 a.lo, .int .u64 a.w], .int .i64 0]) ?_))))))))
   exact fun w' hw => ⟨by rw [raise_same q3 q8], hw.below⟩
  ·
   refine cD (.bool true) Try.call30 (fun w hw => by have := fbeh_t a t s w hU hV hs0 hs1; rw [q8] at this; exact this) (qo0 2 [] [2, 3, 4, 6] [(15, .bool false)] (on_ (ds_ (f_ (at_skip (done_block (ds_ (sq_ (at_calmTo (f := 2) 8 rfl (by kernel_rfl) (by kernel_rfl) (by kernel_rfl) (by kernel_rfl) (by kernel_rfl) (by kernel_rfl) ?_)))))))))
   refine cm 2 [(0, .go (owns 2 0 3))] [3, 6] [(22, .agg #[.int .u64 t.hi, .int .u64 t.lo, .int .u64 t.w]), (23, .int .u64 s)] ([]) (by kernel_rfl) rfl al0 ?_
   refine cK (.agg #[.int .u64 ((floorV t s).hi), .int .u64 ((floorV t s).lo), .int .u64 ((floorV t s).w)]) Try.call65 (fun w hw => floor_t t s w hV hs0 hs1) ?_
   refine cm 2 [(4, .go (owns 3 2 1))] [6, 24] [(26, .int .u64 a.w)] ([]) (by kernel_rfl) rfl al0 ?_
   refine cK (.tuple #[.agg #[.int .u64 ((overV (floorV t s) a.w).1.hi), .int .u64 ((overV (floorV t s) a.w).1.lo), .int .u64 ((overV (floorV t s) a.w).1.w)], .int .i64 ((overV (floorV t s) a.w).2)]) Try.call38 (fun w hw => fover_t (floorV t s) a.w w (floor_U hV (and_r q3) hs0)) ?_
   refine cm 2 [] [6] [(28, .agg #[.int .u64 ((overV (floorV t s) a.w).1.hi), .int .u64 ((overV (floorV t s) a.w).1.lo), .int .u64 ((overV (floorV t s) a.w).1.w)]), (29, .int .i64 ((overV (floorV t s) a.w).2))] ([]) (by kernel_rfl) rfl al0 ?_
   refine calm_nil' ?_
   refine done_pre (li' := #[true, true, true, true, true, true, true, true, false, false]) (by kernel_rfl) ?_
   refine any_cutX (V := Unit) (fun _ => True) 0 #[true, true, true, true, true, true, true, true, true, true] (fun _ => [(6, .pointer (some ⟨γ1 2, 0, none⟩)), (7, .int .i64 ((overV (floorV t s) a.w).2))]) (fun _ => [bx (γ2 0) (#[.int .u64 a.hi, .int .u64 a.lo, .int .u64 a.w, .int .u64 t.hi, .int .u64 t.lo, .int .u64 t.w]) 33, bx (γ1 2) (#[.int .u64 ((overV (floorV t s) a.w).1.hi), .int .u64 ((overV (floorV t s) a.w).1.lo), .int .u64 ((overV (floorV t s) a.w).1.w)]) 33, bx (γ1 1) (#[.int .u64 t.hi, .int .u64 t.lo, .int .u64 t.w]) 33, bx (γ1 0) (#[.int .u64 a.hi, .int .u64 a.lo, .int .u64 a.w]) 33]) ?_ (fun hmx1 => ?_)
   rotate_left
   ·
    refine a1 8 rfl ?_
    refine mo0 1 [(8, .go (owns 1 0 3))] [6, 29] (fun _ => []) (fun _ L => (L.set 1 (bx (γ1 2) (#[.int .u64 ((overV (floorV t s) a.w).1.hi), .int .u64 ((overV (floorV t s) a.w).1.lo), .int .u64 ((overV (floorV t s) a.w).1.w)]) 33))) (fun _ => ?_)
    refine od_ ?_
    refine tk (m := 0) [9] [] [6] [(7, .int .i64 ((overV (floorV t s) a.w).2))] ([]) #[true, true, true, true, true, true, true, true, true, true] al0 ?_
    exact wk (hmx1 () trivial) [6, 7] [[_], [_], [_], [_]] [0, 1, 2, 3] rfl rfl
   rintro _ _
   refine any_nil (by kernel_rfl) ?_
   refine ds_ (rt (owns 1 0 3) (.tuple #[.agg #[.int .u64 ((overV (floorV t s) a.w).1.hi), .int .u64 ((overV (floorV t s) a.w).1.lo), .int .u64 ((overV (floorV t s) a.w).1.w)], .int .i64 ((overV (floorV t s) a.w).2)]) ?_)
   exact fun w' hw => ⟨by rw [raise_up q3 q8], hw.below⟩
end Go.Proofs.Ytnhkecfapohlgaa

/-! Queues: which may be; which are one. -/
namespace Go.Proofs.Ytnhkecfapohlgaa
open Go Go.RowKit
section
variable {P : Program} {ρ : Operand → Value} {T U : TypeId} {x y : Operand} {a b : Int} {o : Oper}
theorem run_subW (v : Int) (ho : o.op = .binOp .sub T x y U) (hx : ρ x = .int .i64 a) (hy : ρ y = .int .i64 b) (hv : subW a b = v) (w : World) : (execOp ρ o).run P w = .ok (.value (.int .i64 v)) w := by
 have g : (eqGuard .sub T x y (.int .i64 a) (.int .i64 b)) = (pure () : Sem Unit) := by unfold eqGuard; simp
 unfold execOp
 simp only [ho, hx, hy, g]
 subst hv
 simp [binOp, Op.intArith, subW]
end
theorem rn_eqRun (op : BinOp) (hop : op = .eql ∨ op = .neq) (x y : Operand) (a b : Rn) (r : Bool) (hr : r = (if op = .eql then decide (a = b) else !decide (a = b))) : EqRun Try.prog op 35 x y (.agg #[.int .i64 a.id, .int .i64 a.each, .int .u64 a.th, .int .u64 a.tl, .int .u64 a.tw]) (.agg #[.int .i64 b.id, .int .i64 b.each, .int .u64 b.th, .int .u64 b.tl, .int .u64 b.tw]) r := by
 intro w
 subst hr
 have hS : Try.prog.underlying 35 = some (.struct (Try.prog.fieldsOf 35)) := by kernel_rfl
 have hp : Try.prog.stoodInHeld 35 = false := by kernel_rfl
 have hg : Try.prog.eqGuardType Try.prog.depth 35 = false := by kernel_rfl
 have key : (Op.equal 35 (.agg #[.int .i64 a.id, .int .i64 a.each, .int .u64 a.th, .int .u64 a.tl, .int .u64 a.tw]) (.agg #[.int .i64 b.id, .int .i64 b.each, .int .u64 b.th, .int .u64 b.tl, .int .u64 b.tw])).run Try.prog w = .ok (decide (a = b)) w := by
  unfold Op.equal
  rw [show Op.maxDepth = 9999 + 1 from rfl, run_equalIn_struct w 9999 35 _ _ hS hp]
  simp only [Program.fieldsOf, Try.underlying35]
  go_simp
  obtain ⟨a0, a1, a2, a3, a4⟩ := a
  obtain ⟨b0, b1, b2, b3, b4⟩ := b
  simp only [Rn.mk.injEq]
  by_cases h0 : a0 = b0 <;> by_cases h1 : a1 = b1 <;> by_cases h2 : a2 = b2 <;> by_cases h3 : a3 = b3 <;> by_cases h4 : a4 = b4 <;> simp [h0, h1, h2, h3, h4]
 have guard : (eqGuard op 35 x y (.agg #[.int .i64 a.id, .int .i64 a.each, .int .u64 a.th, .int .u64 a.tl, .int .u64 a.tw]) (.agg #[.int .i64 b.id, .int .i64 b.each, .int .u64 b.th, .int .u64 b.tl, .int .u64 b.tw])).run Try.prog w = .ok () w := by
  unfold eqGuard
  rcases hop with rfl | rfl <;> simp [hg]
 rw [Sem.run_bind, guard]
 simp only [Result.andThen_ok]
 rcases hop with rfl | rfl <;> simp [binOp, Sem.run_bind, key]
theorem rn_ne_t {x y : Operand} {a b : Rn} (h : a = b) : EqRun Try.prog .neq 35 x y (.agg #[.int .i64 a.id, .int .i64 a.each, .int .u64 a.th, .int .u64 a.tl, .int .u64 a.tw]) (.agg #[.int .i64 b.id, .int .i64 b.each, .int .u64 b.th, .int .u64 b.tl, .int .u64 b.tw]) false := rn_eqRun _ (.inr rfl) x y a b _ (by simp [h])
theorem rn_ne_f {x y : Operand} {a b : Rn} (h : ¬ a = b) : EqRun Try.prog .neq 35 x y (.agg #[.int .i64 a.id, .int .i64 a.each, .int .u64 a.th, .int .u64 a.tl, .int .u64 a.tw]) (.agg #[.int .i64 b.id, .int .i64 b.each, .int .u64 b.th, .int .u64 b.tl, .int .u64 b.tw]) true := rn_eqRun _ (.inr rfl) x y a b _ (by simp [h])
theorem fq_eqRun (op : BinOp) (hop : op = .eql ∨ op = .neq) (x y : Operand) (a b : Fq) (r : Bool) (hr : r = (if op = .eql then decide (a = b) else !decide (a = b))) : EqRun Try.prog op 33 x y (.agg #[.int .u64 a.hi, .int .u64 a.lo, .int .u64 a.w]) (.agg #[.int .u64 b.hi, .int .u64 b.lo, .int .u64 b.w]) r := by
 intro w
 subst hr
 have hS : Try.prog.underlying 33 = some (.struct (Try.prog.fieldsOf 33)) := by kernel_rfl
 have hp : Try.prog.stoodInHeld 33 = false := by kernel_rfl
 have hg : Try.prog.eqGuardType Try.prog.depth 33 = false := by kernel_rfl
 have key : (Op.equal 33 (.agg #[.int .u64 a.hi, .int .u64 a.lo, .int .u64 a.w]) (.agg #[.int .u64 b.hi, .int .u64 b.lo, .int .u64 b.w])).run Try.prog w = .ok (decide (a = b)) w := by
  unfold Op.equal
  rw [show Op.maxDepth = 9999 + 1 from rfl, run_equalIn_struct w 9999 33 _ _ hS hp]
  simp only [Program.fieldsOf, Try.underlying33]
  go_simp
  obtain ⟨a0, a1, a2⟩ := a
  obtain ⟨b0, b1, b2⟩ := b
  simp only [Fq.mk.injEq]
  by_cases h0 : a0 = b0 <;> by_cases h1 : a1 = b1 <;> by_cases h2 : a2 = b2 <;> simp [h0, h1, h2]
 have guard : (eqGuard op 33 x y (.agg #[.int .u64 a.hi, .int .u64 a.lo, .int .u64 a.w]) (.agg #[.int .u64 b.hi, .int .u64 b.lo, .int .u64 b.w])).run Try.prog w = .ok () w := by
  unfold eqGuard
  rcases hop with rfl | rfl <;> simp [hg]
 rw [Sem.run_bind, guard]
 simp only [Result.andThen_ok]
 rcases hop with rfl | rfl <;> simp [binOp, Sem.run_bind, key]
theorem fq_eq_t {x y : Operand} {a b : Fq} (h : a = b) : EqRun Try.prog .eql 33 x y (.agg #[.int .u64 a.hi, .int .u64 a.lo, .int .u64 a.w]) (.agg #[.int .u64 b.hi, .int .u64 b.lo, .int .u64 b.w]) true := fq_eqRun _ (.inl rfl) x y a b _ (by simp [h])
theorem fq_ne_t {x y : Operand} {a b : Fq} (h : a = b) : EqRun Try.prog .neq 33 x y (.agg #[.int .u64 a.hi, .int .u64 a.lo, .int .u64 a.w]) (.agg #[.int .u64 b.hi, .int .u64 b.lo, .int .u64 b.w]) false := fq_eqRun _ (.inr rfl) x y a b _ (by simp [h])
set_option maxRecDepth 100000 in
theorem id_t (k : Int) (w : World)
 : Calls Try.prog 52 #[.int .i64 k] w fun e w' => e = .returned (.bool (idV k)) ∧ Below w.heap.size w w' := by
 refine enter (Hs.start w) Try.func52 rfl Try.ntmps52 rfl (sq_ (qa0 [] [0] [] (ds_ (sq_ ?_))))
 by_cases q3 : (k : Int) ≥ (1 : Int)
 ·
  by_cases q5 : (k : Int) ≤ (16 : Int)
  ·
   refine qa [(1, .yes), (4, .yes)] [] [(2, .bool true)] ([(k : Int) ≥ (1 : Int)] ++ ([(k : Int) ≤ (16 : Int)])) (alA (al1 q3) (al1 q5)) (ds_ (rt ([]) (.bool true) ?_))
   exact fun w' hw => ⟨by rw [show idV k = true from by simp only [idV, decide_eq_true_eq]; omega], hw.below⟩
  ·
   refine qa [(1, .yes), (4, .no)] [] [(2, .bool false)] ([(k : Int) ≥ (1 : Int)] ++ ([¬ ((k : Int) ≤ (16 : Int))])) (alA (al1 q3) (al1 q5)) (ds_ (rt ([]) (.bool false) ?_))
   exact fun w' hw => ⟨by rw [show idV k = false from by simp only [idV, decide_eq_false_iff_not]; omega], hw.below⟩
 ·
  refine qa [(1, .no)] [] [(2, .bool false)] ([¬ ((k : Int) ≥ (1 : Int))]) (al1 q3) (ds_ (rt ([]) (.bool false) ?_))
  exact fun w' hw => ⟨by rw [show idV k = false from by simp only [idV, decide_eq_false_iff_not]; omega], hw.below⟩

set_option maxRecDepth 100000 in
theorem each_t (k : Int) (w : World)
 : Calls Try.prog 35 #[.int .i64 k] w fun e w' => e = .returned (.bool (eachV k)) ∧ Below w.heap.size w w' := by
 refine enter (Hs.start w) Try.func35 rfl Try.ntmps35 rfl (sq_ (qa0 [] [0] [] (ds_ (sq_ ?_))))
 by_cases q3 : (k : Int) ≥ (1 : Int)
 ·
  by_cases q5 : (k : Int) ≤ (8 : Int)
  ·
   refine qa [(1, .yes), (4, .yes)] [] [(2, .bool true)] ([(k : Int) ≥ (1 : Int)] ++ ([(k : Int) ≤ (8 : Int)])) (alA (al1 q3) (al1 q5)) (ds_ (rt ([]) (.bool true) ?_))
   exact fun w' hw => ⟨by rw [show eachV k = true from by simp only [eachV, decide_eq_true_eq]; omega], hw.below⟩
  ·
   refine qa [(1, .yes), (4, .no)] [] [(2, .bool false)] ([(k : Int) ≥ (1 : Int)] ++ ([¬ ((k : Int) ≤ (8 : Int))])) (alA (al1 q3) (al1 q5)) (ds_ (rt ([]) (.bool false) ?_))
   exact fun w' hw => ⟨by rw [show eachV k = false from by simp only [eachV, decide_eq_false_iff_not]; omega], hw.below⟩
 ·
  refine qa [(1, .no)] [] [(2, .bool false)] ([¬ ((k : Int) ≥ (1 : Int))]) (al1 q3) (ds_ (rt ([]) (.bool false) ?_))
  exact fun w' hw => ⟨by rw [show eachV k = false from by simp only [eachV, decide_eq_false_iff_not]; omega], hw.below⟩

set_option maxRecDepth 100000 in
theorem crun_t (r : Rn) (w : World)
 : Calls Try.prog 25 #[.agg #[.int .i64 r.id, .int .i64 r.each, .int .u64 r.th, .int .u64 r.tl, .int .u64 r.tw]] w fun e w' => e = .returned (.int .i64 (if rnB r = true then 0 else 2)) ∧ Below w.heap.size w w' := by
 refine enter (Hs.start w) Try.func25 rfl Try.ntmps25 rfl (sq_ (ma0 [] [] (fun γ1 => [(1, .pointer (some ⟨γ1 0, 0, none⟩))]) (fun γ1 L => bx (γ1 0) (#[.int .i64 r.id, .int .i64 r.each, .int .u64 r.th, .int .u64 r.tl, .int .u64 r.tw]) 35 :: L) (fun γ1 => ds_ (sq_ (sq_ (ao_ (qo0 2 [(1, .go (owns 0 0 1))] [1] [(4, .int .i64 r.id)] ?_)))))))
 rcases q3 : idV r.id with _ | _
 ·
  refine cD (.bool false) Try.call52 (fun w hw => by have := id_t r.id w; rw [q3] at this; exact this) (qo0 13 [] [] [(18, .bool true)] (on_ (ds_ (t_ (sq_ (qa0 [] [] [(2, .int .i64 2)] (ds_ (rt ([]) (.int .i64 2) ?_))))))))
  exact fun w' hw => ⟨by rw [rn_noI q3]; rfl, hw.below⟩
 ·
  refine cD (.bool true) Try.call52 (fun w hw => by have := id_t r.id w; rw [q3] at this; exact this) (qo0 4 [(6, .go (owns 0 1 1))] [1] [(7, .bool false), (9, .int .i64 r.each)] ?_)
  rcases q7 : eachV r.each with _ | _
  ·
   refine cD (.bool false) Try.call35 (fun w hw => by have := each_t r.each w; rw [q7] at this; exact this) (qo0 8 [] [] [(18, .bool true)] (on_ (ds_ (t_ (sq_ (qa0 [] [] [(2, .int .i64 2)] (ds_ (rt ([]) (.int .i64 2) ?_))))))))
   exact fun w' hw => ⟨by rw [rn_noE q7]; rfl, hw.below⟩
  ·
   refine cD (.bool true) Try.call35 (fun w hw => by have := each_t r.each w; rw [q7] at this; exact this) (qo0 5 [(12, .go (owns 0 2 3))] [] [(13, .bool false), (15, .agg #[.int .u64 r.th, .int .u64 r.tl, .int .u64 r.tw])] ?_)
   rcases q11 : r.t.ok with _ | _
   ·
    refine cD (.int .i64 150) Try.call53 (fun w hw => by have := fcheck_t r.t w; rw [q11] at this; exact this) (qo0 2 [] [] [(18, .bool true)] (on_ (ds_ (t_ (sq_ (qa0 [] [] [(2, .int .i64 2)] (ds_ (rt ([]) (.int .i64 2) ?_))))))))
    exact fun w' hw => ⟨by rw [rn_noT q11]; rfl, hw.below⟩
   ·
    refine cD (.int .i64 0) Try.call53 (fun w hw => by have := fcheck_t r.t w; rw [q11] at this; exact this) (qo0 2 [] [] [(18, .bool false)] (on_ (ds_ (f_ (at_skip (ds_ (sq_ (qa0 [] [] [(2, .int .i64 0)] (ds_ (rt ([]) (.int .i64 0) ?_))))))))))
    exact fun w' hw => ⟨by rw [rn_yes q3 q7 q11]; rfl, hw.below⟩

set_option maxRecDepth 100000 in
theorem qcheck_t (p : Option Addr) (n cap : Nat) (ts : List Rn) (w : World)
 (hts : Sv w p ts) (hn : n = ts.length) (hb : n ≤ 1000)
 : Calls Try.prog 20 #[.agg #[.slice p n cap]] w fun e w' => e = .returned (.int .i64 (if chkQ ts = true then 0 else 200)) ∧ Below w.heap.size w w' := by
 refine enter (Hs.start w) Try.func20 rfl Try.ntmps20 rfl (sq_ (ma0 [] [] (fun γ1 => [(1, .pointer (some ⟨γ1 0, 0, none⟩))]) (fun γ1 L => bx (γ1 0) (#[.slice p n cap]) 24 :: L) (fun γ1 => ds_ (sq_ (qa0 [] [1] [(3, .int .i64 0)] (ds_ (sq_ (sq_ (qa0 [(1, .go (owns 0 0 1))] [3] [(7, .slice p n cap), (8, .int .i64 (n : Nat)), (9, .int .i64 0)] (ds_ (at_block (at_loop (α := Nat × Int) [3, 7, 8, 9] (fun ⟨j, la⟩ => [(3, .int .i64 la), (7, .slice p n cap), (8, .int .i64 (n : Nat)), (9, .int .i64 (j : Nat))]) (fun ⟨j, la⟩ => [bx (γ1 0) (#[.slice p n cap]) 24]) (fun ⟨j, la⟩ => j ≤ n ∧ lastI ts j = la ∧ Ris Rn.id (ts.take j) ∧ ∀ y ∈ ts.take j, rnB y = true) (fun ⟨j, la⟩ => n - j) (0, 0) (by kernel_rfl) rfl ⟨Nat.zero_le _, rfl, ris_take0T, all_take0T⟩ ?_))))))))))))
 rintro ⟨j, la⟩
 rintro ⟨hj, hl, hR, hA⟩
 refine sq_ ?_
 by_cases q5 : ((j : Nat) : Int) < ((n : Nat) : Int)
 ·
  refine qa [(0, .yes)] [3, 7, 8, 9] [(10, .bool true)] ([((j : Nat) : Int) < ((n : Nat) : Int)]) (al1 q5) (ds_ (sq_ (t_ (at_skip (ds_ (sq_ (at_block (sq_ ?_))))))))
  obtain ⟨b8, o8, rfl⟩ := hts.pos (i := j) (by omega)
  obtain ⟨x10, hx10⟩ := get_some (l := ts) (m := j) (by omega)
  refine ma [(0, .at b8 o8 j), (1, .go (outs b8 (o8 + j * 5) [.int .i64 x10.id, .int .i64 x10.each, .int .u64 x10.th, .int .u64 x10.tl, .int .u64 x10.tw])), (3, .go (owns 0 0 5))] [3, 7, 8, 9] (fun γ11 => [(5, .pointer (some ⟨γ11 0, 0, none⟩))]) (fun γ11 L => bx (γ11 0) (#[.int .i64 x10.id, .int .i64 x10.each, .int .u64 x10.th, .int .u64 x10.tl, .int .u64 x10.tw]) 35 :: L) (fun γ11 => [(some ⟨b8, o8, none⟩ : Option Addr) = some ⟨b8, o8, none⟩, (j : Nat) = ((j : Nat) : Int), j < n] ++ (cellsP w b8 (o8 + j * 5) [.int .i64 x10.id, .int .i64 x10.each, .int .u64 x10.th, .int .u64 x10.tl, .int .u64 x10.tw])) (fun γ11 => (alA (al2 rfl (al2 rfl (al1 (by omega)))) (rd_pre (hts.get hx10) _ rfl))) (fun γ11 => ds_ (sq_ (sq_ (ao_ (qo0 1 [(0, .go (owns 0 0 5))] [3, 5, 7, 8, 9] [(13, .agg #[.int .i64 x10.id, .int .i64 x10.each, .int .u64 x10.th, .int .u64 x10.tl, .int .u64 x10.tw])] ?_)))))
  rcases q13 : rnB x10 with _ | _
  ·
   refine cD (.int .i64 2) Try.call25 (fun w hw => by have := crun_t x10 w; rw [q13] at this; exact this) (qo0 7 [] [5, 7, 8, 9] [(21, .bool true)] (on_ (ds_ (t_ (sq_ (qa0 [] [] [(2, .int .i64 200)] (ds_ (rt ([]) (.int .i64 200) ?_))))))))
   exact fun w' hw => ⟨by rw [chk_badR hx10 q13]; rfl, hw.below⟩
  ·
   refine cD (.int .i64 0) Try.call25 (fun w hw => by have := crun_t x10 w; rw [q13] at this; exact this) ?_
   by_cases q17 : (x10.id : Int) ≤ (la : Int)
   ·
    refine qo 7 [(5, .go (owns 0 0 1)), (7, .yes)] [5, 7, 8, 9] [(21, .bool true)] ([(x10.id : Int) ≤ (la : Int)]) (al1 q17) (on_ (ds_ (t_ (sq_ (qa0 [] [] [(2, .int .i64 200)] (ds_ (rt ([]) (.int .i64 200) ?_)))))))
    exact fun w' hw => ⟨by rw [chk_badL hx10 hl q13 (by omega)]; rfl, hw.below⟩
   ·
    refine qo 7 [(5, .go (owns 0 0 1)), (7, .no)] [5, 7, 8, 9] [(21, .bool false)] ([¬ ((x10.id : Int) ≤ (la : Int))]) (al1 q17) (on_ (ds_ (f_ (at_skip (ds_ (qa0 [(1, .go (owns 0 0 1))] [7, 8, 9] [(3, .int .i64 x10.id)] (done_block (ds_ (qa [(0, .fit)] [3, 7, 8] [(9, .int .i64 (j + 1 : Nat))] ([Fit .i64 ((j + 1 : Nat))]) (al1 (fit64 (by omega) (by omega))) (Done.drop (L' := [bx (γ1 0) (#[.slice (some ⟨b8, o8, none⟩) n cap]) 24]) ?_ (List.Sublist.cons _ (List.Sublist.cons_cons _ (List.Sublist.refl _)))))))))))))
    exact dr [3, 7, 8, 9] (j + 1, x10.id) ⟨by omega, last_on hx10, ris_onL hR hx10 hl (by omega), all_onT hA hx10 q13⟩
 ·
  refine qa [(0, .no)] [3, 7, 8, 9] [(10, .bool false)] ([¬ (((j : Nat) : Int) < ((n : Nat) : Int))]) (al1 q5) (ds_ (sq_ (f_ (at_leave _ rfl (ds_ (sq_ (qa0 [] [] [(2, .int .i64 0)] (ds_ (rt ([]) (.int .i64 0) ?_)))))))))
  exact fun w' hw => ⟨by rw [chk_good hR hA (by omega)]; rfl, hw.below⟩

set_option maxRecDepth 100000 in
theorem equal_t (p : Option Addr) (n cap : Nat) (ts : List Rn) (p2 : Option Addr) (n2 cap2 : Nat) (ts2 : List Rn) (w : World)
 (hts : Sv w p ts) (hn : n = ts.length) (hb : n ≤ 1000)
 (hts2 : Sv w p2 ts2) (hn2 : n2 = ts2.length) (hb2 : n2 ≤ 1000)
 : Calls Try.prog 46 #[.slice p n cap, .slice p2 n2 cap2] w fun e w' => e = .returned (.bool (decide (ts = ts2))) ∧ Below w.heap.size w w' := by
 refine enter (Hs.start w) Try.func46 rfl Try.ntmps46 rfl (sq_ (qa0 [] [0, 1] [] (ds_ (sq_ (sq_ ?_)))))
 by_cases q3 : ((n : Nat) : Int) ≠ ((n2 : Nat) : Int)
 ·
  refine qa [(4, .yes)] [0, 1] [(10, .bool true)] ([((n : Nat) : Int) ≠ ((n2 : Nat) : Int)]) (al1 q3) (ds_ (t_ (sq_ (qa0 [] [] [(4, .bool false)] (ds_ (rt ([]) (.bool false) ?_))))))
  exact fun w' hw => ⟨by rw [dsame_len (l := ts) (l2 := ts2) (by omega)], hw.below⟩
 ·
  refine qa [(4, .no)] [0, 1] [(10, .bool false)] ([¬ (((n : Nat) : Int) ≠ ((n2 : Nat) : Int))]) (al1 q3) (ds_ (f_ (at_skip (ds_ (sq_ (sq_ (qa0 [] [0, 1] [(12, .int .i64 (n : Nat)), (13, .int .i64 0)] (ds_ (at_block (at_loop (α := Nat) [0, 1, 12, 13] (fun j => [(0, .slice p n cap), (1, .slice p2 n2 cap2), (12, .int .i64 (n : Nat)), (13, .int .i64 (j : Nat))]) (fun j => []) (fun j => j ≤ n ∧ ts.take j = ts2.take j) (fun j => n - j) 0 (by kernel_rfl) rfl ⟨Nat.zero_le _, rfl⟩ ?_))))))))))
  rintro j
  rintro ⟨hj, hI⟩
  refine sq_ ?_
  by_cases q9 : ((j : Nat) : Int) < ((n : Nat) : Int)
  ·
   refine qa [(0, .yes)] [0, 1, 12, 13] [(14, .bool true)] ([((j : Nat) : Int) < ((n : Nat) : Int)]) (al1 q9) (ds_ (sq_ (t_ (at_skip (ds_ (sq_ (at_block (sq_ (qa0 [] [0, 1, 12, 13] [(5, .int .i64 (j : Nat))] (ds_ (sq_ ?_)))))))))))
   obtain ⟨b13, o13, rfl⟩ := hts.pos (i := j) (by omega)
   obtain ⟨x15, hx15⟩ := get_some (l := ts) (m := j) (by omega)
   obtain ⟨b17, o17, rfl⟩ := hts2.pos (i := j) (by omega)
   obtain ⟨x19, hx19⟩ := get_some (l := ts2) (m := j) (by omega)
   by_cases q21 : x15 = x19
   ·
    refine cq [(2, .at b13 o13 j), (3, .go (outs b13 (o13 + j * 5) [.int .i64 x15.id, .int .i64 x15.each, .int .u64 x15.th, .int .u64 x15.tl, .int .u64 x15.tw])), (6, .at b17 o17 j), (7, .go (outs b17 (o17 + j * 5) [.int .i64 x19.id, .int .i64 x19.each, .int .u64 x19.th, .int .u64 x19.tl, .int .u64 x19.tw])), (8, .eqs false)] [0, 1, 12, 13] [(24, .bool false)] ([(some ⟨b13, o13, none⟩ : Option Addr) = some ⟨b13, o13, none⟩, (j : Nat) = ((j : Nat) : Int), j < n] ++ (cellsP w b13 (o13 + j * 5) [.int .i64 x15.id, .int .i64 x15.each, .int .u64 x15.th, .int .u64 x15.tl, .int .u64 x15.tw] ++ ([(some ⟨b17, o17, none⟩ : Option Addr) = some ⟨b17, o17, none⟩, (j : Nat) = ((j : Nat) : Int), j < n2] ++ (cellsP w b17 (o17 + j * 5) [.int .i64 x19.id, .int .i64 x19.each, .int .u64 x19.th, .int .u64 x19.tl, .int .u64 x19.tw] ++ ([EqRun Try.prog .neq 35 (.tmp 19) (.tmp 23) (.agg #[.int .i64 x15.id, .int .i64 x15.each, .int .u64 x15.th, .int .u64 x15.tl, .int .u64 x15.tw]) (.agg #[.int .i64 x19.id, .int .i64 x19.each, .int .u64 x19.th, .int .u64 x19.tl, .int .u64 x19.tw]) false]))))) rfl (by kernel_rfl) (by kernel_rfl) (by kernel_rfl) (alA (al2 rfl (al2 rfl (al1 (by omega)))) (alA (rd_pre (hts.get hx15) _ rfl) (alA (al2 rfl (al2 rfl (al1 (by omega)))) (alA (rd_pre (hts2.get hx19) _ rfl) (al1 (rn_ne_t (a := x15) (b := x19) q21)))))) (ds_ (f_ (at_skip (done_block (ds_ (qa [(0, .fit)] [0, 1, 12] [(13, .int .i64 (j + 1 : Nat))] ([Fit .i64 ((j + 1 : Nat))]) (al1 (fit64 (by omega) (by omega))) ?_))))))
    exact dr [0, 1, 12, 13] (j + 1) ⟨by omega, dsame_on hI hx15 hx19 q21⟩
   ·
    refine cq [(2, .at b13 o13 j), (3, .go (outs b13 (o13 + j * 5) [.int .i64 x15.id, .int .i64 x15.each, .int .u64 x15.th, .int .u64 x15.tl, .int .u64 x15.tw])), (6, .at b17 o17 j), (7, .go (outs b17 (o17 + j * 5) [.int .i64 x19.id, .int .i64 x19.each, .int .u64 x19.th, .int .u64 x19.tl, .int .u64 x19.tw])), (8, .eqs true)] [0, 1, 12, 13] [(24, .bool true)] ([(some ⟨b13, o13, none⟩ : Option Addr) = some ⟨b13, o13, none⟩, (j : Nat) = ((j : Nat) : Int), j < n] ++ (cellsP w b13 (o13 + j * 5) [.int .i64 x15.id, .int .i64 x15.each, .int .u64 x15.th, .int .u64 x15.tl, .int .u64 x15.tw] ++ ([(some ⟨b17, o17, none⟩ : Option Addr) = some ⟨b17, o17, none⟩, (j : Nat) = ((j : Nat) : Int), j < n2] ++ (cellsP w b17 (o17 + j * 5) [.int .i64 x19.id, .int .i64 x19.each, .int .u64 x19.th, .int .u64 x19.tl, .int .u64 x19.tw] ++ ([EqRun Try.prog .neq 35 (.tmp 19) (.tmp 23) (.agg #[.int .i64 x15.id, .int .i64 x15.each, .int .u64 x15.th, .int .u64 x15.tl, .int .u64 x15.tw]) (.agg #[.int .i64 x19.id, .int .i64 x19.each, .int .u64 x19.th, .int .u64 x19.tl, .int .u64 x19.tw]) true]))))) rfl (by kernel_rfl) (by kernel_rfl) (by kernel_rfl) (alA (al2 rfl (al2 rfl (al1 (by omega)))) (alA (rd_pre (hts.get hx15) _ rfl) (alA (al2 rfl (al2 rfl (al1 (by omega)))) (alA (rd_pre (hts2.get hx19) _ rfl) (al1 (rn_ne_f (a := x15) (b := x19) q21)))))) (ds_ (t_ (sq_ (qa0 [] [] [(4, .bool false)] (ds_ (rt ([]) (.bool false) ?_))))))
    exact fun w' hw => ⟨by rw [dsame_no hx15 hx19 q21], hw.below⟩
  ·
   refine qa [(0, .no)] [0, 1, 12, 13] [(14, .bool false)] ([¬ (((j : Nat) : Int) < ((n : Nat) : Int))]) (al1 q9) (ds_ (sq_ (f_ (at_leave _ rfl (ds_ (sq_ (qa0 [] [] [(4, .bool true)] (ds_ (rt ([]) (.bool true) ?_)))))))))
   exact fun w' hw => ⟨by rw [dsame_yes hI (by omega) (by omega)], hw.below⟩

set_option maxRecDepth 100000 in
theorem same_t (p : Option Addr) (n cap : Nat) (ts : List Rn) (p2 : Option Addr) (n2 cap2 : Nat) (ts2 : List Rn) (w : World)
 (hts : Sv w p ts) (hn : n = ts.length) (hb : n ≤ 1000)
 (hts2 : Sv w p2 ts2) (hn2 : n2 = ts2.length) (hb2 : n2 ≤ 1000)
 : Calls Try.prog 17 #[.agg #[.slice p n cap], .agg #[.slice p2 n2 cap2]] w fun e w' => e = .returned (.bool (decide (ts = ts2))) ∧ Below w.heap.size w w' := by
 refine enter (Hs.start w) Try.func17 rfl Try.ntmps17 rfl (sq_ (ma0 [] [] (fun γ1 => [(2, .pointer (some ⟨γ1 0, 0, none⟩)), (3, .pointer (some ⟨γ1 1, 0, none⟩))]) (fun γ1 L => bx (γ1 1) (#[.slice p2 n2 cap2]) 24 :: bx (γ1 0) (#[.slice p n cap]) 24 :: L) (fun γ1 => ds_ (sq_ (ao_ (qo0 4 [(1, .go (owns 1 0 1)), (3, .go (owns 0 0 1))] [] [(6, .slice p n cap), (8, .slice p2 n2 cap2)] (cD (.bool (decide (ts = ts2))) Try.call46 (fun w hw => equal_t p n cap ts p2 n2 cap2 ts2 w (hts.kept hw.below) hn hb (hts2.kept hw.below) hn2 hb2) (qo0 1 [] [] [(4, .bool (decide (ts = ts2)))] (on_ (ds_ (rt ([]) (.bool (decide (ts = ts2))) ?_)))))))))))
 exact fun w' hw => ⟨rfl, hw.below⟩
end Go.Proofs.Ytnhkecfapohlgaa

/-! Queues: the top; where one is. -/
namespace Go.Proofs.Ytnhkecfapohlgaa
open Go Go.RowKit

set_option maxRecDepth 100000 in
theorem top_t (p : Option Addr) (n cap : Nat) (ts : List Rn) (w : World)
 (hts : Sv w p ts) (hn : n = ts.length) (hb : n ≤ 1000)
 (hU : ∀ r ∈ ts, r.U)
 : Calls Try.prog 49 #[.agg #[.slice p n cap]] w fun e w' => e = .returned (.tuple #[.agg #[.int .u64 (topV ts).1.hi, .int .u64 (topV ts).1.lo, .int .u64 (topV ts).1.w], .bool (topV ts).2]) ∧ Below w.heap.size w w' := by
 refine enter (Hs.start w) Try.func49 rfl Try.ntmps49 rfl (sq_ (ma0 [] [] (fun γ1 => [(1, .pointer (some ⟨γ1 0, 0, none⟩)), (2, .pointer (some ⟨γ1 1, 0, none⟩)), (3, .bool false)]) (fun γ1 L => bx (γ1 1) (#[.int .u64 0, .int .u64 0, .int .u64 0]) 33 :: bx (γ1 0) (#[.slice p n cap]) 24 :: L) (fun γ1 => ds_ (sq_ (sq_ (qa0 [(1, .go (owns 1 0 1))] [2, 3] [(7, .slice p n cap), (8, .int .i64 (n : Nat)), (9, .int .i64 0)] (ds_ (at_block (at_loop (α := Nat × Fq × Bool) [2, 3, 7, 8, 9] (fun ⟨j, f, b⟩ => [(2, .pointer (some ⟨γ1 1, 0, none⟩)), (3, .bool b), (7, .slice p n cap), (8, .int .i64 (n : Nat)), (9, .int .i64 (j : Nat))]) (fun ⟨j, f, b⟩ => [bx (γ1 1) (#[.int .u64 f.hi, .int .u64 f.lo, .int .u64 f.w]) 33, bx (γ1 0) (#[.slice p n cap]) 24]) (fun ⟨j, f, b⟩ => j ≤ n ∧ (f, b) = ((ts.take j).foldl topS (zF, false))) (fun ⟨j, f, b⟩ => n - j) (0, zF, false) (by kernel_rfl) rfl ⟨Nat.zero_le _, rfl⟩ ?_)))))))))
 rintro ⟨j, f, b⟩
 rintro ⟨hj, hs⟩
 have hUs : f.U := by have := foldT_U (j := j) hU; rw [← hs] at this; exact this
 refine sq_ ?_
 by_cases q4 : ((j : Nat) : Int) < ((n : Nat) : Int)
 ·
  refine qa [(0, .yes)] [2, 3, 7, 8, 9] [(10, .bool true)] ([((j : Nat) : Int) < ((n : Nat) : Int)]) (al1 q4) (ds_ (sq_ (t_ (at_skip (ds_ (sq_ (at_block (sq_ ?_))))))))
  obtain ⟨b7, o7, rfl⟩ := hts.pos (i := j) (by omega)
  obtain ⟨x9, hx9⟩ := get_some (l := ts) (m := j) (by omega)
  have hUx9 := hU x9 (List.mem_of_getElem? hx9)
  refine ma [(0, .at b7 o7 j), (1, .go (outs b7 (o7 + j * 5) [.int .i64 x9.id, .int .i64 x9.each, .int .u64 x9.th, .int .u64 x9.tl, .int .u64 x9.tw])), (3, .go (owns 0 0 5))] [2, 3, 7, 8, 9] (fun γ10 => [(5, .pointer (some ⟨γ10 0, 0, none⟩))]) (fun γ10 L => bx (γ10 0) (#[.int .i64 x9.id, .int .i64 x9.each, .int .u64 x9.th, .int .u64 x9.tl, .int .u64 x9.tw]) 35 :: L) (fun γ10 => [(some ⟨b7, o7, none⟩ : Option Addr) = some ⟨b7, o7, none⟩, (j : Nat) = ((j : Nat) : Int), j < n] ++ (cellsP w b7 (o7 + j * 5) [.int .i64 x9.id, .int .i64 x9.each, .int .u64 x9.th, .int .u64 x9.tl, .int .u64 x9.tw])) (fun γ10 => (alA (al2 rfl (al2 rfl (al1 (by omega)))) (rd_pre (hts.get hx9) _ rfl))) (fun γ10 => ds_ (sq_ ?_))
  rcases q12 : b with _ | _
  ·
   refine qa0 [] [2, 3, 5, 7, 8, 9] [(21, .bool true)] (ds_ (t_ (ma0 [(1, .go (owns 0 2 3)), (2, .go (owns 1 0 3))] [2, 7, 8, 9] (fun _ => [(3, .bool true)]) (fun _ L => (L.set 1 (bx (γ1 1) (#[.int .u64 x9.th, .int .u64 x9.tl, .int .u64 x9.tw]) 33))) (fun _ => done_block (ds_ (qa [(0, .fit)] [2, 3, 7, 8] [(9, .int .i64 (j + 1 : Nat))] ([Fit .i64 ((j + 1 : Nat))]) (al1 (fit64 (by omega) (by omega))) (Done.drop (L' := [bx (γ1 1) (#[.int .u64 x9.th, .int .u64 x9.tl, .int .u64 x9.tw]) 33, bx (γ1 0) (#[.slice (some ⟨b7, o7, none⟩) n cap]) 24]) ?_ (List.Sublist.cons _ (List.Sublist.cons_cons _ (List.Sublist.cons_cons _ (List.Sublist.refl _)))))))))))
   exact dr [2, 3, 7, 8, 9] (j + 1, x9.t, true) ⟨by omega, by rw [top_on hx9, ← hs, topS_yes (.inl q12)]⟩
  ·
   refine ao_ (qo0 6 [(4, .go (owns 0 2 3)), (5, .go (owns 1 0 3))] [2, 3, 5, 7, 8, 9] [(15, .bool false), (17, .agg #[.int .u64 x9.th, .int .u64 x9.tl, .int .u64 x9.tw]), (18, .agg #[.int .u64 f.hi, .int .u64 f.lo, .int .u64 f.w])] (cD (.int .i64 (cmpF x9.t f)) Try.call13 (fun w hw => fcmp_t x9.t f w hUx9.t hUs) ?_))
   by_cases q18 : ((cmpF x9.t f) : Int) > (0 : Int)
   ·
    refine qo 2 [(7, .yes)] [2, 3, 5, 7, 8, 9] [(21, .bool true)] ([((cmpF x9.t f) : Int) > (0 : Int)]) (al1 q18) (on_ (ds_ (t_ (ma0 [(1, .go (owns 0 2 3)), (2, .go (owns 1 0 3))] [2, 7, 8, 9] (fun _ => [(3, .bool true)]) (fun _ L => (L.set 1 (bx (γ1 1) (#[.int .u64 x9.th, .int .u64 x9.tl, .int .u64 x9.tw]) 33))) (fun _ => done_block (ds_ (qa [(0, .fit)] [2, 3, 7, 8] [(9, .int .i64 (j + 1 : Nat))] ([Fit .i64 ((j + 1 : Nat))]) (al1 (fit64 (by omega) (by omega))) (Done.drop (L' := [bx (γ1 1) (#[.int .u64 x9.th, .int .u64 x9.tl, .int .u64 x9.tw]) 33, bx (γ1 0) (#[.slice (some ⟨b7, o7, none⟩) n cap]) 24]) ?_ (List.Sublist.cons _ (List.Sublist.cons_cons _ (List.Sublist.cons_cons _ (List.Sublist.refl _))))))))))))
    exact dr [2, 3, 7, 8, 9] (j + 1, x9.t, true) ⟨by omega, by rw [top_on hx9, ← hs, topS_yes (.inr (by omega))]⟩
   ·
    refine qo 2 [(7, .no)] [2, 3, 5, 7, 8, 9] [(21, .bool false)] ([¬ (((cmpF x9.t f) : Int) > (0 : Int))]) (al1 q18) (on_ (ds_ (f_ (at_skip (done_block (ds_ (qa [(0, .fit)] [2, 3, 7, 8] [(9, .int .i64 (j + 1 : Nat))] ([Fit .i64 ((j + 1 : Nat))]) (al1 (fit64 (by omega) (by omega))) (Done.drop (L' := [bx (γ1 1) (#[.int .u64 f.hi, .int .u64 f.lo, .int .u64 f.w]) 33, bx (γ1 0) (#[.slice (some ⟨b7, o7, none⟩) n cap]) 24]) ?_ (List.Sublist.cons _ (List.Sublist.cons_cons _ (List.Sublist.cons_cons _ (List.Sublist.refl _))))))))))))
    exact dr [2, 3, 7, 8, 9] (j + 1, f, true) ⟨by omega, by rw [top_on hx9, ← hs, topS_no q12 (by omega)]; exact Prod.ext rfl q12.symm⟩
 ·
  refine qa [(0, .no)] [2, 3, 7, 8, 9] [(10, .bool false)] ([¬ (((j : Nat) : Int) < ((n : Nat) : Int))]) (al1 q4) (ds_ (sq_ (f_ (at_leave _ rfl (ds_ (sq_ (qa0 [(0, .go (owns 0 0 3)), (2, .go (owns 0 0 3))] [2] [(3, .bool b)] (ds_ (rt (owns 0 0 3) (.tuple #[.agg #[.int .u64 f.hi, .int .u64 f.lo, .int .u64 f.w], .bool b]) ?_)))))))))
  exact fun w' hw => ⟨by rw [← top_end (ts := ts) (j := j) (by omega), ← hs], hw.below⟩

set_option maxRecDepth 100000 in
theorem topq_t (p : Option Addr) (n cap : Nat) (ts : List Rn) (w : World)
 (hts : Sv w p ts) (hn : n = ts.length) (hb : n ≤ 1000)
 (hU : ∀ r ∈ ts, r.U)
 : Calls Try.prog 22 #[.agg #[.slice p n cap]] w fun e w' => e = .returned (.tuple #[.agg #[.int .u64 (topQ ts).1.hi, .int .u64 (topQ ts).1.lo, .int .u64 (topQ ts).1.w], .bool (topQ ts).2]) ∧ Below w.heap.size w w' := by
 refine enter (Hs.start w) Try.func22 rfl Try.ntmps22 rfl (sq_ (ma0 [] [] (fun γ1 => [(1, .pointer (some ⟨γ1 0, 0, none⟩)), (2, .pointer (some ⟨γ1 1, 0, none⟩))]) (fun γ1 L => bx (γ1 1) (#[.int .u64 0, .int .u64 0, .int .u64 0]) 33 :: bx (γ1 0) (#[.slice p n cap]) 24 :: L) (fun γ1 => ds_ (sq_ (sq_ (ao_ (qo0 1 [(0, .go (owns 1 0 1))] [1, 2] [(4, .agg #[.slice p n cap])] ?_)))))))
 rcases q3 : chkQ ts with _ | _
 ·
  refine cD (.int .i64 200) Try.call20 (fun w hw => by have := qcheck_t p n cap ts w (hts.kept hw.below) hn (by omega); rw [q3] at this; exact this) (qo0 1 [] [1, 2] [(6, .bool true)] (on_ (ds_ (t_ (sq_ (qa0 [(1, .go (owns 0 0 3))] [2] [(3, .bool false)] (ds_ (rt (owns 0 0 3) (.tuple #[.agg #[.int .u64 0, .int .u64 0, .int .u64 0], .bool false]) ?_))))))))
  exact fun w' hw => ⟨by rw [topQ_bad q3], hw.below⟩
 ·
  refine cD (.int .i64 0) Try.call20 (fun w hw => by have := qcheck_t p n cap ts w (hts.kept hw.below) hn (by omega); rw [q3] at this; exact this) (qo0 1 [] [1, 2] [(6, .bool false)] (on_ (ds_ (f_ (at_skip (ds_ (sq_ (ao_ (qo0 1 [(0, .go (owns 1 0 1))] [2] [(8, .agg #[.slice p n cap])] (cD (.tuple #[.agg #[.int .u64 ((topV ts).1.hi), .int .u64 ((topV ts).1.lo), .int .u64 ((topV ts).1.w)], .bool ((topV ts).2)]) Try.call49 (fun w hw => top_t p n cap ts w (hts.kept hw.below) hn (by omega) hU) (mo0 4 [(4, .go (owns 0 0 3))] [2] (fun _ => [(3, .bool ((topV ts).2))]) (fun _ L => (L.set 0 (bx (γ1 1) (#[.int .u64 ((topV ts).1.hi), .int .u64 ((topV ts).1.lo), .int .u64 ((topV ts).1.w)]) 33))) (fun _ => on_ (ds_ (rt (owns 0 0 3) (.tuple #[.agg #[.int .u64 ((topV ts).1.hi), .int .u64 ((topV ts).1.lo), .int .u64 ((topV ts).1.w)], .bool ((topV ts).2)]) ?_))))))))))))))
  exact fun w' hw => ⟨by rw [topQ_ok q3], hw.below⟩

set_option maxRecDepth 100000 in
theorem at1_t (x : Rn) (k : Int) (w : World)
 : Calls Try.prog 67 #[.agg #[.int .i64 x.id, .int .i64 x.each, .int .u64 x.th, .int .u64 x.tl, .int .u64 x.tw], .int .i64 k] w fun e w' => e = .returned (.int .i64 (subW x.id k)) ∧ Below w.heap.size w w' := by
 refine enter (Hs.start w) Try.func67 rfl Try.ntmps67 rfl (sq_ (ma0 [] [1] (fun γ1 => [(2, .pointer (some ⟨γ1 0, 0, none⟩))]) (fun γ1 L => bx (γ1 0) (#[.int .i64 x.id, .int .i64 x.each, .int .u64 x.th, .int .u64 x.tl, .int .u64 x.tw]) 35 :: L) (fun γ1 => ds_ (sq_ (ao_ (qo0 3 [(1, .go (owns 0 0 1))] [] [(6, .int .i64 x.id), (7, .int .i64 k)] (ops_opv (.int .i64 (subW x.id k)) (by kernel_rfl) (by kernel_rfl) (by kernel_rfl) (fun w => run_subW (a := x.id) (b := k) (subW x.id k) rfl (by kernel_rfl) (by kernel_rfl) rfl w) (qo0 1 [] [] [(4, .int .i64 (subW x.id k))] (on_ (ds_ (rt ([]) (.int .i64 (subW x.id k)) ?_)))))))))))
 exact fun w' hw => ⟨rfl, hw.below⟩

set_option maxRecDepth 100000 in
theorem bst (g : FuncId) (cb : Array Value) (p : Option Addr) (n cap : Nat) (l : List Rn) (f c : Rn → Int) (k : Int) (w : World)
 (hg : ∀ args w, (callFunc g args).run Try.prog w = .ok (.enter g args) w)
 (hsl : Sv w p l) (hn : n = l.length) (hb : n ≤ 4611686018427387903)
 (hc : ∀ x ∈ l, ∀ w', Below w.heap.size w w' → Calls Try.prog g (#[.agg #[.int .i64 x.id, .int .i64 x.each, .int .u64 x.th, .int .u64 x.tl, .int .u64 x.tw], .int .i64 k] ++ cb) w' fun e w1 => e = .returned (.int .i64 (c x)) ∧ Below w'.heap.size w' w1)
 (hs : ∀ x ∈ l, (c x < 0 ↔ f x < k) ∧ (c x = 0 ↔ f x = k)) (ha : AscK f l)
 : Calls Try.prog 66 #[.slice p n cap, .int .i64 k, .func (.func g) #[] cb] w fun e w' => e = .returned (.tuple #[.int .i64 (posK f l k : Nat), .bool (hasK f l k)]) ∧ Below w.heap.size w w' := by
 refine enter (Hs.start w) Try.func66 rfl Try.ntmps66 rfl (sq_ (qa0 [] [0, 1, 2] [] (ds_ (sq_ (qa0 [] [0, 1, 2] [(8, .int .i64 (n : Nat))] (ds_ (sq_ (qa0 [] [0, 1, 2, 8] [(9, .int .i64 0), (10, .int .i64 (n : Nat))] (ds_ (sq_ (at_block (at_loop (α := Nat × Nat) [0, 1, 2, 8, 9, 10] (fun ⟨lo, hi⟩ => [(0, .slice p n cap), (1, .int .i64 k), (2, .func (.func g) #[] cb), (8, .int .i64 (n : Nat)), (9, .int .i64 (lo : Nat)), (10, .int .i64 (hi : Nat))]) (fun ⟨lo, hi⟩ => []) (fun ⟨lo, hi⟩ => lo ≤ hi ∧ hi ≤ n ∧ BsK f l k lo hi) (fun ⟨lo, hi⟩ => hi - lo) (0, n) (by kernel_rfl) rfl ⟨Nat.zero_le _, Nat.le_refl _, by subst hn; exact bsk_start⟩ ?_))))))))))))
 rintro ⟨lo, hi⟩
 rintro ⟨h1, h2, hI⟩
 refine sq_ (sq_ ?_)
 by_cases q5 : ((lo : Nat) : Int) < ((hi : Nat) : Int)
 ·
  refine qa [(2, .yes)] [0, 1, 2, 8, 9, 10] [(17, .bool true)] ([((lo : Nat) : Int) < ((hi : Nat) : Int)]) (al1 q5) (ds_ (t_ (at_skip (ds_ (at_block (sq_ (qa [(2, .fit), (3, .fit), (4, .is [] (.int .u64 ((lo + hi) / 2 : Nat))), (5, .fit)] [0, 1, 2, 8, 9, 10] [(11, .int .i64 ((lo + hi) / 2 : Nat))] ([Fit .i64 ((lo + hi : Nat))] ++ ([Fit .u64 ((lo + hi : Nat))] ++ ([Value.int .u64 (Int.fdiv ((lo : Nat) + (hi : Nat)) (2 ^ 1)) = .int .u64 (((lo + hi) / 2 : Nat) : Int)] ++ ([Fit .i64 (((lo + hi) / 2 : Nat))])))) (alA (al1 (fit64 (by omega) (by omega))) (alA (al1 (fitU (by omega) (by omega))) (alA (al1 (half lo hi)) (al1 (fit64 (by omega) (by omega)))))) (ds_ (sq_ ?_)))))))))
  obtain ⟨b9, o9, rfl⟩ := hsl.pos (i := (lo + hi) / 2) (by omega)
  obtain ⟨x11, hx11⟩ := get_some (l := l) (m := (lo + hi) / 2) (by omega)
  refine ao_ (qo 6 [(3, .at b9 o9 ((lo + hi) / 2)), (4, .go (outs b9 (o9 + ((lo + hi) / 2) * 5) [.int .i64 x11.id, .int .i64 x11.each, .int .u64 x11.th, .int .u64 x11.tl, .int .u64 x11.tw]))] [0, 1, 2, 8, 9, 10, 11] [(24, .func (.func g) #[] cb), (28, .agg #[.int .i64 x11.id, .int .i64 x11.each, .int .u64 x11.th, .int .u64 x11.tl, .int .u64 x11.tw]), (29, .int .i64 k)] ([(some ⟨b9, o9, none⟩ : Option Addr) = some ⟨b9, o9, none⟩, ((lo + hi) / 2 : Nat) = (((lo + hi) / 2 : Nat) : Int), (lo + hi) / 2 < n] ++ (cellsP w b9 (o9 + ((lo + hi) / 2) * 5) [.int .i64 x11.id, .int .i64 x11.each, .int .u64 x11.th, .int .u64 x11.tl, .int .u64 x11.tw])) (alA (al2 rfl (al2 rfl (al1 (by omega)))) (rd_pre (hsl.get hx11) _ rfl)) (cD (.int .i64 (c x11)) hg (fun w hw => hc x11 (List.mem_of_getElem? hx11) w hw.below) ?_))
  by_cases q14 : (c x11 : Int) < (0 : Int)
  ·
   refine qo 1 [(7, .yes)] [0, 1, 2, 8, 9, 10, 11] [(31, .bool true)] ([(c x11 : Int) < (0 : Int)]) (al1 q14) (on_ (ds_ (t_ (qa [(1, .fit)] [0, 1, 2, 8, 10] [(9, .int .i64 ((lo + hi) / 2 + 1 : Nat))] ([Fit .i64 (((lo + hi) / 2 + 1 : Nat))]) (al1 (fit64 (by omega) (by omega))) (done_block ?_)))))
   exact dr [0, 1, 2, 8, 9, 10] ((lo + hi) / 2 + 1, hi) ⟨by omega, by omega, bsk_low hI ha hx11 ((hs x11 (List.mem_of_getElem? hx11)).1.1 q14)⟩
  ·
   refine qo 1 [(7, .no)] [0, 1, 2, 8, 9, 10, 11] [(31, .bool false)] ([¬ ((c x11 : Int) < (0 : Int))]) (al1 q14) (on_ (ds_ (f_ (qa0 [] [0, 1, 2, 8, 9] [(10, .int .i64 ((lo + hi) / 2 : Nat))] (done_block ?_)))))
   exact dr [0, 1, 2, 8, 9, 10] (lo, (lo + hi) / 2) ⟨by omega, by omega, bsk_high hI ha hx11 (fun h => q14 ((hs x11 (List.mem_of_getElem? hx11)).1.2 h))⟩
 ·
  refine qa [(2, .no)] [0, 1, 2, 8, 9, 10] [(17, .bool false)] ([¬ (((lo : Nat) : Int) < ((hi : Nat) : Int))]) (al1 q5) (ds_ (f_ (at_leave _ rfl (ds_ (sq_ ?_)))))
  by_cases q21 : ((lo : Nat) : Int) < ((n : Nat) : Int)
  ·
   obtain ⟨b23, o23, rfl⟩ := hsl.pos (i := lo) (by omega)
   obtain ⟨x25, hx25⟩ := get_some (l := l) (m := lo) (by omega)
   refine ao_ (qo 11 [(3, .yes), (8, .at b23 o23 lo), (9, .go (outs b23 (o23 + lo * 5) [.int .i64 x25.id, .int .i64 x25.each, .int .u64 x25.th, .int .u64 x25.tl, .int .u64 x25.tw]))] [] [(35, .int .i64 (lo : Nat)), (39, .bool true), (40, .func (.func g) #[] cb), (44, .agg #[.int .i64 x25.id, .int .i64 x25.each, .int .u64 x25.th, .int .u64 x25.tl, .int .u64 x25.tw]), (45, .int .i64 k)] ([((lo : Nat) : Int) < ((n : Nat) : Int)] ++ ([(some ⟨b23, o23, none⟩ : Option Addr) = some ⟨b23, o23, none⟩, (lo : Nat) = ((lo : Nat) : Int), lo < n] ++ (cellsP w b23 (o23 + lo * 5) [.int .i64 x25.id, .int .i64 x25.each, .int .u64 x25.th, .int .u64 x25.tl, .int .u64 x25.tw]))) (alA (al1 q21) (alA (al2 rfl (al2 rfl (al1 (by omega)))) (rd_pre (hsl.get hx25) _ rfl))) (cD (.int .i64 (c x25)) hg (fun w hw => hc x25 (List.mem_of_getElem? hx25) w hw.below) ?_))
   by_cases q28 : (c x25 : Int) = (0 : Int)
   ·
    refine qo 4 [(12, .yes)] [] [(6, .int .i64 (lo : Nat)), (7, .bool true)] ([(c x25 : Int) = (0 : Int)]) (al1 q28) (on_ (ds_ (rt ([]) (.tuple #[.int .i64 (lo : Nat), .bool true]) ?_)))
    exact fun w' hw => ⟨by rw [bsk_end hI (by omega) h1 (by omega), hask_found hx25 ((hs x25 (List.mem_of_getElem? hx25)).2.1 q28)], hw.below⟩
   ·
    refine qo 4 [(12, .no)] [] [(6, .int .i64 (lo : Nat)), (7, .bool false)] ([¬ ((c x25 : Int) = (0 : Int))]) (al1 q28) (on_ (ds_ (rt ([]) (.tuple #[.int .i64 (lo : Nat), .bool false]) ?_)))
    exact fun w' hw => ⟨by rw [bsk_end hI (by omega) h1 (by omega), hask_other hI (by omega) h1 ha hx25 (fun h => q28 ((hs x25 (List.mem_of_getElem? hx25)).2.2 h))], hw.below⟩
  ·
   refine qa [(3, .no)] [] [(6, .int .i64 (lo : Nat)), (7, .bool false)] ([¬ (((lo : Nat) : Int) < ((n : Nat) : Int))]) (al1 q21) (ds_ (rt ([]) (.tuple #[.int .i64 (lo : Nat), .bool false]) ?_))
   exact fun w' hw => ⟨by rw [bsk_end hI (by omega) h1 (by omega), hask_none hI (by omega) h1 (by omega)], hw.below⟩

set_option maxRecDepth 100000 in
theorem bswt (g : FuncId) (cb : Array Value) (p : Option Addr) (n cap : Nat) (l : List Rn) (c : Rn → Int) (k : Int) (w : World)
 (hg : ∀ args w, (callFunc g args).run Try.prog w = .ok (.enter g args) w)
 (hsl : Sv w p l) (hn : n = l.length) (hb : n ≤ 4611686018427387903)
 (hc : ∀ x ∈ l, ∀ w', Below w.heap.size w w' → Calls Try.prog g (#[.agg #[.int .i64 x.id, .int .i64 x.each, .int .u64 x.th, .int .u64 x.tl, .int .u64 x.tw], .int .i64 k] ++ cb) w' fun e w1 => e = .returned (.int .i64 (c x)) ∧ Below w'.heap.size w' w1)
 : Calls Try.prog 66 #[.slice p n cap, .int .i64 k, .func (.func g) #[] cb] w fun e w' => ∃ (i : Nat) (b : Bool), e = .returned (.tuple #[.int .i64 (i : Nat), .bool b]) ∧ i ≤ n ∧ (b = true → ∃ x, l[i]? = some x ∧ c x = 0) ∧ Below w.heap.size w w' := by
 refine enter (Hs.start w) Try.func66 rfl Try.ntmps66 rfl (sq_ (qa0 [] [0, 1, 2] [] (ds_ (sq_ (qa0 [] [0, 1, 2] [(8, .int .i64 (n : Nat))] (ds_ (sq_ (qa0 [] [0, 1, 2, 8] [(9, .int .i64 0), (10, .int .i64 (n : Nat))] (ds_ (sq_ (at_block (at_loop (α := Nat × Nat) [0, 1, 2, 8, 9, 10] (fun ⟨lo, hi⟩ => [(0, .slice p n cap), (1, .int .i64 k), (2, .func (.func g) #[] cb), (8, .int .i64 (n : Nat)), (9, .int .i64 (lo : Nat)), (10, .int .i64 (hi : Nat))]) (fun ⟨lo, hi⟩ => []) (fun ⟨lo, hi⟩ => lo ≤ hi ∧ hi ≤ n) (fun ⟨lo, hi⟩ => hi - lo) (0, n) (by kernel_rfl) rfl ⟨Nat.zero_le _, Nat.le_refl _⟩ ?_))))))))))))
 rintro ⟨lo, hi⟩
 rintro ⟨h1, h2⟩
 refine sq_ (sq_ ?_)
 by_cases q5 : ((lo : Nat) : Int) < ((hi : Nat) : Int)
 ·
  refine qa [(2, .yes)] [0, 1, 2, 8, 9, 10] [(17, .bool true)] ([((lo : Nat) : Int) < ((hi : Nat) : Int)]) (al1 q5) (ds_ (t_ (at_skip (ds_ (at_block (sq_ (qa [(2, .fit), (3, .fit), (4, .is [] (.int .u64 ((lo + hi) / 2 : Nat))), (5, .fit)] [0, 1, 2, 8, 9, 10] [(11, .int .i64 ((lo + hi) / 2 : Nat))] ([Fit .i64 ((lo + hi : Nat))] ++ ([Fit .u64 ((lo + hi : Nat))] ++ ([Value.int .u64 (Int.fdiv ((lo : Nat) + (hi : Nat)) (2 ^ 1)) = .int .u64 (((lo + hi) / 2 : Nat) : Int)] ++ ([Fit .i64 (((lo + hi) / 2 : Nat))])))) (alA (al1 (fit64 (by omega) (by omega))) (alA (al1 (fitU (by omega) (by omega))) (alA (al1 (half lo hi)) (al1 (fit64 (by omega) (by omega)))))) (ds_ (sq_ ?_)))))))))
  obtain ⟨b9, o9, rfl⟩ := hsl.pos (i := (lo + hi) / 2) (by omega)
  obtain ⟨x11, hx11⟩ := get_some (l := l) (m := (lo + hi) / 2) (by omega)
  refine ao_ (qo 6 [(3, .at b9 o9 ((lo + hi) / 2)), (4, .go (outs b9 (o9 + ((lo + hi) / 2) * 5) [.int .i64 x11.id, .int .i64 x11.each, .int .u64 x11.th, .int .u64 x11.tl, .int .u64 x11.tw]))] [0, 1, 2, 8, 9, 10, 11] [(24, .func (.func g) #[] cb), (28, .agg #[.int .i64 x11.id, .int .i64 x11.each, .int .u64 x11.th, .int .u64 x11.tl, .int .u64 x11.tw]), (29, .int .i64 k)] ([(some ⟨b9, o9, none⟩ : Option Addr) = some ⟨b9, o9, none⟩, ((lo + hi) / 2 : Nat) = (((lo + hi) / 2 : Nat) : Int), (lo + hi) / 2 < n] ++ (cellsP w b9 (o9 + ((lo + hi) / 2) * 5) [.int .i64 x11.id, .int .i64 x11.each, .int .u64 x11.th, .int .u64 x11.tl, .int .u64 x11.tw])) (alA (al2 rfl (al2 rfl (al1 (by omega)))) (rd_pre (hsl.get hx11) _ rfl)) (cD (.int .i64 (c x11)) hg (fun w hw => hc x11 (List.mem_of_getElem? hx11) w hw.below) ?_))
  by_cases q14 : (c x11 : Int) < (0 : Int)
  ·
   refine qo 1 [(7, .yes)] [0, 1, 2, 8, 9, 10, 11] [(31, .bool true)] ([(c x11 : Int) < (0 : Int)]) (al1 q14) (on_ (ds_ (t_ (qa [(1, .fit)] [0, 1, 2, 8, 10] [(9, .int .i64 ((lo + hi) / 2 + 1 : Nat))] ([Fit .i64 (((lo + hi) / 2 + 1 : Nat))]) (al1 (fit64 (by omega) (by omega))) (done_block ?_)))))
   exact dr [0, 1, 2, 8, 9, 10] ((lo + hi) / 2 + 1, hi) ⟨by omega, by omega⟩
  ·
   refine qo 1 [(7, .no)] [0, 1, 2, 8, 9, 10, 11] [(31, .bool false)] ([¬ ((c x11 : Int) < (0 : Int))]) (al1 q14) (on_ (ds_ (f_ (qa0 [] [0, 1, 2, 8, 9] [(10, .int .i64 ((lo + hi) / 2 : Nat))] (done_block ?_)))))
   exact dr [0, 1, 2, 8, 9, 10] (lo, (lo + hi) / 2) ⟨by omega, by omega⟩
 ·
  refine qa [(2, .no)] [0, 1, 2, 8, 9, 10] [(17, .bool false)] ([¬ (((lo : Nat) : Int) < ((hi : Nat) : Int))]) (al1 q5) (ds_ (f_ (at_leave _ rfl (ds_ (sq_ ?_)))))
  by_cases q21 : ((lo : Nat) : Int) < ((n : Nat) : Int)
  ·
   obtain ⟨b23, o23, rfl⟩ := hsl.pos (i := lo) (by omega)
   obtain ⟨x25, hx25⟩ := get_some (l := l) (m := lo) (by omega)
   refine ao_ (qo 11 [(3, .yes), (8, .at b23 o23 lo), (9, .go (outs b23 (o23 + lo * 5) [.int .i64 x25.id, .int .i64 x25.each, .int .u64 x25.th, .int .u64 x25.tl, .int .u64 x25.tw]))] [] [(35, .int .i64 (lo : Nat)), (39, .bool true), (40, .func (.func g) #[] cb), (44, .agg #[.int .i64 x25.id, .int .i64 x25.each, .int .u64 x25.th, .int .u64 x25.tl, .int .u64 x25.tw]), (45, .int .i64 k)] ([((lo : Nat) : Int) < ((n : Nat) : Int)] ++ ([(some ⟨b23, o23, none⟩ : Option Addr) = some ⟨b23, o23, none⟩, (lo : Nat) = ((lo : Nat) : Int), lo < n] ++ (cellsP w b23 (o23 + lo * 5) [.int .i64 x25.id, .int .i64 x25.each, .int .u64 x25.th, .int .u64 x25.tl, .int .u64 x25.tw]))) (alA (al1 q21) (alA (al2 rfl (al2 rfl (al1 (by omega)))) (rd_pre (hsl.get hx25) _ rfl))) (cD (.int .i64 (c x25)) hg (fun w hw => hc x25 (List.mem_of_getElem? hx25) w hw.below) ?_))
   by_cases q28 : (c x25 : Int) = (0 : Int)
   ·
    refine qo 4 [(12, .yes)] [] [(6, .int .i64 (lo : Nat)), (7, .bool true)] ([(c x25 : Int) = (0 : Int)]) (al1 q28) (on_ (ds_ (rt ([]) (.tuple #[.int .i64 (lo : Nat), .bool true]) ?_)))
    exact fun w' hw => ⟨lo, true, rfl, by omega, fun _ => ⟨x25, hx25, q28⟩, hw.below⟩
   ·
    refine qo 4 [(12, .no)] [] [(6, .int .i64 (lo : Nat)), (7, .bool false)] ([¬ ((c x25 : Int) = (0 : Int))]) (al1 q28) (on_ (ds_ (rt ([]) (.tuple #[.int .i64 (lo : Nat), .bool false]) ?_)))
    exact fun w' hw => ⟨lo, false, rfl, by omega, fun h => (by cases h), hw.below⟩
  ·
   refine qa [(3, .no)] [] [(6, .int .i64 (lo : Nat)), (7, .bool false)] ([¬ (((lo : Nat) : Int) < ((n : Nat) : Int))]) (al1 q21) (ds_ (rt ([]) (.tuple #[.int .i64 (lo : Nat), .bool false]) ?_))
   exact fun w' hw => ⟨lo, false, rfl, by omega, fun h => (by cases h), hw.below⟩

set_option maxRecDepth 100000 in
theorem at_t (p : Option Addr) (n cap : Nat) (ts : List Rn) (k : Int) (w : World)
 (hts : Sv w p ts) (hn : n = ts.length) (hb : n ≤ 1000)
 (hg : GoodQ ts) (hk : idV k = true)
 : Calls Try.prog 34 #[.slice p n cap, .int .i64 k] w fun e w' => e = .returned (.tuple #[.int .i64 (posK Rn.id ts k : Nat), .bool (hasK Rn.id ts k)]) ∧ Below w.heap.size w w' := by
 refine enter (Hs.start w) Try.func34 rfl Try.ntmps34 rfl (sq_ (qa0 [] [0, 1] [] (ds_ (sq_ (ao_ (qo0 2 [] [] [(6, .slice p n cap), (7, .int .i64 k)] (cD (.tuple #[.int .i64 (posK Rn.id ts k : Nat), .bool (hasK Rn.id ts k)]) Try.call66 (fun w hw => bst 67 #[] p n cap ts Rn.id (fun x => subW x.id k) k w Try.call67 (hts.kept hw.below) hn (by omega) (fun x hx w' hb' => at1_t x k w') (fun x hx => subW_iff (hg.bnd hx).1 (hg.bnd hx).2.1 (idV_iff.1 hk).1 (idV_iff.1 hk).2) hg.rs.asc) (qo0 4 [] [] [(4, .int .i64 (posK Rn.id ts k : Nat)), (5, .bool (hasK Rn.id ts k))] (on_ (ds_ (rt ([]) (.tuple #[.int .i64 (posK Rn.id ts k : Nat), .bool (hasK Rn.id ts k)]) ?_)))))))))))
 exact fun w' hw => ⟨rfl, hw.below⟩

set_option maxRecDepth 100000 in
theorem atw_t (p : Option Addr) (n cap : Nat) (ts : List Rn) (k : Int) (w : World)
 (hts : Sv w p ts) (hn : n = ts.length) (hb : n ≤ 1000)
 (hU : ∀ r ∈ ts, r.U)
 (hk0 : -9223372036854775808 ≤ k) (hk1 : k ≤ 9223372036854775807)
 : Calls Try.prog 34 #[.slice p n cap, .int .i64 k] w fun e w' => ∃ (i : Nat) (b : Bool), e = .returned (.tuple #[.int .i64 (i : Nat), .bool b]) ∧ i ≤ n ∧ (b = true → ∃ x, ts[i]? = some x ∧ x.id = k) ∧ Below w.heap.size w w' := by
 refine enter (Hs.start w) Try.func34 rfl Try.ntmps34 rfl (sq_ (qa0 [] [0, 1] [] (ds_ (sq_ (ao_ (qo0 2 [] [] [(6, .slice p n cap), (7, .int .i64 k)] (cP (fun v L' => ∃ (i : Nat) (b : Bool), v = .tuple #[.int .i64 (i : Nat), .bool b] ∧ L' = [] ∧ i ≤ n ∧ (b = true → ∃ x, ts[i]? = some x ∧ subW x.id k = 0)) Try.call66 (fun w hw => (bswt 67 #[] p n cap ts (fun x => subW x.id k) k w Try.call67 (hts.kept hw.below) hn (by omega) (fun x hx w' hb' => at1_t x k w')).mono (fun e w' ⟨i, b, he, h1, h2, h3⟩ => ⟨_, _, he, ⟨i, b, rfl, rfl, h1, h2⟩, hw.kept h3⟩)) ?_)))))))
 rintro v3 L3 ⟨i3, b3, rfl, rfl, hi3, hb3⟩
 refine qo0 4 [] [] [(4, .int .i64 (i3 : Nat)), (5, .bool b3)] (on_ (ds_ (rt ([]) (.tuple #[.int .i64 (i3 : Nat), .bool b3]) ?_)))
 exact fun w' hw => ⟨i3, b3, rfl, hi3, fun h => by obtain ⟨x, hx, hc⟩ := hb3 h; exact ⟨x, hx, subW_zero hc (hU x (List.mem_of_getElem? hx)).i0 (hU x (List.mem_of_getElem? hx)).i1 hk0 hk1⟩, hw.below⟩
theorem atx_t (p : Option Addr) (n cap : Nat) (ts : List Rn) (k : Int) (w : World)
 (hts : Sv w p ts) (hn : n = ts.length) (hb : n ≤ 1000)
 (hU : ∀ r ∈ ts, r.U) (hk0 : -9223372036854775808 ≤ k) (hk1 : k ≤ 9223372036854775807) (hg : GoodQ ts) (hk : idV k = false)
 : Calls Try.prog 34 #[.slice p n cap, .int .i64 k] w fun e w' => ∃ (i : Nat), e = .returned (.tuple #[.int .i64 (i : Nat), .bool false]) ∧ Below w.heap.size w w' :=
 (atw_t p n cap ts k w hts hn hb hU hk0 hk1).mono fun e w' ⟨i, b, he, h1, h2, h3⟩ => by
  cases b with
  | false => exact ⟨i, he, h3⟩
  | true =>
   obtain ⟨x, hx, hxk⟩ := h2 rfl
   have := hg.bnd (List.mem_of_getElem? hx)
   exact absurd (idV_iff.2 ⟨by omega, by omega⟩ : idV k = true) (by rw [hk]; decide)
end Go.Proofs.Ytnhkecfapohlgaa

/-! Queues: Get. -/
namespace Go.Proofs.Ytnhkecfapohlgaa
open Go Go.RowKit

set_option maxRecDepth 100000 in
theorem getq_t (p : Option Addr) (n cap : Nat) (ts : List Rn) (k : Int) (w : World)
 (hts : Sv w p ts) (hn : n = ts.length) (hb : n ≤ 1000)
 (hU : ∀ r ∈ ts, r.U)
 (hk0 : -9223372036854775808 ≤ k) (hk1 : k ≤ 9223372036854775807)
 : Calls Try.prog 11 #[.agg #[.slice p n cap], .int .i64 k] w fun e w' => e = .returned (getO (getQ ts k)) ∧ Below w.heap.size w w' := by
 refine enter (Hs.start w) Try.func11 rfl Try.ntmps11 rfl (sq_ (ma0 [] [1] (fun γ1 => [(2, .pointer (some ⟨γ1 0, 0, none⟩)), (4, .pointer (some ⟨γ1 1, 0, none⟩))]) (fun γ1 L => bx (γ1 1) (#[.int .i64 0, .int .i64 0, .int .u64 0, .int .u64 0, .int .u64 0]) 35 :: bx (γ1 0) (#[.slice p n cap]) 24 :: L) (fun γ1 => ds_ (sq_ ?_))))
 rcases q2 : chkQ ts with _ | _
 ·
  refine ao_ (qo0 3 [(1, .go (owns 1 0 1))] [2, 4] [(10, .slice p n cap), (11, .int .i64 k)] (cP (fun v L' => ∃ (i : Nat) (b : Bool), v = .tuple #[.int .i64 (i : Nat), .bool b] ∧ L' = [bx (γ1 1) (#[.int .i64 0, .int .i64 0, .int .u64 0, .int .u64 0, .int .u64 0]) 35, bx (γ1 0) (#[.slice p n cap]) 24] ∧ i ≤ n ∧ (b = true → ∃ x, ts[i]? = some x ∧ x.id = k)) Try.call34 (fun w hw => (atw_t p n cap ts k w (hts.kept hw.below) hn (by omega) hU hk0 hk1).mono (fun e w' ⟨i, b, he, h1, h2, h3⟩ => ⟨_, _, he, ⟨i, b, rfl, rfl, h1, h2⟩, hw.kept h3⟩)) ?_))
  rintro v4 L4 ⟨i4, b4, rfl, rfl, hi4, hb4⟩
  refine qo0 5 [] [2, 4] [(6, .int .i64 (i4 : Nat)), (7, .bool b4)] (on_ (ds_ (sq_ (sq_ (ao_ (qo0 1 [(0, .go (owns 1 0 1))] [2, 4, 6, 7] [(15, .agg #[.slice p n cap])] (cD (.int .i64 200) Try.call20 (fun w hw => by have := qcheck_t p n cap ts w (hts.kept hw.below) hn (by omega); rw [q2] at this; exact this) (qo0 5 [] [2, 4, 6] [(21, .bool true)] (on_ (ds_ (t_ (sq_ (qa0 [(1, .go (owns 0 0 5))] [4] [(5, .bool false)] (ds_ (rt (owns 0 0 5) (.tuple #[.agg #[.int .i64 0, .int .i64 0, .int .u64 0, .int .u64 0, .int .u64 0], .bool false]) ?_)))))))))))))))
  exact fun w' hw => ⟨by rw [getQ_bad q2]; rfl, hw.below⟩
 ·
  rcases q9 : idV k with _ | _
  ·
   refine ao_ (qo0 3 [(1, .go (owns 1 0 1))] [2, 4] [(10, .slice p n cap), (11, .int .i64 k)] (cP (fun v L' => ∃ (i : Nat), v = .tuple #[.int .i64 (i : Nat), .bool false] ∧ L' = [bx (γ1 1) (#[.int .i64 0, .int .i64 0, .int .u64 0, .int .u64 0, .int .u64 0]) 35, bx (γ1 0) (#[.slice p n cap]) 24]) Try.call34 (fun w hw => (atx_t p n cap ts k w (hts.kept hw.below) hn (by omega) hU hk0 hk1 (chk_iff.1 q2) q9).mono (fun e w' ⟨i, he, h3⟩ => ⟨_, _, he, ⟨i, rfl, rfl⟩, hw.kept h3⟩)) ?_))
   rintro v11 L11 ⟨i11, rfl, rfl⟩
   refine qo0 5 [] [2, 4] [(6, .int .i64 (i11 : Nat)), (7, .bool false)] (on_ (ds_ (sq_ (sq_ (ao_ (qo0 1 [(0, .go (owns 1 0 1))] [2, 4, 6, 7] [(15, .agg #[.slice p n cap])] (cD (.int .i64 0) Try.call20 (fun w hw => by have := qcheck_t p n cap ts w (hts.kept hw.below) hn (by omega); rw [q2] at this; exact this) (qo0 5 [] [2, 4, 6] [(21, .bool true)] (on_ (ds_ (t_ (sq_ (qa0 [(1, .go (owns 0 0 5))] [4] [(5, .bool false)] (ds_ (rt (owns 0 0 5) (.tuple #[.agg #[.int .i64 0, .int .i64 0, .int .u64 0, .int .u64 0, .int .u64 0], .bool false]) ?_)))))))))))))))
   exact fun w' hw => ⟨by rw [getQ_ok q2, getQ_out q2 q9]; rfl, hw.below⟩
  ·
   refine ao_ (qo0 3 [(1, .go (owns 1 0 1))] [2, 4] [(10, .slice p n cap), (11, .int .i64 k)] ?_)
   rcases hg17 : getK Rn.id ts k with _ | y17
   ·
    have hpl17 := (pos_cut (k := k) (chk_iff.1 q2).rs).2.2
    refine cD (.tuple #[.int .i64 (posK Rn.id ts k : Nat), .bool false]) Try.call34 (fun w hw => by have := at_t p n cap ts k w (hts.kept hw.below) hn (by omega) (chk_iff.1 q2) q9; rw [hasK_none hg17] at this; exact this) (qo0 5 [] [2, 4] [(6, .int .i64 (posK Rn.id ts k : Nat)), (7, .bool false)] (on_ (ds_ (sq_ (sq_ (ao_ (qo0 1 [(0, .go (owns 1 0 1))] [2, 4, 6, 7] [(15, .agg #[.slice p n cap])] (cD (.int .i64 0) Try.call20 (fun w hw => by have := qcheck_t p n cap ts w (hts.kept hw.below) hn (by omega); rw [q2] at this; exact this) (qo0 5 [] [2, 4, 6] [(21, .bool true)] (on_ (ds_ (t_ (sq_ (qa0 [(1, .go (owns 0 0 5))] [4] [(5, .bool false)] (ds_ (rt (owns 0 0 5) (.tuple #[.agg #[.int .i64 0, .int .i64 0, .int .u64 0, .int .u64 0, .int .u64 0], .bool false]) ?_))))))))))))))))
    exact fun w' hw => ⟨by rw [getQ_ok q2, hg17]; rfl, hw.below⟩
   ·
    have hp_y17 := pos_getK (chk_iff.1 q2).rs hg17
    have hl_y17 := (List.getElem?_eq_some_iff.1 hp_y17).1
    refine cD (.tuple #[.int .i64 (posK Rn.id ts k : Nat), .bool true]) Try.call34 (fun w hw => by have := at_t p n cap ts k w (hts.kept hw.below) hn (by omega) (chk_iff.1 q2) q9; rw [hasK_some hg17] at this; exact this) (qo0 5 [] [2, 4] [(6, .int .i64 (posK Rn.id ts k : Nat)), (7, .bool true)] (on_ (ds_ (sq_ (sq_ (ao_ (qo0 1 [(0, .go (owns 1 0 1))] [2, 4, 6, 7] [(15, .agg #[.slice p n cap])] (cD (.int .i64 0) Try.call20 (fun w hw => by have := qcheck_t p n cap ts w (hts.kept hw.below) hn (by omega); rw [q2] at this; exact this) (qo0 5 [] [2, 4, 6] [(21, .bool false)] (on_ (ds_ (f_ (at_skip (ds_ (sq_ ?_)))))))))))))))
    obtain ⟨b26, o26, rfl⟩ := hts.pos (i := posK Rn.id ts k) (by omega)
    refine ma [(1, .go (owns 1 0 1)), (3, .at b26 o26 (posK Rn.id ts k)), (4, .go (outs b26 (o26 + (posK Rn.id ts k) * 5) [.int .i64 y17.id, .int .i64 y17.each, .int .u64 y17.th, .int .u64 y17.tl, .int .u64 y17.tw])), (5, .go (owns 0 0 5))] [4] (fun _ => [(5, .bool true)]) (fun _ L => (L.set 0 (bx (γ1 1) (#[.int .i64 y17.id, .int .i64 y17.each, .int .u64 y17.th, .int .u64 y17.tl, .int .u64 y17.tw]) 35))) (fun _ => [(some ⟨b26, o26, none⟩ : Option Addr) = some ⟨b26, o26, none⟩, (posK Rn.id ts k : Nat) = ((posK Rn.id ts k : Nat) : Int), posK Rn.id ts k < n] ++ (cellsP w b26 (o26 + (posK Rn.id ts k) * 5) [.int .i64 y17.id, .int .i64 y17.each, .int .u64 y17.th, .int .u64 y17.tl, .int .u64 y17.tw])) (fun _ => (alA (al2 rfl (al2 rfl (al1 (by omega)))) (rd_pre (hts.get hp_y17) _ rfl))) (fun _ => ds_ (rt (owns 0 0 5) (.tuple #[.agg #[.int .i64 y17.id, .int .i64 y17.each, .int .u64 y17.th, .int .u64 y17.tl, .int .u64 y17.tw], .bool true]) ?_))
    exact fun w' hw => ⟨by rw [getQ_ok q2, hg17]; rfl, hw.below⟩
end Go.Proofs.Ytnhkecfapohlgaa

/-! The document's answers. -/
namespace Go.Proofs.Ytnhkecfapohlgaa
open Go Go.RowKit

set_option maxRecDepth 100000 in
theorem rid_t (k : Int) (w : World)
 : Calls Try.prog 54 #[.int .i64 k] w fun e w' => e = .returned (.bool (idV k)) ∧ Below w.heap.size w w' := by
 refine enter (Hs.start w) Try.func54 rfl Try.ntmps54 rfl (sq_ (qa0 [] [0] [] (ds_ (sq_ ?_))))
 by_cases q3 : (k : Int) ≥ (1 : Int)
 ·
  by_cases q5 : (k : Int) ≤ (16 : Int)
  ·
   refine qa [(1, .yes), (4, .yes)] [] [(2, .bool true)] ([(k : Int) ≥ (1 : Int)] ++ ([(k : Int) ≤ (16 : Int)])) (alA (al1 q3) (al1 q5)) (ds_ (rt ([]) (.bool true) ?_))
   exact fun w' hw => ⟨by rw [show idV k = true from by simp only [idV, decide_eq_true_eq]; omega], hw.below⟩
  ·
   refine qa [(1, .yes), (4, .no)] [] [(2, .bool false)] ([(k : Int) ≥ (1 : Int)] ++ ([¬ ((k : Int) ≤ (16 : Int))])) (alA (al1 q3) (al1 q5)) (ds_ (rt ([]) (.bool false) ?_))
   exact fun w' hw => ⟨by rw [show idV k = false from by simp only [idV, decide_eq_false_iff_not]; omega], hw.below⟩
 ·
  refine qa [(1, .no)] [] [(2, .bool false)] ([¬ ((k : Int) ≥ (1 : Int))]) (al1 q3) (ds_ (rt ([]) (.bool false) ?_))
  exact fun w' hw => ⟨by rw [show idV k = false from by simp only [idV, decide_eq_false_iff_not]; omega], hw.below⟩

set_option maxRecDepth 100000 in
theorem rweight_t (k : Int) (w : World)
 : Calls Try.prog 77 #[.int .u64 k] w fun e w' => e = .returned (.bool (wB k)) ∧ Below w.heap.size w w' := by
 refine enter (Hs.start w) Try.func77 rfl Try.ntmps77 rfl (sq_ (qa0 [] [0] [] (ds_ (sq_ ?_))))
 by_cases q3 : (k : Int) ≥ (1 : Int)
 ·
  by_cases q5 : (k : Int) ≤ (65535 : Int)
  ·
   refine qa [(1, .yes), (4, .yes)] [] [(2, .bool true)] ([(k : Int) ≥ (1 : Int)] ++ ([(k : Int) ≤ (65535 : Int)])) (alA (al1 q3) (al1 q5)) (ds_ (rt ([]) (.bool true) ?_))
   exact fun w' hw => ⟨by rw [show wB k = true from by simp only [wB, decide_eq_true_eq]; omega], hw.below⟩
  ·
   refine qa [(1, .yes), (4, .no)] [] [(2, .bool false)] ([(k : Int) ≥ (1 : Int)] ++ ([¬ ((k : Int) ≤ (65535 : Int))])) (alA (al1 q3) (al1 q5)) (ds_ (rt ([]) (.bool false) ?_))
   exact fun w' hw => ⟨by rw [show wB k = false from by simp only [wB, decide_eq_false_iff_not]; omega], hw.below⟩
 ·
  refine qa [(1, .no)] [] [(2, .bool false)] ([¬ ((k : Int) ≥ (1 : Int))]) (al1 q3) (ds_ (rt ([]) (.bool false) ?_))
  exact fun w' hw => ⟨by rw [show wB k = false from by simp only [wB, decide_eq_false_iff_not]; omega], hw.below⟩

set_option maxRecDepth 100000 in
theorem r05right_t (a : Fq) (w : World)
 : Calls Try.prog 55 #[.agg #[.int .u64 a.hi, .int .u64 a.lo, .int .u64 a.w]] w fun e w' => e = .returned (.bool a.ok) ∧ Below w.heap.size w w' := by
 refine enter (Hs.start w) Try.func55 rfl Try.ntmps55 rfl (sq_ (ma0 [] [] (fun γ1 => [(1, .pointer (some ⟨γ1 0, 0, none⟩))]) (fun γ1 L => bx (γ1 0) (#[.int .u64 a.hi, .int .u64 a.lo, .int .u64 a.w]) 33 :: L) (fun γ1 => ds_ (sq_ (ao_ (qo0 2 [(1, .go (owns 0 2 1))] [1] [(4, .int .u64 a.w)] ?_))))))
 rcases q3 : wB a.w with _ | _
 ·
  refine cD (.bool false) Try.call77 (fun w hw => by have := rweight_t a.w w; rw [q3] at this; exact this) (qo0 7 [] [] [(2, .bool false)] (on_ (ds_ (rt ([]) (.bool false) ?_))))
  exact fun w' hw => ⟨by rw [ok_noW q3], hw.below⟩
 ·
  refine cD (.bool true) Try.call77 (fun w hw => by have := rweight_t a.w w; rw [q3] at this; exact this) ?_
  by_cases q6 : (a.hi : Int) < (68719476736 : Int)
  ·
   refine qo 7 [(6, .go (owns 0 0 1)), (7, .yes)] [] [(2, .bool true)] ([(a.hi : Int) < (68719476736 : Int)]) (al1 q6) (on_ (ds_ (rt ([]) (.bool true) ?_)))
   exact fun w' hw => ⟨by rw [ok_yesW q3 (by omega)], hw.below⟩
  ·
   refine qo 7 [(6, .go (owns 0 0 1)), (7, .no)] [] [(2, .bool false)] ([¬ ((a.hi : Int) < (68719476736 : Int))]) (al1 q6) (on_ (ds_ (rt ([]) (.bool false) ?_)))
   exact fun w' hw => ⟨by rw [ok_noH (by omega)], hw.below⟩

set_option maxRecDepth 100000 in
theorem rrun_t (r : Rn) (w : World)
 : Calls Try.prog 26 #[.agg #[.int .i64 r.id, .int .i64 r.each, .int .u64 r.th, .int .u64 r.tl, .int .u64 r.tw]] w fun e w' => e = .returned (.bool (rnB r)) ∧ Below w.heap.size w w' := by
 refine enter (Hs.start w) Try.func26 rfl Try.ntmps26 rfl (sq_ (ma0 [] [] (fun γ1 => [(1, .pointer (some ⟨γ1 0, 0, none⟩))]) (fun γ1 L => bx (γ1 0) (#[.int .i64 r.id, .int .i64 r.each, .int .u64 r.th, .int .u64 r.tl, .int .u64 r.tw]) 35 :: L) (fun γ1 => ds_ (sq_ (ao_ (qo0 2 [(1, .go (owns 0 0 1))] [1] [(4, .int .i64 r.id)] ?_))))))
 rcases q3 : idV r.id with _ | _
 ·
  refine cD (.bool false) Try.call54 (fun w hw => by have := rid_t r.id w; rw [q3] at this; exact this) (qo0 16 [] [] [(2, .bool false)] (on_ (ds_ (rt ([]) (.bool false) ?_))))
  exact fun w' hw => ⟨by rw [rn_noI q3], hw.below⟩
 ·
  refine cD (.bool true) Try.call54 (fun w hw => by have := rid_t r.id w; rw [q3] at this; exact this) ?_
  by_cases q6 : (r.each : Int) ≥ (1 : Int)
  ·
   by_cases q8 : (r.each : Int) ≤ (8 : Int)
   ·
    refine qo 13 [(5, .go (owns 0 1 1)), (6, .yes), (10, .go (owns 0 1 1)), (11, .yes), (15, .go (owns 0 2 3))] [] [(16, .bool true), (18, .agg #[.int .u64 r.th, .int .u64 r.tl, .int .u64 r.tw])] ([(r.each : Int) ≥ (1 : Int)] ++ ([(r.each : Int) ≤ (8 : Int)])) (alA (al1 q6) (al1 q8)) ?_
    rcases q10 : r.t.ok with _ | _
    ·
     refine cD (.bool false) Try.call55 (fun w hw => by have := r05right_t r.t w; rw [q10] at this; exact this) (qo0 2 [] [] [(2, .bool false)] (on_ (ds_ (rt ([]) (.bool false) ?_))))
     exact fun w' hw => ⟨by rw [rn_noT q10], hw.below⟩
    ·
     refine cD (.bool true) Try.call55 (fun w hw => by have := r05right_t r.t w; rw [q10] at this; exact this) (qo0 2 [] [] [(2, .bool true)] (on_ (ds_ (rt ([]) (.bool true) ?_))))
     exact fun w' hw => ⟨by rw [rn_yes q3 (show eachV r.each = true from by simp only [eachV, decide_eq_true_eq]; omega) q10], hw.below⟩
   ·
    refine qo 16 [(5, .go (owns 0 1 1)), (6, .yes), (10, .go (owns 0 1 1)), (11, .no)] [] [(2, .bool false)] ([(r.each : Int) ≥ (1 : Int)] ++ ([¬ ((r.each : Int) ≤ (8 : Int))])) (alA (al1 q6) (al1 q8)) (on_ (ds_ (rt ([]) (.bool false) ?_)))
    exact fun w' hw => ⟨by rw [rn_noE (show eachV r.each = false from by simp only [eachV, decide_eq_false_iff_not]; omega)], hw.below⟩
  ·
   refine qo 16 [(5, .go (owns 0 1 1)), (6, .no)] [] [(2, .bool false)] ([¬ ((r.each : Int) ≥ (1 : Int))]) (al1 q6) (on_ (ds_ (rt ([]) (.bool false) ?_)))
   exact fun w' hw => ⟨by rw [rn_noE (show eachV r.each = false from by simp only [eachV, decide_eq_false_iff_not]; omega)], hw.below⟩

set_option maxRecDepth 100000 in
theorem rrightq_t (p : Option Addr) (n cap : Nat) (ts : List Rn) (w : World)
 (hts : Sv w p ts) (hn : n = ts.length) (hb : n ≤ 1000)
 : Calls Try.prog 19 #[.agg #[.slice p n cap]] w fun e w' => e = .returned (.bool (chkQ ts)) ∧ Below w.heap.size w w' := by
 refine enter (Hs.start w) Try.func19 rfl Try.ntmps19 rfl (sq_ (ma0 [] [] (fun γ1 => [(1, .pointer (some ⟨γ1 0, 0, none⟩))]) (fun γ1 L => bx (γ1 0) (#[.slice p n cap]) 24 :: L) (fun γ1 => ds_ (sq_ (sq_ (qa0 [(1, .go (owns 0 0 1))] [1] [(6, .slice p n cap), (7, .int .i64 (n : Nat)), (8, .int .i64 0)] (ds_ (at_block (at_loop (α := Nat) [1, 6, 7, 8] (fun j => [(1, .pointer (some ⟨γ1 0, 0, none⟩)), (6, .slice p n cap), (7, .int .i64 (n : Nat)), (8, .int .i64 (j : Nat))]) (fun j => [bx (γ1 0) (#[.slice p n cap]) 24]) (fun j => j ≤ n ∧ Ris Rn.id (ts.take j) ∧ ∀ y ∈ ts.take j, rnB y = true) (fun j => n - j) 0 (by kernel_rfl) rfl ⟨Nat.zero_le _, ris_take0T, all_take0T⟩ ?_)))))))))
 rintro j
 rintro ⟨hj, hR, hA⟩
 refine sq_ ?_
 by_cases q4 : ((j : Nat) : Int) < ((n : Nat) : Int)
 ·
  refine qa [(0, .yes)] [1, 6, 7, 8] [(9, .bool true)] ([((j : Nat) : Int) < ((n : Nat) : Int)]) (al1 q4) (ds_ (sq_ (t_ (at_skip (ds_ (sq_ (at_block (sq_ ?_))))))))
  obtain ⟨b7, o7, rfl⟩ := hts.pos (i := j) (by omega)
  obtain ⟨x9, hx9⟩ := get_some (l := ts) (m := j) (by omega)
  refine ma [(1, .at b7 o7 j), (2, .go (outs b7 (o7 + j * 5) [.int .i64 x9.id, .int .i64 x9.each, .int .u64 x9.th, .int .u64 x9.tl, .int .u64 x9.tw])), (5, .go (owns 0 0 5))] [1, 6, 7, 8] (fun γ10 => [(3, .int .i64 (j : Nat)), (4, .pointer (some ⟨γ10 0, 0, none⟩))]) (fun γ10 L => bx (γ10 0) (#[.int .i64 x9.id, .int .i64 x9.each, .int .u64 x9.th, .int .u64 x9.tl, .int .u64 x9.tw]) 35 :: L) (fun γ10 => [(some ⟨b7, o7, none⟩ : Option Addr) = some ⟨b7, o7, none⟩, (j : Nat) = ((j : Nat) : Int), j < n] ++ (cellsP w b7 (o7 + j * 5) [.int .i64 x9.id, .int .i64 x9.each, .int .u64 x9.th, .int .u64 x9.tl, .int .u64 x9.tw])) (fun γ10 => (alA (al2 rfl (al2 rfl (al1 (by omega)))) (rd_pre (hts.get hx9) _ rfl))) (fun γ10 => ds_ (sq_ ?_))
  rcases q11 : rnB x9 with _ | _
  ·
   refine at_calm rfl (by kernel_rfl) (by kernel_rfl) ?_
   refine cm 1 [(0, .go (owns 0 0 5))] [1, 3, 4, 6, 7, 8] [(13, .agg #[.int .i64 x9.id, .int .i64 x9.each, .int .u64 x9.th, .int .u64 x9.tl, .int .u64 x9.tw])] ([]) (by kernel_rfl) rfl al0 ?_
   refine cK (.bool false) Try.call26 (fun w hw => by have := rrun_t x9 w; rw [q11] at this; exact this) ?_
   refine cm 17 [] [1, 6, 7, 8] [(31, .bool true)] ([]) (by kernel_rfl) rfl al0 ?_
   refine calm_nil' ?_
   refine ds_ (t_ (sq_ (qa0 [] [] [(2, .bool false)] (ds_ (rt ([]) (.bool false) ?_)))))
   exact fun w' hw => ⟨by rw [chk_badR hx9 q11], hw.below⟩
  ·
   by_cases q15 : ((j : Nat) : Int) > (0 : Int)
   ·
    obtain ⟨x16, hx16⟩ := get_some (l := ts) (m := j - 1) (by omega)
    by_cases q17 : (x16.id : Int) ≥ (x9.id : Int)
    ·
     refine at_calm rfl (by kernel_rfl) (by kernel_rfl) ?_
     refine cm 1 [(0, .go (owns 0 0 5))] [1, 3, 4, 6, 7, 8] [(13, .agg #[.int .i64 x9.id, .int .i64 x9.each, .int .u64 x9.th, .int .u64 x9.tl, .int .u64 x9.tw])] ([]) (by kernel_rfl) rfl al0 ?_
     refine cK (.bool true) Try.call26 (fun w hw => by have := rrun_t x9 w; rw [q11] at this; exact this) ?_
     refine cm 17 [(5, .yes), (8, .go (owns 1 0 1)), (10, .fit), (11, .at b7 o7 (j - 1)), (13, .go (outs b7 (o7 + (j - 1) * 5) [.int .i64 x16.id])), (15, .go (owns 0 0 1)), (16, .yes)] [1, 6, 7, 8] [(31, .bool true)] ([((j : Nat) : Int) > (0 : Int)] ++ ([Fit .i64 ((j : Nat) - 1)] ++ ([(some ⟨b7, o7, none⟩ : Option Addr) = some ⟨b7, o7, none⟩, ((j : Nat) - 1) = ((j - 1 : Nat) : Int), j - 1 < n] ++ (cellsP w b7 (o7 + (j - 1) * 5) [.int .i64 x16.id] ++ ([(x16.id : Int) ≥ (x9.id : Int)]))))) (by kernel_rfl) rfl (alA (al1 q15) (alA (al1 (fit64 (by omega) (by omega))) (alA (al2 rfl (al2 (by omega) (al1 (by omega)))) (alA (rd_pre (hts.get hx16) _ rfl) (al1 q17))))) ?_
     refine calm_nil' ?_
     refine ds_ (t_ (sq_ (qa0 [] [] [(2, .bool false)] (ds_ (rt ([]) (.bool false) ?_)))))
     exact fun w' hw => ⟨by rw [chk_badI hx9 hx16 (by omega) (by omega)], hw.below⟩
    ·
     refine at_calm rfl (by kernel_rfl) (by kernel_rfl) ?_
     refine cm 1 [(0, .go (owns 0 0 5))] [1, 3, 4, 6, 7, 8] [(13, .agg #[.int .i64 x9.id, .int .i64 x9.each, .int .u64 x9.th, .int .u64 x9.tl, .int .u64 x9.tw])] ([]) (by kernel_rfl) rfl al0 ?_
     refine cK (.bool true) Try.call26 (fun w hw => by have := rrun_t x9 w; rw [q11] at this; exact this) ?_
     refine cm 17 [(5, .yes), (8, .go (owns 1 0 1)), (10, .fit), (11, .at b7 o7 (j - 1)), (13, .go (outs b7 (o7 + (j - 1) * 5) [.int .i64 x16.id])), (15, .go (owns 0 0 1)), (16, .no)] [1, 6, 7, 8] [(31, .bool false)] ([((j : Nat) : Int) > (0 : Int)] ++ ([Fit .i64 ((j : Nat) - 1)] ++ ([(some ⟨b7, o7, none⟩ : Option Addr) = some ⟨b7, o7, none⟩, ((j : Nat) - 1) = ((j - 1 : Nat) : Int), j - 1 < n] ++ (cellsP w b7 (o7 + (j - 1) * 5) [.int .i64 x16.id] ++ ([¬ ((x16.id : Int) ≥ (x9.id : Int))]))))) (by kernel_rfl) rfl (alA (al1 q15) (alA (al1 (fit64 (by omega) (by omega))) (alA (al2 rfl (al2 (by omega) (al1 (by omega)))) (alA (rd_pre (hts.get hx16) _ rfl) (al1 q17))))) ?_
     refine calm_nil' ?_
     refine ds_ (f_ (at_skip (done_block (ds_ (qa [(0, .fit)] [1, 6, 7] [(8, .int .i64 (j + 1 : Nat))] ([Fit .i64 ((j + 1 : Nat))]) (al1 (fit64 (by omega) (by omega))) (Done.drop (L' := [bx (γ1 0) (#[.slice (some ⟨b7, o7, none⟩) n cap]) 24]) ?_ (List.Sublist.cons _ (List.Sublist.cons_cons _ (List.Sublist.refl _)))))))))
     exact dr [1, 6, 7, 8] (j + 1) ⟨by omega, ris_take_onT hR hx9 (.inr ⟨x16, hx16, by omega⟩), all_onT hA hx9 q11⟩
   ·
    refine at_calm rfl (by kernel_rfl) (by kernel_rfl) ?_
    refine cm 1 [(0, .go (owns 0 0 5))] [1, 3, 4, 6, 7, 8] [(13, .agg #[.int .i64 x9.id, .int .i64 x9.each, .int .u64 x9.th, .int .u64 x9.tl, .int .u64 x9.tw])] ([]) (by kernel_rfl) rfl al0 ?_
    refine cK (.bool true) Try.call26 (fun w hw => by have := rrun_t x9 w; rw [q11] at this; exact this) ?_
    refine cm 17 [(5, .no)] [1, 6, 7, 8] [(31, .bool false)] ([¬ (((j : Nat) : Int) > (0 : Int))]) (by kernel_rfl) rfl (al1 q15) ?_
    refine calm_nil' ?_
    refine ds_ (f_ (at_skip (done_block (ds_ (qa [(0, .fit)] [1, 6, 7] [(8, .int .i64 (j + 1 : Nat))] ([Fit .i64 ((j + 1 : Nat))]) (al1 (fit64 (by omega) (by omega))) (Done.drop (L' := [bx (γ1 0) (#[.slice (some ⟨b7, o7, none⟩) n cap]) 24]) ?_ (List.Sublist.cons _ (List.Sublist.cons_cons _ (List.Sublist.refl _)))))))))
    exact dr [1, 6, 7, 8] (j + 1) ⟨by omega, ris_take_onT hR hx9 (.inl (by omega)), all_onT hA hx9 q11⟩
 ·
  refine qa [(0, .no)] [1, 6, 7, 8] [(9, .bool false)] ([¬ (((j : Nat) : Int) < ((n : Nat) : Int))]) (al1 q4) (ds_ (sq_ (f_ (at_leave _ rfl (ds_ (sq_ (qa0 [] [] [(2, .bool true)] (ds_ (rt ([]) (.bool true) ?_)))))))))
  exact fun w' hw => ⟨by rw [chk_good hR hA (by omega)], hw.below⟩

set_option maxRecDepth 100000 in
theorem rsame_t (p : Option Addr) (n cap : Nat) (ts : List Rn) (p2 : Option Addr) (n2 cap2 : Nat) (ts2 : List Rn) (w : World)
 (hts : Sv w p ts) (hn : n = ts.length) (hb : n ≤ 1000)
 (hts2 : Sv w p2 ts2) (hn2 : n2 = ts2.length) (hb2 : n2 ≤ 1000)
 : Calls Try.prog 21 #[.agg #[.slice p n cap], .agg #[.slice p2 n2 cap2]] w fun e w' => e = .returned (.bool (decide (ts = ts2))) ∧ Below w.heap.size w w' := by
 refine enter (Hs.start w) Try.func21 rfl Try.ntmps21 rfl (sq_ (ma0 [] [] (fun γ1 => [(2, .pointer (some ⟨γ1 0, 0, none⟩)), (3, .pointer (some ⟨γ1 1, 0, none⟩))]) (fun γ1 L => bx (γ1 1) (#[.slice p2 n2 cap2]) 24 :: bx (γ1 0) (#[.slice p n cap]) 24 :: L) (fun γ1 => ds_ (sq_ (sq_ ?_)))))
 by_cases q3 : ((n : Nat) : Int) ≠ ((n2 : Nat) : Int)
 ·
  refine qa [(1, .go (owns 1 0 1)), (4, .go (owns 0 0 1)), (6, .yes)] [2, 3] [(12, .bool true)] ([((n : Nat) : Int) ≠ ((n2 : Nat) : Int)]) (al1 q3) (ds_ (t_ (sq_ (qa0 [] [] [(4, .bool false)] (ds_ (rt ([]) (.bool false) ?_))))))
  exact fun w' hw => ⟨by rw [dsame_len (l := ts) (l2 := ts2) (by omega)], hw.below⟩
 ·
  refine qa [(1, .go (owns 1 0 1)), (4, .go (owns 0 0 1)), (6, .no)] [2, 3] [(12, .bool false)] ([¬ (((n : Nat) : Int) ≠ ((n2 : Nat) : Int))]) (al1 q3) (ds_ (f_ (at_skip (ds_ (sq_ (sq_ (qa0 [(1, .go (owns 1 0 1))] [2, 3] [(15, .int .i64 (n : Nat)), (16, .int .i64 0)] (ds_ (at_block (at_loop (α := Nat) [2, 3, 15, 16] (fun j => [(2, .pointer (some ⟨γ1 0, 0, none⟩)), (3, .pointer (some ⟨γ1 1, 0, none⟩)), (15, .int .i64 (n : Nat)), (16, .int .i64 (j : Nat))]) (fun j => [bx (γ1 1) (#[.slice p2 n2 cap2]) 24, bx (γ1 0) (#[.slice p n cap]) 24]) (fun j => j ≤ n ∧ ts.take j = ts2.take j) (fun j => n - j) 0 (by kernel_rfl) rfl ⟨Nat.zero_le _, rfl⟩ ?_))))))))))
  rintro j
  rintro ⟨hj, hI⟩
  refine sq_ ?_
  by_cases q9 : ((j : Nat) : Int) < ((n : Nat) : Int)
  ·
   refine qa [(0, .yes)] [2, 3, 15, 16] [(17, .bool true)] ([((j : Nat) : Int) < ((n : Nat) : Int)]) (al1 q9) (ds_ (sq_ (t_ (at_skip (ds_ (sq_ (at_block (sq_ (qa0 [] [2, 3, 15, 16] [(5, .int .i64 (j : Nat))] (ds_ (sq_ ?_)))))))))))
   obtain ⟨b13, o13, rfl⟩ := hts.pos (i := j) (by omega)
   obtain ⟨x15, hx15⟩ := get_some (l := ts) (m := j) (by omega)
   obtain ⟨b17, o17, rfl⟩ := hts2.pos (i := j) (by omega)
   obtain ⟨x19, hx19⟩ := get_some (l := ts2) (m := j) (by omega)
   by_cases q21 : x15 = x19
   ·
    refine cq [(1, .go (owns 1 0 1)), (3, .at b13 o13 j), (4, .go (outs b13 (o13 + j * 5) [.int .i64 x15.id, .int .i64 x15.each, .int .u64 x15.th, .int .u64 x15.tl, .int .u64 x15.tw])), (6, .go (owns 0 0 1)), (8, .at b17 o17 j), (9, .go (outs b17 (o17 + j * 5) [.int .i64 x19.id, .int .i64 x19.each, .int .u64 x19.th, .int .u64 x19.tl, .int .u64 x19.tw])), (10, .eqs false)] [2, 3, 15, 16] [(29, .bool false)] ([(some ⟨b13, o13, none⟩ : Option Addr) = some ⟨b13, o13, none⟩, (j : Nat) = ((j : Nat) : Int), j < n] ++ (cellsP w b13 (o13 + j * 5) [.int .i64 x15.id, .int .i64 x15.each, .int .u64 x15.th, .int .u64 x15.tl, .int .u64 x15.tw] ++ ([(some ⟨b17, o17, none⟩ : Option Addr) = some ⟨b17, o17, none⟩, (j : Nat) = ((j : Nat) : Int), j < n2] ++ (cellsP w b17 (o17 + j * 5) [.int .i64 x19.id, .int .i64 x19.each, .int .u64 x19.th, .int .u64 x19.tl, .int .u64 x19.tw] ++ ([EqRun Try.prog .neq 35 (.tmp 23) (.tmp 28) (.agg #[.int .i64 x15.id, .int .i64 x15.each, .int .u64 x15.th, .int .u64 x15.tl, .int .u64 x15.tw]) (.agg #[.int .i64 x19.id, .int .i64 x19.each, .int .u64 x19.th, .int .u64 x19.tl, .int .u64 x19.tw]) false]))))) rfl (by kernel_rfl) (by kernel_rfl) (by kernel_rfl) (alA (al2 rfl (al2 rfl (al1 (by omega)))) (alA (rd_pre (hts.get hx15) _ rfl) (alA (al2 rfl (al2 rfl (al1 (by omega)))) (alA (rd_pre (hts2.get hx19) _ rfl) (al1 (rn_ne_t (a := x15) (b := x19) q21)))))) (ds_ (f_ (at_skip (done_block (ds_ (qa [(0, .fit)] [2, 3, 15] [(16, .int .i64 (j + 1 : Nat))] ([Fit .i64 ((j + 1 : Nat))]) (al1 (fit64 (by omega) (by omega))) ?_))))))
    exact dr [2, 3, 15, 16] (j + 1) ⟨by omega, dsame_on hI hx15 hx19 q21⟩
   ·
    refine cq [(1, .go (owns 1 0 1)), (3, .at b13 o13 j), (4, .go (outs b13 (o13 + j * 5) [.int .i64 x15.id, .int .i64 x15.each, .int .u64 x15.th, .int .u64 x15.tl, .int .u64 x15.tw])), (6, .go (owns 0 0 1)), (8, .at b17 o17 j), (9, .go (outs b17 (o17 + j * 5) [.int .i64 x19.id, .int .i64 x19.each, .int .u64 x19.th, .int .u64 x19.tl, .int .u64 x19.tw])), (10, .eqs true)] [2, 3, 15, 16] [(29, .bool true)] ([(some ⟨b13, o13, none⟩ : Option Addr) = some ⟨b13, o13, none⟩, (j : Nat) = ((j : Nat) : Int), j < n] ++ (cellsP w b13 (o13 + j * 5) [.int .i64 x15.id, .int .i64 x15.each, .int .u64 x15.th, .int .u64 x15.tl, .int .u64 x15.tw] ++ ([(some ⟨b17, o17, none⟩ : Option Addr) = some ⟨b17, o17, none⟩, (j : Nat) = ((j : Nat) : Int), j < n2] ++ (cellsP w b17 (o17 + j * 5) [.int .i64 x19.id, .int .i64 x19.each, .int .u64 x19.th, .int .u64 x19.tl, .int .u64 x19.tw] ++ ([EqRun Try.prog .neq 35 (.tmp 23) (.tmp 28) (.agg #[.int .i64 x15.id, .int .i64 x15.each, .int .u64 x15.th, .int .u64 x15.tl, .int .u64 x15.tw]) (.agg #[.int .i64 x19.id, .int .i64 x19.each, .int .u64 x19.th, .int .u64 x19.tl, .int .u64 x19.tw]) true]))))) rfl (by kernel_rfl) (by kernel_rfl) (by kernel_rfl) (alA (al2 rfl (al2 rfl (al1 (by omega)))) (alA (rd_pre (hts.get hx15) _ rfl) (alA (al2 rfl (al2 rfl (al1 (by omega)))) (alA (rd_pre (hts2.get hx19) _ rfl) (al1 (rn_ne_f (a := x15) (b := x19) q21)))))) (ds_ (t_ (sq_ (qa0 [] [] [(4, .bool false)] (ds_ (rt ([]) (.bool false) ?_))))))
    exact fun w' hw => ⟨by rw [dsame_no hx15 hx19 q21], hw.below⟩
  ·
   refine qa [(0, .no)] [2, 3, 15, 16] [(17, .bool false)] ([¬ (((j : Nat) : Int) < ((n : Nat) : Int))]) (al1 q9) (ds_ (sq_ (f_ (at_leave _ rfl (ds_ (sq_ (qa0 [] [] [(4, .bool true)] (ds_ (rt ([]) (.bool true) ?_)))))))))
   exact fun w' hw => ⟨by rw [dsame_yes hI (by omega) (by omega)], hw.below⟩

set_option maxRecDepth 100000 in
theorem rtop_t (p : Option Addr) (n cap : Nat) (ts : List Rn) (w : World)
 (hts : Sv w p ts) (hn : n = ts.length) (hb : n ≤ 1000)
 (hU : ∀ r ∈ ts, r.U)
 : Calls Try.prog 23 #[.agg #[.slice p n cap]] w fun e w' => e = .returned (.tuple #[.agg #[.int .u64 (topRV ts).1.hi, .int .u64 (topRV ts).1.lo, .int .u64 (topRV ts).1.w], .bool (topRV ts).2]) ∧ Below w.heap.size w w' := by
 refine enter (Hs.start w) Try.func23 rfl Try.ntmps23 rfl (sq_ (ma0 [] [] (fun γ1 => [(1, .pointer (some ⟨γ1 0, 0, none⟩)), (2, .pointer (some ⟨γ1 1, 0, none⟩))]) (fun γ1 L => bx (γ1 1) (#[.int .u64 0, .int .u64 0, .int .u64 0]) 33 :: bx (γ1 0) (#[.slice p n cap]) 24 :: L) (fun γ1 => ds_ (sq_ (ma0 [] [1, 2] (fun γ2 => [(4, .pointer (some ⟨γ2 0, 0, none⟩))]) (fun γ2 L => bx (γ2 0) (#[.int .u64 0, .int .u64 0, .int .u64 0]) 33 :: L) (fun γ2 => ds_ (sq_ (sq_ (qa0 [(1, .go (owns 2 0 1))] [1, 2, 4] [(8, .slice p n cap), (9, .int .i64 (n : Nat)), (10, .int .i64 0)] (ds_ (at_block (at_loop (α := Nat × Fq × Bool) [1, 2, 4, 8, 9, 10] (fun ⟨j, f, b⟩ => [(1, .pointer (some ⟨γ1 0, 0, none⟩)), (2, .pointer (some ⟨γ1 1, 0, none⟩)), (4, .pointer (some ⟨γ2 0, 0, none⟩)), (8, .slice p n cap), (9, .int .i64 (n : Nat)), (10, .int .i64 (j : Nat))]) (fun ⟨j, f, b⟩ => [bx (γ2 0) (#[.int .u64 f.hi, .int .u64 f.lo, .int .u64 f.w]) 33, bx (γ1 1) (#[.int .u64 0, .int .u64 0, .int .u64 0]) 33, bx (γ1 0) (#[.slice p n cap]) 24]) (fun ⟨j, f, b⟩ => j ≤ n ∧ b = decide (0 < j) ∧ (f, b) = ((ts.take j).foldl topRS (zF, false))) (fun ⟨j, f, b⟩ => n - j) (0, zF, false) (by kernel_rfl) rfl ⟨Nat.zero_le _, rfl, rfl⟩ ?_))))))))))))
 rintro ⟨j, f, b⟩
 rintro ⟨hj, hb, hs⟩
 have hUs : f.U := by have := foldTR_U (l := ts.take j) (s := (zF, false)) (fun r hr => hU r (List.mem_of_mem_take hr)) z_U; rw [← hs] at this; exact this
 refine sq_ ?_
 by_cases q5 : ((j : Nat) : Int) < ((n : Nat) : Int)
 ·
  refine qa [(0, .yes)] [1, 2, 4, 8, 9, 10] [(11, .bool true)] ([((j : Nat) : Int) < ((n : Nat) : Int)]) (al1 q5) (ds_ (sq_ (t_ (at_skip (ds_ (sq_ (at_block (sq_ ?_))))))))
  obtain ⟨b8, o8, rfl⟩ := hts.pos (i := j) (by omega)
  obtain ⟨x10, hx10⟩ := get_some (l := ts) (m := j) (by omega)
  have hUx10 := hU x10 (List.mem_of_getElem? hx10)
  refine ma [(1, .at b8 o8 j), (2, .go (outs b8 (o8 + j * 5) [.int .i64 x10.id, .int .i64 x10.each, .int .u64 x10.th, .int .u64 x10.tl, .int .u64 x10.tw])), (5, .go (owns 0 0 5))] [1, 2, 4, 8, 9, 10] (fun γ11 => [(5, .int .i64 (j : Nat)), (6, .pointer (some ⟨γ11 0, 0, none⟩))]) (fun γ11 L => bx (γ11 0) (#[.int .i64 x10.id, .int .i64 x10.each, .int .u64 x10.th, .int .u64 x10.tl, .int .u64 x10.tw]) 35 :: L) (fun γ11 => [(some ⟨b8, o8, none⟩ : Option Addr) = some ⟨b8, o8, none⟩, (j : Nat) = ((j : Nat) : Int), j < n] ++ (cellsP w b8 (o8 + j * 5) [.int .i64 x10.id, .int .i64 x10.each, .int .u64 x10.th, .int .u64 x10.tl, .int .u64 x10.tw])) (fun γ11 => (alA (al2 rfl (al2 rfl (al1 (by omega)))) (rd_pre (hts.get hx10) _ rfl))) (fun γ11 => ds_ (sq_ ?_))
  by_cases q13 : ((j : Nat) : Int) = (0 : Int)
  ·
   refine qa [(1, .yes)] [1, 2, 4, 6, 8, 9, 10] [(23, .bool true)] ([((j : Nat) : Int) = (0 : Int)]) (al1 q13) (ds_ (t_ (ma0 [(1, .go (owns 0 2 3)), (2, .go (owns 1 0 3))] [1, 2, 4, 8, 9, 10] (fun _ => []) (fun _ L => (L.set 1 (bx (γ2 0) (#[.int .u64 x10.th, .int .u64 x10.tl, .int .u64 x10.tw]) 33))) (fun _ => done_block (ds_ (qa [(0, .fit)] [1, 2, 4, 8, 9] [(10, .int .i64 (j + 1 : Nat))] ([Fit .i64 ((j + 1 : Nat))]) (al1 (fit64 (by omega) (by omega))) (Done.drop (L' := [bx (γ2 0) (#[.int .u64 x10.th, .int .u64 x10.tl, .int .u64 x10.tw]) 33, bx (γ1 1) (#[.int .u64 0, .int .u64 0, .int .u64 0]) 33, bx (γ1 0) (#[.slice (some ⟨b8, o8, none⟩) n cap]) 24]) ?_ (List.Sublist.cons _ (List.Sublist.cons_cons _ (List.Sublist.cons_cons _ (List.Sublist.cons_cons _ (List.Sublist.refl _))))))))))))
   exact dr [1, 2, 4, 8, 9, 10] (j + 1, x10.t, true) ⟨by omega, by simp, by rw [topR_on hx10, ← hs, topRS_yes (.inl (by rw [hb]; exact decide_eq_false (by omega)))]⟩
  ·
   refine ao_ (qo 6 [(1, .no), (4, .go (owns 0 2 3)), (5, .go (owns 1 0 3))] [1, 2, 4, 6, 8, 9, 10] [(17, .bool false), (19, .agg #[.int .u64 x10.th, .int .u64 x10.tl, .int .u64 x10.tw]), (20, .agg #[.int .u64 f.hi, .int .u64 f.lo, .int .u64 f.w])] ([¬ (((j : Nat) : Int) = (0 : Int))]) (al1 q13) (cD (.int .i64 (cmpI (x10.t.num * f.w) (f.num * x10.t.w))) Try.call50 (fun w hw => rcmp_t x10.t f w hUx10.t hUs) ?_))
   by_cases q19 : ((cmpI (x10.t.num * f.w) (f.num * x10.t.w)) : Int) > (0 : Int)
   ·
    refine qo 2 [(7, .yes)] [1, 2, 4, 6, 8, 9, 10] [(23, .bool true)] ([((cmpI (x10.t.num * f.w) (f.num * x10.t.w)) : Int) > (0 : Int)]) (al1 q19) (on_ (ds_ (t_ (ma0 [(1, .go (owns 0 2 3)), (2, .go (owns 1 0 3))] [1, 2, 4, 8, 9, 10] (fun _ => []) (fun _ L => (L.set 1 (bx (γ2 0) (#[.int .u64 x10.th, .int .u64 x10.tl, .int .u64 x10.tw]) 33))) (fun _ => done_block (ds_ (qa [(0, .fit)] [1, 2, 4, 8, 9] [(10, .int .i64 (j + 1 : Nat))] ([Fit .i64 ((j + 1 : Nat))]) (al1 (fit64 (by omega) (by omega))) (Done.drop (L' := [bx (γ2 0) (#[.int .u64 x10.th, .int .u64 x10.tl, .int .u64 x10.tw]) 33, bx (γ1 1) (#[.int .u64 0, .int .u64 0, .int .u64 0]) 33, bx (γ1 0) (#[.slice (some ⟨b8, o8, none⟩) n cap]) 24]) ?_ (List.Sublist.cons _ (List.Sublist.cons_cons _ (List.Sublist.cons_cons _ (List.Sublist.cons_cons _ (List.Sublist.refl _)))))))))))))
    exact dr [1, 2, 4, 8, 9, 10] (j + 1, x10.t, true) ⟨by omega, by simp, by rw [topR_on hx10, ← hs, topRS_yes (.inr (by simp only; omega))]⟩
   ·
    refine qo 2 [(7, .no)] [1, 2, 4, 6, 8, 9, 10] [(23, .bool false)] ([¬ (((cmpI (x10.t.num * f.w) (f.num * x10.t.w)) : Int) > (0 : Int))]) (al1 q19) (on_ (ds_ (f_ (at_skip (done_block (ds_ (qa [(0, .fit)] [1, 2, 4, 8, 9] [(10, .int .i64 (j + 1 : Nat))] ([Fit .i64 ((j + 1 : Nat))]) (al1 (fit64 (by omega) (by omega))) (Done.drop (L' := [bx (γ2 0) (#[.int .u64 f.hi, .int .u64 f.lo, .int .u64 f.w]) 33, bx (γ1 1) (#[.int .u64 0, .int .u64 0, .int .u64 0]) 33, bx (γ1 0) (#[.slice (some ⟨b8, o8, none⟩) n cap]) 24]) ?_ (List.Sublist.cons _ (List.Sublist.cons_cons _ (List.Sublist.cons_cons _ (List.Sublist.cons_cons _ (List.Sublist.refl _)))))))))))))
    exact dr [1, 2, 4, 8, 9, 10] (j + 1, f, b) ⟨by omega, by rw [hb]; simp; omega, by rw [topR_on hx10, ← hs, topRS_no (by rw [hb]; exact decide_eq_true (by omega)) (by simp only; omega)]⟩
 ·
  refine qa [(0, .no)] [1, 2, 4, 8, 9, 10] [(11, .bool false)] ([¬ (((j : Nat) : Int) < ((n : Nat) : Int))]) (al1 q5) (ds_ (sq_ (f_ (at_leave _ rfl (ds_ (sq_ ?_))))))
  by_cases q26 : ((n : Nat) : Int) > (0 : Int)
  ·
   refine at_any (by kernel_rfl) ?_
   refine tk (m := 6) [1] [] [2, 4] [(28, .pointer (some ⟨γ1 0, 0, none⟩))] ([]) #[false, true, false, false, false, false, false] al0 ?_
   refine any_cutX (V := Unit) (fun _ => True) 0 #[true, true, true, true, true, true, true] (fun _ => [(2, .pointer (some ⟨γ1 1, 0, none⟩)), (3, .bool true)]) (fun _ => [bx (γ2 0) (#[.int .u64 f.hi, .int .u64 f.lo, .int .u64 f.w]) 33, bx (γ1 1) (#[.int .u64 f.hi, .int .u64 f.lo, .int .u64 f.w]) 33, bx (γ1 0) (#[.slice p n cap]) 24]) ?_ (fun hmx5 => ?_)
   rotate_left
   ·
    refine any_cutX (V := Unit) (fun _ => True) 2 #[true, true, true, true, true, false, false] (fun _ => [(2, .pointer (some ⟨γ1 1, 0, none⟩)), (27, .agg #[.int .u64 f.hi, .int .u64 f.lo, .int .u64 f.w]), (31, .bool true)]) (fun _ => [bx (γ2 0) (#[.int .u64 f.hi, .int .u64 f.lo, .int .u64 f.w]) 33, bx (γ1 1) (#[.int .u64 0, .int .u64 0, .int .u64 0]) 33, bx (γ1 0) (#[.slice p n cap]) 24]) ?_ (fun hmx4 => ?_)
    ·
     rintro _ _
     refine a1 5 rfl ?_
     refine mo0 1 [(5, .go (owns 1 0 3))] [2, 31] (fun _ => []) (fun _ L => (L.set 1 (bx (γ1 1) (#[.int .u64 f.hi, .int .u64 f.lo, .int .u64 f.w]) 33))) (fun _ => ?_)
     refine od_ ?_
     refine tk (m := 0) [6] [] [2] [(3, .bool true)] ([]) #[true, true, true, true, true, true, true] al0 ?_
     exact wk (hmx5 () trivial) [2, 3] [[_], [_], [_]] [0, 1, 2] rfl rfl
    refine any_cutX (V := Unit) (fun _ => True) 3 #[false, true, true, true, true, false, false] (fun _ => [(2, .pointer (some ⟨γ1 1, 0, none⟩)), (4, .pointer (some ⟨γ2 0, 0, none⟩)), (31, .bool true)]) (fun _ => [bx (γ2 0) (#[.int .u64 f.hi, .int .u64 f.lo, .int .u64 f.w]) 33, bx (γ1 1) (#[.int .u64 0, .int .u64 0, .int .u64 0]) 33, bx (γ1 0) (#[.slice p n cap]) 24]) ?_ (fun hmx3 => ?_)
    ·
     rintro _ _
     refine a1 0 rfl ?_
     refine qo0 1 [(0, .go (owns 0 0 3))] [2, 31] [(27, .agg #[.int .u64 f.hi, .int .u64 f.lo, .int .u64 f.w])] ?_
     refine od_ ?_
     exact wk (hmx4 () trivial) [2, 27, 31] [[_], [_], [_]] [0, 1, 2] rfl rfl
    refine any_cutX (V := Unit) (fun _ => True) 4 #[true, true, false, false, false, true, false] (fun _ => [(2, .pointer (some ⟨γ1 1, 0, none⟩)), (28, .pointer (some ⟨γ1 0, 0, none⟩))]) (fun _ => [bx (γ2 0) (#[.int .u64 f.hi, .int .u64 f.lo, .int .u64 f.w]) 33, bx (γ1 1) (#[.int .u64 f.hi, .int .u64 f.lo, .int .u64 f.w]) 33, bx (γ1 0) (#[.slice p n cap]) 24]) ?_ (fun hmx2 => ?_)
    ·
     rintro _ _
     refine a1 2 rfl ?_
     refine qo0 1 [(2, .go (owns 2 0 1))] [2] [(29, .slice p n cap)] ?_
     refine od_ ?_
     refine tk (m := 0) [3, 4, 6] [(4, .yes)] [2] [(3, .bool true)] ([((n : Nat) : Int) > (0 : Int)]) #[true, true, true, true, true, true, true] (al1 q26) ?_
     exact wk (hmx5 () trivial) [2, 3] [[_], [_], [_]] [0, 1, 2] rfl rfl
    refine any_cutX (V := Unit) (fun _ => True) 5 #[true, true, false, false, false, false, false] (fun _ => [(2, .pointer (some ⟨γ1 1, 0, none⟩)), (27, .agg #[.int .u64 f.hi, .int .u64 f.lo, .int .u64 f.w]), (28, .pointer (some ⟨γ1 0, 0, none⟩))]) (fun _ => [bx (γ2 0) (#[.int .u64 f.hi, .int .u64 f.lo, .int .u64 f.w]) 33, bx (γ1 1) (#[.int .u64 0, .int .u64 0, .int .u64 0]) 33, bx (γ1 0) (#[.slice p n cap]) 24]) ?_ (fun hmx1 => ?_)
    ·
     rintro _ _
     refine any_fork [2, 5] (by kernel_rfl) (by simp) (each_cons _ rfl ?_ (each_cons _ rfl ?_ (each_nil)))
     ·
      refine qo0 1 [(2, .go (owns 2 0 1))] [2, 27] [(29, .slice p n cap)] ?_
      refine od_ ?_
      refine tk (m := 2) [3, 4] [(4, .yes)] [2, 27] [(31, .bool true)] ([((n : Nat) : Int) > (0 : Int)]) #[true, true, true, true, true, false, false] (al1 q26) ?_
      exact wk (hmx4 () trivial) [2, 27, 31] [[_], [_], [_]] [0, 1, 2] rfl rfl
     ·
      refine mo0 1 [(5, .go (owns 1 0 3))] [2, 28] (fun _ => []) (fun _ L => (L.set 1 (bx (γ1 1) (#[.int .u64 f.hi, .int .u64 f.lo, .int .u64 f.w]) 33))) (fun _ => ?_)
      refine od_ ?_
      exact wk (hmx2 () trivial) [2, 28] [[_], [_], [_]] [0, 1, 2] rfl rfl
    refine any_fork [0, 2] (by kernel_rfl) (by simp) (each_cons _ rfl ?_ (each_cons _ rfl ?_ (each_nil)))
    ·
     refine qo0 1 [(0, .go (owns 0 0 3))] [2, 28] [(27, .agg #[.int .u64 f.hi, .int .u64 f.lo, .int .u64 f.w])] ?_
     refine od_ ?_
     exact wk (hmx1 () trivial) [2, 27, 28] [[_], [_], [_]] [0, 1, 2] rfl rfl
    ·
     refine qo0 1 [(2, .go (owns 2 0 1))] [2, 4] [(29, .slice p n cap)] ?_
     refine od_ ?_
     refine tk (m := 3) [3, 4] [(4, .yes)] [2, 4] [(31, .bool true)] ([((n : Nat) : Int) > (0 : Int)]) #[false, true, true, true, true, false, false] (al1 q26) ?_
     exact wk (hmx3 () trivial) [2, 4, 31] [[_], [_], [_]] [0, 1, 2] rfl rfl
   rintro _ _
   refine any_nil (by kernel_rfl) ?_
   refine ds_ (rt (owns 1 0 3) (.tuple #[.agg #[.int .u64 f.hi, .int .u64 f.lo, .int .u64 f.w], .bool true]) ?_)
   exact fun w' hw => ⟨by rw [← topR_end (ts := ts) (j := j) (by omega), ← hs]; simp only [hb, decide_eq_true (show 0 < j from by omega)], hw.below⟩
  ·
   refine at_any (by kernel_rfl) ?_
   refine tk (m := 6) [1] [] [2, 4] [(28, .pointer (some ⟨γ1 0, 0, none⟩))] ([]) #[false, true, false, false, false, false, false] al0 ?_
   refine any_cutX (V := Unit) (fun _ => True) 0 #[true, true, true, true, true, true, true] (fun _ => [(2, .pointer (some ⟨γ1 1, 0, none⟩)), (3, .bool false)]) (fun _ => [bx (γ2 0) (#[.int .u64 f.hi, .int .u64 f.lo, .int .u64 f.w]) 33, bx (γ1 1) (#[.int .u64 f.hi, .int .u64 f.lo, .int .u64 f.w]) 33, bx (γ1 0) (#[.slice p n cap]) 24]) ?_ (fun hmx5 => ?_)
   rotate_left
   ·
    refine any_cutX (V := Unit) (fun _ => True) 2 #[true, true, true, true, true, false, false] (fun _ => [(2, .pointer (some ⟨γ1 1, 0, none⟩)), (27, .agg #[.int .u64 f.hi, .int .u64 f.lo, .int .u64 f.w]), (31, .bool false)]) (fun _ => [bx (γ2 0) (#[.int .u64 f.hi, .int .u64 f.lo, .int .u64 f.w]) 33, bx (γ1 1) (#[.int .u64 0, .int .u64 0, .int .u64 0]) 33, bx (γ1 0) (#[.slice p n cap]) 24]) ?_ (fun hmx4 => ?_)
    ·
     rintro _ _
     refine a1 5 rfl ?_
     refine mo0 1 [(5, .go (owns 1 0 3))] [2, 31] (fun _ => []) (fun _ L => (L.set 1 (bx (γ1 1) (#[.int .u64 f.hi, .int .u64 f.lo, .int .u64 f.w]) 33))) (fun _ => ?_)
     refine od_ ?_
     refine tk (m := 0) [6] [] [2] [(3, .bool false)] ([]) #[true, true, true, true, true, true, true] al0 ?_
     exact wk (hmx5 () trivial) [2, 3] [[_], [_], [_]] [0, 1, 2] rfl rfl
    refine any_cutX (V := Unit) (fun _ => True) 3 #[false, true, true, true, true, false, false] (fun _ => [(2, .pointer (some ⟨γ1 1, 0, none⟩)), (4, .pointer (some ⟨γ2 0, 0, none⟩)), (31, .bool false)]) (fun _ => [bx (γ2 0) (#[.int .u64 f.hi, .int .u64 f.lo, .int .u64 f.w]) 33, bx (γ1 1) (#[.int .u64 0, .int .u64 0, .int .u64 0]) 33, bx (γ1 0) (#[.slice p n cap]) 24]) ?_ (fun hmx3 => ?_)
    ·
     rintro _ _
     refine a1 0 rfl ?_
     refine qo0 1 [(0, .go (owns 0 0 3))] [2, 31] [(27, .agg #[.int .u64 f.hi, .int .u64 f.lo, .int .u64 f.w])] ?_
     refine od_ ?_
     exact wk (hmx4 () trivial) [2, 27, 31] [[_], [_], [_]] [0, 1, 2] rfl rfl
    refine any_cutX (V := Unit) (fun _ => True) 4 #[true, true, false, false, false, true, false] (fun _ => [(2, .pointer (some ⟨γ1 1, 0, none⟩)), (28, .pointer (some ⟨γ1 0, 0, none⟩))]) (fun _ => [bx (γ2 0) (#[.int .u64 f.hi, .int .u64 f.lo, .int .u64 f.w]) 33, bx (γ1 1) (#[.int .u64 f.hi, .int .u64 f.lo, .int .u64 f.w]) 33, bx (γ1 0) (#[.slice p n cap]) 24]) ?_ (fun hmx2 => ?_)
    ·
     rintro _ _
     refine a1 2 rfl ?_
     refine qo0 1 [(2, .go (owns 2 0 1))] [2] [(29, .slice p n cap)] ?_
     refine od_ ?_
     refine tk (m := 0) [3, 4, 6] [(4, .no)] [2] [(3, .bool false)] ([¬ (((n : Nat) : Int) > (0 : Int))]) #[true, true, true, true, true, true, true] (al1 q26) ?_
     exact wk (hmx5 () trivial) [2, 3] [[_], [_], [_]] [0, 1, 2] rfl rfl
    refine any_cutX (V := Unit) (fun _ => True) 5 #[true, true, false, false, false, false, false] (fun _ => [(2, .pointer (some ⟨γ1 1, 0, none⟩)), (27, .agg #[.int .u64 f.hi, .int .u64 f.lo, .int .u64 f.w]), (28, .pointer (some ⟨γ1 0, 0, none⟩))]) (fun _ => [bx (γ2 0) (#[.int .u64 f.hi, .int .u64 f.lo, .int .u64 f.w]) 33, bx (γ1 1) (#[.int .u64 0, .int .u64 0, .int .u64 0]) 33, bx (γ1 0) (#[.slice p n cap]) 24]) ?_ (fun hmx1 => ?_)
    ·
     rintro _ _
     refine any_fork [2, 5] (by kernel_rfl) (by simp) (each_cons _ rfl ?_ (each_cons _ rfl ?_ (each_nil)))
     ·
      refine qo0 1 [(2, .go (owns 2 0 1))] [2, 27] [(29, .slice p n cap)] ?_
      refine od_ ?_
      refine tk (m := 2) [3, 4] [(4, .no)] [2, 27] [(31, .bool false)] ([¬ (((n : Nat) : Int) > (0 : Int))]) #[true, true, true, true, true, false, false] (al1 q26) ?_
      exact wk (hmx4 () trivial) [2, 27, 31] [[_], [_], [_]] [0, 1, 2] rfl rfl
     ·
      refine mo0 1 [(5, .go (owns 1 0 3))] [2, 28] (fun _ => []) (fun _ L => (L.set 1 (bx (γ1 1) (#[.int .u64 f.hi, .int .u64 f.lo, .int .u64 f.w]) 33))) (fun _ => ?_)
      refine od_ ?_
      exact wk (hmx2 () trivial) [2, 28] [[_], [_], [_]] [0, 1, 2] rfl rfl
    refine any_fork [0, 2] (by kernel_rfl) (by simp) (each_cons _ rfl ?_ (each_cons _ rfl ?_ (each_nil)))
    ·
     refine qo0 1 [(0, .go (owns 0 0 3))] [2, 28] [(27, .agg #[.int .u64 f.hi, .int .u64 f.lo, .int .u64 f.w])] ?_
     refine od_ ?_
     exact wk (hmx1 () trivial) [2, 27, 28] [[_], [_], [_]] [0, 1, 2] rfl rfl
    ·
     refine qo0 1 [(2, .go (owns 2 0 1))] [2, 4] [(29, .slice p n cap)] ?_
     refine od_ ?_
     refine tk (m := 3) [3, 4] [(4, .no)] [2, 4] [(31, .bool false)] ([¬ (((n : Nat) : Int) > (0 : Int))]) #[false, true, true, true, true, false, false] (al1 q26) ?_
     exact wk (hmx3 () trivial) [2, 4, 31] [[_], [_], [_]] [0, 1, 2] rfl rfl
   rintro _ _
   refine any_nil (by kernel_rfl) ?_
   refine ds_ (rt (owns 1 0 3) (.tuple #[.agg #[.int .u64 f.hi, .int .u64 f.lo, .int .u64 f.w], .bool false]) ?_)
   exact fun w' hw => ⟨by rw [← topR_end (ts := ts) (j := j) (by omega), ← hs]; simp only [hb, decide_eq_false (show ¬ 0 < j from by omega)], hw.below⟩

set_option maxRecDepth 100000 in
theorem rget_t (p : Option Addr) (n cap : Nat) (ts : List Rn) (k : Int) (w : World)
 (hts : Sv w p ts) (hn : n = ts.length) (hb : n ≤ 1000)
 : Calls Try.prog 24 #[.agg #[.slice p n cap], .int .i64 k] w fun e w' => e = .returned (getO (getK Rn.id ts k)) ∧ Below w.heap.size w w' := by
 refine enter (Hs.start w) Try.func24 rfl Try.ntmps24 rfl (sq_ (ma0 [] [1] (fun γ1 => [(2, .pointer (some ⟨γ1 0, 0, none⟩)), (4, .pointer (some ⟨γ1 1, 0, none⟩))]) (fun γ1 L => bx (γ1 1) (#[.int .i64 0, .int .i64 0, .int .u64 0, .int .u64 0, .int .u64 0]) 35 :: bx (γ1 0) (#[.slice p n cap]) 24 :: L) (fun γ1 => ds_ (sq_ (sq_ (ao_ (qo0 2 [(0, .go (owns 1 0 1))] [2, 4] [(7, .agg #[.slice p n cap]), (8, .int .i64 k)] (ops_inline (g := 51) (args := #[.agg #[.slice p n cap], .int .i64 k]) (by kernel_rfl) (by kernel_rfl) (by kernel_rfl) (fun args w => Try.call51 args w) Try.func51 rfl Try.ntmps51 rfl (sq_ (ma0 [] [1] (fun γ3 => [(2, .pointer (some ⟨γ3 0, 0, none⟩))]) (fun γ3 L => bx (γ3 0) (#[.slice p n cap]) 24 :: L) (fun γ3 => ds_ (sq_ (sq_ (qa0 [(1, .go (owns 0 0 1))] [1] [(8, .slice p n cap), (9, .int .i64 (n : Nat)), (10, .int .i64 0)] (ds_ (at_block (at_loop (α := Nat) [1, 8, 9, 10] (fun j => [(1, .int .i64 k), (8, .slice p n cap), (9, .int .i64 (n : Nat)), (10, .int .i64 (j : Nat))]) (fun j => [bx (γ3 0) (#[.slice p n cap]) 24, bx (γ1 1) (#[.int .i64 0, .int .i64 0, .int .u64 0, .int .u64 0, .int .u64 0]) 35, bx (γ1 0) (#[.slice p n cap]) 24]) (fun j => j ≤ n ∧ getK Rn.id (ts.drop j) k = getK Rn.id ts k) (fun j => n - j) 0 (by kernel_rfl) rfl ⟨Nat.zero_le _, getK_start⟩ ?_)))))))))))))))))
 rintro j
 rintro ⟨hj, hI⟩
 refine sq_ ?_
 by_cases q6 : ((j : Nat) : Int) < ((n : Nat) : Int)
 ·
  refine qa [(0, .yes)] [1, 8, 9, 10] [(11, .bool true)] ([((j : Nat) : Int) < ((n : Nat) : Int)]) (al1 q6) (ds_ (sq_ (t_ (at_skip (ds_ (sq_ (at_block (sq_ ?_))))))))
  obtain ⟨b9, o9, rfl⟩ := hts.pos (i := j) (by omega)
  obtain ⟨x11, hx11⟩ := get_some (l := ts) (m := j) (by omega)
  refine ma [(1, .at b9 o9 j), (2, .go (outs b9 (o9 + j * 5) [.int .i64 x11.id, .int .i64 x11.each, .int .u64 x11.th, .int .u64 x11.tl, .int .u64 x11.tw])), (5, .go (owns 0 0 5))] [1, 8, 9, 10] (fun γ12 => [(5, .int .i64 (j : Nat)), (6, .pointer (some ⟨γ12 0, 0, none⟩))]) (fun γ12 L => bx (γ12 0) (#[.int .i64 x11.id, .int .i64 x11.each, .int .u64 x11.th, .int .u64 x11.tl, .int .u64 x11.tw]) 35 :: L) (fun γ12 => [(some ⟨b9, o9, none⟩ : Option Addr) = some ⟨b9, o9, none⟩, (j : Nat) = ((j : Nat) : Int), j < n] ++ (cellsP w b9 (o9 + j * 5) [.int .i64 x11.id, .int .i64 x11.each, .int .u64 x11.th, .int .u64 x11.tl, .int .u64 x11.tw])) (fun γ12 => (alA (al2 rfl (al2 rfl (al1 (by omega)))) (rd_pre (hts.get hx11) _ rfl))) (fun γ12 => ds_ (sq_ ?_))
  by_cases q14 : (x11.id : Int) = (k : Int)
  ·
   refine qa [(1, .go (owns 0 0 1)), (3, .yes)] [1, 5, 8, 9, 10] [(18, .bool true)] ([(x11.id : Int) = (k : Int)]) (al1 q14) (ds_ (t_ (sq_ (qa0 [] [] [(4, .int .i64 (j : Nat))] (ds_ (bk ([]) (.int .i64 (j : Nat)) (qo0 1 [] [2, 4] [(6, .int .i64 (j : Nat))] (on_ (ds_ (sq_ ?_))))))))))
   by_cases q19 : ((j : Nat) : Int) ≥ (0 : Int)
   ·
    refine qa [(1, .yes)] [2, 4, 6] [(11, .bool true)] ([((j : Nat) : Int) ≥ (0 : Int)]) (al1 q19) (ds_ (t_ (sq_ (ma [(1, .go (owns 3 0 1)), (3, .at b9 o9 j), (4, .go (outs b9 (o9 + j * 5) [.int .i64 x11.id, .int .i64 x11.each, .int .u64 x11.th, .int .u64 x11.tl, .int .u64 x11.tw])), (5, .go (owns 2 0 5))] [4] (fun _ => [(5, .bool true)]) (fun _ L => (L.set 2 (bx (γ1 1) (#[.int .i64 x11.id, .int .i64 x11.each, .int .u64 x11.th, .int .u64 x11.tl, .int .u64 x11.tw]) 35))) (fun _ => [(some ⟨b9, o9, none⟩ : Option Addr) = some ⟨b9, o9, none⟩, (j : Nat) = ((j : Nat) : Int), j < n] ++ (cellsP w b9 (o9 + j * 5) [.int .i64 x11.id, .int .i64 x11.each, .int .u64 x11.th, .int .u64 x11.tl, .int .u64 x11.tw])) (fun _ => (alA (al2 rfl (al2 rfl (al1 (by omega)))) (rd_pre (hts.get hx11) _ rfl))) (fun _ => ds_ (rt (owns 2 0 5) (.tuple #[.agg #[.int .i64 x11.id, .int .i64 x11.each, .int .u64 x11.th, .int .u64 x11.tl, .int .u64 x11.tw], .bool true]) ?_))))))
    exact fun w' hw => ⟨by rw [getK_at hI hx11 q14]; rfl, hw.below⟩
   ·
    refine qa [(1, .no)] [2, 4, 6] [(11, .bool false)] ([¬ (((j : Nat) : Int) ≥ (0 : Int))]) (al1 q19) (ds_ (f_ (at_skip (ds_ (sq_ (qa0 [(1, .go (owns 2 0 5))] [4] [(5, .bool false)] (ds_ (rt (owns 2 0 5) (.tuple #[.agg #[.int .i64 0, .int .i64 0, .int .u64 0, .int .u64 0, .int .u64 0], .bool false]) ?_))))))))
    exact fun w' hw => ⟨by rw [getK_end hI (by omega)]; rfl, hw.below⟩
  ·
   refine qa [(1, .go (owns 0 0 1)), (3, .no)] [1, 5, 8, 9, 10] [(18, .bool false)] ([¬ ((x11.id : Int) = (k : Int))]) (al1 q14) (ds_ (f_ (at_skip (done_block (ds_ (qa [(0, .fit)] [1, 8, 9] [(10, .int .i64 (j + 1 : Nat))] ([Fit .i64 ((j + 1 : Nat))]) (al1 (fit64 (by omega) (by omega))) (Done.drop (L' := [bx (γ3 0) (#[.slice (some ⟨b9, o9, none⟩) n cap]) 24, bx (γ1 1) (#[.int .i64 0, .int .i64 0, .int .u64 0, .int .u64 0, .int .u64 0]) 35, bx (γ1 0) (#[.slice (some ⟨b9, o9, none⟩) n cap]) 24]) ?_ (List.Sublist.cons _ (List.Sublist.cons_cons _ (List.Sublist.cons_cons _ (List.Sublist.cons_cons _ (List.Sublist.refl _))))))))))))
   exact dr [1, 8, 9, 10] (j + 1) ⟨by omega, getK_on hI hx11 q14⟩
 ·
  refine qa [(0, .no)] [1, 8, 9, 10] [(11, .bool false)] ([¬ (((j : Nat) : Int) < ((n : Nat) : Int))]) (al1 q6) (ds_ (sq_ (f_ (at_leave _ rfl (ds_ (sq_ (qa0 [] [] [(4, .int .i64 (-1))] (ds_ (bk ([]) (.int .i64 (-1)) (qo0 1 [] [2, 4] [(6, .int .i64 (-1))] (on_ (ds_ (sq_ (qa0 [] [2, 4, 6] [(11, .bool false)] (ds_ (f_ (at_skip (ds_ (sq_ (qa0 [(1, .go (owns 1 0 5))] [4] [(5, .bool false)] (ds_ (rt (owns 1 0 5) (.tuple #[.agg #[.int .i64 0, .int .i64 0, .int .u64 0, .int .u64 0, .int .u64 0], .bool false]) ?_))))))))))))))))))))))
  exact fun w' hw => ⟨by rw [getK_end hI (by omega)]; rfl, hw.below⟩
end Go.Proofs.Ytnhkecfapohlgaa

/-! Runners: slices.Clone, slices.Insert. -/
namespace Go.Proofs.Ytnhkecfapohlgaa
open Go Go.RowKit

set_option maxRecDepth 100000 in
theorem qclone_t (p : Option Addr) (n cap : Nat) (l : List Rn) (w : World)
    (hsl : Sv w p l) (hn : n = l.length) (hb : n ≤ 1000)
    : Calls Try.prog 78 #[.slice p n cap] w fun e w' => ∃ q capq Y, e = .returned (.slice q n capq) ∧ SlO 35 Y q n capq l ∧ Below w.heap.size w w' ∧ Hs w Y w' := by
  refine enter (Hs.start w) Try.func78 rfl Try.ntmps78 rfl (sq_ (qa0 [] [0] [] (ds_ (sq_ (sq_ ?_)))))
  rcases p with _ | a3
  ·
    refine qa0 [] [0] [(4, .bool true)] (ds_ (t_ (sq_ (qa0 [] [] [(2, .slice none 0 0)] (ds_ (rt ([]) (.slice none 0 0) ?_))))))
    exact fun w' hw => ⟨none, 0, [], by rw [hn, hsl.none]; rfl, by rw [hn, hsl.none]; exact SlO.nil, hw.below, hw.sub (List.nil_sublist _)⟩
  ·
    refine qa0 [] [0] [(4, .bool false)] (ds_ (f_ (at_skip (ds_ (sq_ (ao_ (mo0 2 [] [] (fun γ7 => [(5, .slice (some ⟨γ7 0, 0, none⟩) 0 0), (6, .slice (some a3) n cap)]) (fun γ7 L => bx (γ7 0) (#[]) 35 :: L) (fun γ7 => ops_append (α := Rn) [] ([bx (γ7 0) (#[]) 35]) ([]) (mvE rfl) rfl (by kernel_rfl) (by kernel_rfl) (p := (some ⟨γ7 0, 0, none⟩)) (n := 0) (cap := 0) (m := n) (yv := .slice (some a3) n cap) (by kernel_rfl) (by kernel_rfl) (T := 35) (by_ := 40) (by kernel_rfl) ([]) l (SlO.lit (by rfl) (by rfl) (by simp [maxLen])) (fun w hw => src_svn Try.underlying22 (hsl.kept hw.below) hn) hn (by have hmx : maxLen = 9223372036854775807 := rfl; omega) (by have hmx : maxLen = 9223372036854775807 := rfl; omega) (fun Y8 p8 cap8 hO8 => qo0 1 [] [] [(2, .slice p8 (0 + n) cap8)] (on_ (ds_ (rt ([]) (.slice p8 (0 + n) cap8) ?_))))))))))))
    exact fun w' hw => ⟨_, _, _, by rw [Nat.zero_add], by simpa using hO8, hw.below, ((hw.tailN 0).sub (List.sublist_append_left Y8 ([])))⟩
set_option maxRecDepth 100000 in
theorem overlaps_findR : Extern.find Try.f87 = some (Extern.SlicesOverlaps.overlaps Try.f87.params Try.f87.resultTypes) := by kernel_rfl
set_option maxRecDepth 100000 in
theorem overlaps_nextR : Extern.findNext Try.f87 = none := by kernel_rfl
theorem overlaps_noR {w : World} {g1 o1 g2 o2 m n c1 c2 : Nat} {cs1 cs2 : Array Value} {T1 T2 : TypeId} (h1 : w.heap[g1]? = some (.cells cs1 T1 (0, 0))) (h2 : w.heap[g2]? = some (.cells cs2 T2 (0, 0))) (hne : g1 ≠ g2) :
    (callFunc 87 #[.slice (some ⟨g1, o1, none⟩) m c1, .slice (some ⟨g2, o2, none⟩) n c2]).run Try.prog w = .ok (.value (.bool false)) w := by
  have hf := Try.func87
  have hn : (Try.f87.name == "runtime.NumGoroutine") = false := by kernel_rfl
  have hb : Try.f87.body.isNone = true := by kernel_rfl
  have hp : Try.f87.params[0]? = some 22 := by kernel_rfl
  have hu := Try.underlying22
  obtain ⟨ht', inf, z', hi, hz', _, hks, hby⟩ := elemB_spec (show elemB Try.prog 22 35 5 40 = true by kernel_rfl)
  have hs : inf.size = 5 := by omega
  have s1 : w.shape? g1 = some (T1, cs1.size) := by simp [World.shape?, h1]
  have s2 : w.shape? g2 = some (T2, cs2.size) := by simp [World.shape?, h2]
  have f1 : ∀ j, w.frozen? ⟨g1, j, none⟩ = false := fun j => froz_own h1 j
  have f2 : ∀ j, w.frozen? ⟨g2, j, none⟩ = false := fun j => froz_own h2 j
  have run1 : ∀ args, (callFunc 87 args).run Try.prog w = ((Extern.SlicesOverlaps.overlaps Try.f87.params Try.f87.resultTypes args).run Try.prog w).andThen fun v w' => .ok (.value v) w' := fun args => by
    simp only [callFunc, Sem.run_bind, run_program, Result.andThen_ok, hf, hn, hb, overlaps_nextR, overlaps_findR]
    simp [mark, Sem.run, Sem.run_bind]
  rw [run1]
  have hne' : (g1 == g2) = false := by simpa using hne
  have hs' : (do let i ← typeInfo 35; pure i.size : Sem Nat).run Try.prog w = .ok 5 w := by simp [typeInfo, hi, hs]
  delta Extern.SlicesOverlaps.overlaps
  conv => lhs; arg 1; arg 2; whnf
  have hu' : Try.prog.underlying (Try.f87.params[0]'(by decide)) = some (.slice 35) := by kernel_rfl
  have sb : ∀ (α β : Type) (x : Sem α) (f : α → Sem β) (P : Program) (w : World), (x.bind f).run P w = (x.run P w).andThen fun a w' => (f a).run P w' := fun α β x f P w => Sem.run_bind' P x f w
  by_cases hm : m = 0 ∨ n = 0 ∨ inf.size = 0
  · simp [Sem.run, sb, hu', sizeOf, typeInfo, hi, hm]
  · simp [Sem.run, sb, hu', sizeOf, typeInfo, hi, hm, bne, hne', hne, noView, viewAt, mayBeOne, stringish, shape, frozen, s1, s2, f1, f2]

set_option maxRecDepth 100000 in
theorem qinsert_t (w0 : World) (X Y : List Ob) (p : Option Addr) (n cap : Nat) (l : List Rn) (i gv : Nat) (cv : Array Value) (m : Nat) (vl : List Rn) (w : World)
    (hH : Hs w0 (bx gv cv 35 :: (Y ++ X)) w) (hO : SlO 35 Y p n cap l) (hcv : cv.toList = vl.flatMap Enc.enc) (hm : m = vl.length) (hm0 : 0 < m) (hi : i ≤ n) (hb : n ≤ 1000) (hmb : m ≤ 1000)
    : Calls Try.prog 80 #[.slice p n cap, .int .i64 (i : Nat), .slice (some ⟨gv, 0, none⟩) m m] w fun e w' => ∃ q capq Y', e = .returned (.slice q (n + m) capq) ∧ SlO 35 Y' q (n + m) capq (l.take i ++ vl ++ l.drop i) ∧ Hs w0 (Y' ++ X) w' := by
  have hn := hO.len
  refine enter hH Try.func80 rfl Try.ntmps80 rfl (sq_ (qa0 [] [0, 1, 2] [] (ds_ (sq_ (qa [(2, .sl (.slice (if cap = i then p else p.map (·.add (i * 5))) (n - i) (cap - i)))] [0, 1, 2] [] ([SlRun Try.prog 22 (.slice p n cap) (some (.int .i64 (i : Nat))) none none (.slice (if cap = i then p else p.map (·.add (i * 5))) (n - i) (cap - i))]) (al1 (slE_cut (P := Try.prog) (T := 22) (e := 35) (k := 5) (by_ := 40) (by kernel_rfl) hi)) (ds_ (sq_ (qa0 [] [0, 1, 2] [(7, .int .i64 (m : Nat))] (ds_ (sq_ (sq_ (qa [(1, .no)] [0, 1, 2, 7] [(16, .bool false)] ([¬ (((m : Nat) : Int) = (0 : Int))]) (al1 (by omega)) (ds_ (f_ (at_skip (ds_ (sq_ (qa0 [] [0, 1, 2, 7] [(8, .int .i64 (n : Nat))] (ds_ (sq_ (sq_ ?_)))))))))))))))))))))
  by_cases q7 : ((i : Nat) : Int) = ((n : Nat) : Int)
  ·
    refine qa [(2, .yes)] [0, 1, 2, 7, 8] [(22, .bool true)] ([((i : Nat) : Int) = ((n : Nat) : Int)]) (al1 q7) (ds_ (t_ (sq_ (ao_ (qo0 2 [] [] [(23, .slice p n cap), (24, .slice (some ⟨gv, 0, none⟩) m m)] (ops_append (α := Rn) [bx gv cv 35] Y X (.refl _) rfl (by kernel_rfl) (by kernel_rfl) (p := p) (n := n) (cap := cap) (m := m) (yv := .slice (some ⟨gv, 0, none⟩) m m) (by kernel_rfl) (by kernel_rfl) (T := 35) (by_ := 40) (by kernel_rfl) l vl hO (fun w hw => src_svn Try.underlying22 (sv_row (hw.row 0 rfl) hcv) hm) hm (by have hmx : maxLen = 9223372036854775807 := rfl; omega) (by have hmx : maxLen = 9223372036854775807 := rfl; omega) (fun Y10 p10 cap10 hO10 => qo0 1 [] [] [(6, .slice p10 (n + m) cap10)] (on_ (ds_ (rt ([]) (.slice p10 (n + m) cap10) ?_))))))))))
    exact fun w' hw => ⟨_, _, _, rfl, by rw [show i = l.length by omega, List.take_length, List.drop_length, List.append_nil]; exact hO10, hw.tailN 1⟩
  ·
    refine qa [(2, .no)] [0, 1, 2, 7, 8] [(22, .bool false)] ([¬ (((i : Nat) : Int) = ((n : Nat) : Int))]) (al1 q7) (ds_ (f_ (at_skip (ds_ (sq_ (sq_ ?_))))))
    obtain ⟨g, cs, rfl, rfl, hOw⟩ := hO.rowOf (i := i) (by omega)
    have hcap := hOw.le
    have hcs := hOw.csz
    have hmax := hOw.max
    by_cases q15 : ((n + m : Nat) : Int) > ((cap : Nat) : Int)
    ·
      refine qa [(2, .fit), (5, .yes)] [0, 1, 2, 7, 8] [(31, .bool true)] ([Fit .i64 ((n + m : Nat))] ++ ([((n + m : Nat) : Int) > ((cap : Nat) : Int)])) (alA (al1 (fit64 (by omega) (by omega))) (al1 q15)) (ds_ (t_ (sq_ (ao_ (qo 8 [(2, .sl (.slice (some ⟨g, 0, none⟩) i cap)), (5, .fit), (7, .is [] (.int .i64 (n + m - i : Nat)))] [0, 1, 2, 7] [(34, .slice (some ⟨g, 0, none⟩) i cap), (39, .int .i64 (n + m - i : Nat))] ([SlRun Try.prog 22 (.slice (some ⟨g, 0, none⟩) n cap) none (some (.int .i64 (i : Nat))) none (.slice (some ⟨g, 0, none⟩) i cap)] ++ ([Fit .i64 ((n + m : Nat))] ++ ([Value.int .i64 (IntKind.i64.wrap ((((n + m : Nat)) : Int) - ((i : Nat) : Int))) = .int .i64 (n + m - i : Nat)]))) (alA (al1 (slE_hi (P := Try.prog) (T := 22) (e := 35) (k := 5) (by_ := 40) (by kernel_rfl) (h := i) (by omega))) (alA (al1 (fit64 (by omega) (by omega))) (al1 (by rw [wrap_fit (fit64 (by omega) (by omega))]; congr 1; omega)))) (ops_appendZ rfl (by kernel_rfl) (by kernel_rfl) (p := some ⟨g, 0, none⟩) (m := i) (cap := cap) (n := n + m - i) ((cs.toList.drop 0).take (i * 5)) (by kernel_rfl) (by kernel_rfl) (T := 35) (ks := 5) (by_ := 40) (by kernel_rfl) Try.underlying3 (by decide) (olds_len hcs (by omega)) (fun w hw => first_row (hw.row 1 rfl) (by rw [hcs, Nat.zero_add]; exact Nat.mul_le_mul_right _ (by omega))) (by omega) (by omega) (by simp only [maxLen]; omega) (by omega) (fun g2 c2 cap2 hc2 hle2 hmax2 hpre2 => qo0 1 [] [0, 1, 2, 7] [(9, .slice (some ⟨g2, 0, none⟩) (i + (n + m - i)) cap2)] (on_ (ds_ (sq_ (ao_ (qo 4 [(2, .sl (.slice (some ⟨g2, 0 + i * 5, none⟩) (i + (n + m - i) - i) (cap2 - i)))] [0, 1, 7, 9] [(43, .slice (some ⟨g2, 0 + i * 5, none⟩) (i + (n + m - i) - i) (cap2 - i)), (44, .slice (some ⟨gv, 0, none⟩) m m)] ([SlRun Try.prog 22 (.slice (some ⟨g2, 0, none⟩) (i + (n + m - i)) cap2) (some (.int .i64 (i : Nat))) none none (.slice (some ⟨g2, 0 + i * 5, none⟩) (i + (n + m - i) - i) (cap2 - i))]) (al1 (slE_lo (P := Try.prog) (T := 22) (e := 35) (k := 5) (by_ := 40) (by kernel_rfl) (lo := i) (by omega) (by omega))) (ops_copy 0 rfl (by kernel_rfl) (by kernel_rfl) (g := g2) (of := (0 + i * 5)) (dn := (i + (n + m - i) - i)) (dc := (cap2 - i)) (m := m) (cnt := m) (c := c2) (yv := (.slice (some ⟨gv, 0, none⟩) m m)) (vl.flatMap Enc.enc) (by kernel_rfl) (by kernel_rfl) (T := 35) (ks := 5) (by_ := 40) (by kernel_rfl) (T' := 35) (by kernel_rfl) len_slice (by omega) (fun w hw => by have := first_sv (P := Try.prog) (w := w) (p := some ⟨gv, 0, none⟩) (m := m) (cap := m) (cnt := m) (sv_row (hw.row 1 rfl) hcv) (by omega); rw [List.take_of_length_le (by omega)] at this; exact this) (by rw [flat_len, ← hm]; exact mul_room (c := cap2) (by omega) hc2) (flat_one vl) ?_)))))))))))))
      refine on_ (ds_ (sq_ (at_calmTo (f := 1) 8 rfl (by kernel_rfl) (by kernel_rfl) (by kernel_rfl) (by kernel_rfl) (by kernel_rfl) (by kernel_rfl) ?_)))
      refine cm 8 [(3, .fit), (4, .sl (.slice (some ⟨g2, 0 + (i + m) * 5, none⟩) (i + (n + m - i) - (i + m)) (cap2 - (i + m)))), (7, .sl (.slice (some ⟨g, 0 + i * 5, none⟩) (n - i) (cap - i)))] [9] [(50, .slice (some ⟨g2, 0 + (i + m) * 5, none⟩) (i + (n + m - i) - (i + m)) (cap2 - (i + m))), (53, .slice (some ⟨g, 0 + i * 5, none⟩) (n - i) (cap - i))] ([Fit .i64 ((i + m : Nat))] ++ ([SlRun Try.prog 22 (.slice (some ⟨g2, 0, none⟩) (i + (n + m - i)) cap2) (some (.int .i64 (i + m : Nat))) none none (.slice (some ⟨g2, 0 + (i + m) * 5, none⟩) (i + (n + m - i) - (i + m)) (cap2 - (i + m)))] ++ ([SlRun Try.prog 22 (.slice (some ⟨g, 0, none⟩) n cap) (some (.int .i64 (i : Nat))) none none (.slice (some ⟨g, 0 + i * 5, none⟩) (n - i) (cap - i))]))) (by kernel_rfl) rfl (alA (al1 (fit64 (by omega) (by omega))) (alA (al1 (slE_lo (P := Try.prog) (T := 22) (e := 35) (k := 5) (by_ := 40) (by kernel_rfl) (lo := i + m) (by omega) (by omega))) (al1 (slE_lo (P := Try.prog) (T := 22) (e := 35) (k := 5) (by_ := 40) (by kernel_rfl) (lo := i) (by omega) (by omega))))) ?_
      refine calm_nil' ?_
      refine done_pre (li' := #[true, true, true, true, true, true, true, true, false]) (by kernel_rfl) ?_
      refine a1 8 rfl ?_
      refine ops_copy 0 rfl (by kernel_rfl) (by kernel_rfl) (g := g2) (of := (0 + (i + m) * 5)) (dn := (i + (n + m - i) - (i + m))) (dc := (cap2 - (i + m))) (m := (n - i)) (cnt := (n - i)) (c := (sets c2 (0 + i * 5) (vl.flatMap Enc.enc))) (yv := (.slice (some ⟨g, 0 + i * 5, none⟩) (n - i) (cap - i))) ((cs.toList.drop (0 + i * 5)).take ((n - i) * 5)) (by kernel_rfl) (by kernel_rfl) (T := 35) (ks := 5) (by_ := 40) (by kernel_rfl) (T' := 35) (by kernel_rfl) len_slice (by omega) (fun w hw => first_row (hw.row 2 rfl) (row_room hOw (by omega))) (by rw [sets_size]; exact copy_room (c := cap2) hOw (by omega) (by omega) hc2) (row_one hOw (by omega)) ?_
      refine od_ ?_
      refine any_nil (by kernel_rfl) ?_
      refine ds_ (sq_ (qa0 [] [] [(6, .slice (some ⟨g2, 0, none⟩) (i + (n + m - i)) cap2)] (ds_ (rt ([]) (.slice (some ⟨g2, 0, none⟩) (i + (n + m - i)) cap2) ?_))))
      exact fun w' hw => ⟨some ⟨g2, 0, none⟩, cap2, [_], by rw [show i + (n + m - i) = n + m by omega], .inr ⟨_, _, rfl, rfl, by simp; omega, ins_grow hOw (by omega) hm (by omega) hc2 (by omega) hmax2 hpre2⟩, hw.sub (.cons_cons _ (.cons _ (.cons _ (.refl _))))⟩
    ·
      refine qa [(2, .fit), (5, .no)] [0, 1, 2, 7, 8] [(31, .bool false)] ([Fit .i64 ((n + m : Nat))] ++ ([¬ (((n + m : Nat) : Int) > ((cap : Nat) : Int))])) (alA (al1 (fit64 (by omega) (by omega))) (al1 q15)) (ds_ (f_ (at_skip (ds_ (sq_ (qa [(3, .fit), (4, .sl (.slice (some ⟨g, 0, none⟩) (n + m) cap))] [1, 2, 7, 8] [(0, .slice (some ⟨g, 0, none⟩) (n + m) cap)] ([Fit .i64 ((n + m : Nat))] ++ ([SlRun Try.prog 22 (.slice (some ⟨g, 0, none⟩) n cap) none (some (.int .i64 (n + m : Nat))) none (.slice (some ⟨g, 0, none⟩) (n + m) cap)])) (alA (al1 (fit64 (by omega) (by omega))) (al1 (slE_hi (P := Try.prog) (T := 22) (e := 35) (k := 5) (by_ := 40) (by kernel_rfl) (h := n + m) (by omega)))) (ds_ (sq_ (sq_ (ao_ (qo 6 [(4, .fit), (5, .sl (.slice (some ⟨g, 0 + (i + m) * 5, none⟩) (n + m - (i + m)) (cap - (i + m))))] [0, 1, 2, 7, 8] [(61, .slice (some ⟨gv, 0, none⟩) m m), (66, .slice (some ⟨g, 0 + (i + m) * 5, none⟩) (n + m - (i + m)) (cap - (i + m)))] ([Fit .i64 ((i + m : Nat))] ++ ([SlRun Try.prog 22 (.slice (some ⟨g, 0, none⟩) (n + m) cap) (some (.int .i64 (i + m : Nat))) none none (.slice (some ⟨g, 0 + (i + m) * 5, none⟩) (n + m - (i + m)) (cap - (i + m)))])) (alA (al1 (fit64 (by omega) (by omega))) (al1 (slE_lo (P := Try.prog) (T := 22) (e := 35) (k := 5) (by_ := 40) (by kernel_rfl) (lo := i + m) (by omega) (by omega)))) (ops_ext (f := 87) (args := #[.slice (some ⟨gv, 0, none⟩) m m, .slice (some ⟨g, 0 + (i + m) * 5, none⟩) (n + m - (i + m)) (cap - (i + m))]) (.bool false) (by kernel_rfl) (by kernel_rfl) (by kernel_rfl) (fun w hw => overlaps_noR (hw.row 0 rfl) (hw.row 1 rfl) (apart_two hw (a := 0) (b := 1) rfl rfl (by decide))) (qo0 1 [] [0, 1, 2, 7, 8] [(68, .bool true)] (on_ (ds_ (t_ (sq_ (at_calmTo (f := 1) 8 rfl (by kernel_rfl) (by kernel_rfl) (by kernel_rfl) (by kernel_rfl) (by kernel_rfl) (by kernel_rfl) ?_))))))))))))))))))
      refine cm 8 [(3, .fit), (4, .sl (.slice (some ⟨g, 0 + (i + m) * 5, none⟩) (n + m - (i + m)) (cap - (i + m)))), (7, .sl (.slice (some ⟨g, 0 + i * 5, none⟩) (n + m - i) (cap - i)))] [0, 1, 2] [(73, .slice (some ⟨g, 0 + (i + m) * 5, none⟩) (n + m - (i + m)) (cap - (i + m))), (76, .slice (some ⟨g, 0 + i * 5, none⟩) (n + m - i) (cap - i))] ([Fit .i64 ((i + m : Nat))] ++ ([SlRun Try.prog 22 (.slice (some ⟨g, 0, none⟩) (n + m) cap) (some (.int .i64 (i + m : Nat))) none none (.slice (some ⟨g, 0 + (i + m) * 5, none⟩) (n + m - (i + m)) (cap - (i + m)))] ++ ([SlRun Try.prog 22 (.slice (some ⟨g, 0, none⟩) (n + m) cap) (some (.int .i64 (i : Nat))) none none (.slice (some ⟨g, 0 + i * 5, none⟩) (n + m - i) (cap - i))]))) (by kernel_rfl) rfl (alA (al1 (fit64 (by omega) (by omega))) (alA (al1 (slE_lo (P := Try.prog) (T := 22) (e := 35) (k := 5) (by_ := 40) (by kernel_rfl) (lo := i + m) (by omega) (by omega))) (al1 (slE_lo (P := Try.prog) (T := 22) (e := 35) (k := 5) (by_ := 40) (by kernel_rfl) (lo := i) (by omega) (by omega))))) ?_
      refine calm_nil' ?_
      refine done_pre (li' := #[true, true, true, true, true, true, true, true, false]) (by kernel_rfl) ?_
      refine a1 8 rfl ?_
      refine ops_copy 1 rfl (by kernel_rfl) (by kernel_rfl) (g := g) (of := (0 + (i + m) * 5)) (dn := (n + m - (i + m))) (dc := (cap - (i + m))) (m := (n + m - i)) (cnt := (n - i)) (c := cs) (yv := (.slice (some ⟨g, 0 + i * 5, none⟩) (n + m - i) (cap - i))) ((cs.toList.drop (0 + i * 5)).take ((n - i) * 5)) (by kernel_rfl) (by kernel_rfl) (T := 35) (ks := 5) (by_ := 40) (by kernel_rfl) (T' := 35) (by kernel_rfl) len_slice (by omega) (fun w hw => first_row (hw.row 1 rfl) (row_room hOw (by omega))) (copy_room (c := cap) hOw (by omega) (by omega) hcs) (row_one hOw (by omega)) ?_
      refine od_ ?_
      refine any_nil (by kernel_rfl) ?_
      refine ds_ (sq_ (ao_ (qo 4 [(2, .sl (.slice (some ⟨g, 0 + i * 5, none⟩) (n + m - i) (cap - i)))] [0] [(80, .slice (some ⟨g, 0 + i * 5, none⟩) (n + m - i) (cap - i)), (81, .slice (some ⟨gv, 0, none⟩) m m)] ([SlRun Try.prog 22 (.slice (some ⟨g, 0, none⟩) (n + m) cap) (some (.int .i64 (i : Nat))) none none (.slice (some ⟨g, 0 + i * 5, none⟩) (n + m - i) (cap - i))]) (al1 (slE_lo (P := Try.prog) (T := 22) (e := 35) (k := 5) (by_ := 40) (by kernel_rfl) (lo := i) (by omega) (by omega))) (ops_copy 1 rfl (by kernel_rfl) (by kernel_rfl) (g := g) (of := (0 + i * 5)) (dn := (n + m - i)) (dc := (cap - i)) (m := m) (cnt := m) (c := (sets cs (0 + (i + m) * 5) ((cs.toList.drop (0 + i * 5)).take ((n - i) * 5)))) (yv := (.slice (some ⟨gv, 0, none⟩) m m)) (vl.flatMap Enc.enc) (by kernel_rfl) (by kernel_rfl) (T := 35) (ks := 5) (by_ := 40) (by kernel_rfl) (T' := 35) (by kernel_rfl) len_slice (by omega) (fun w hw => by have := first_sv (P := Try.prog) (w := w) (p := some ⟨gv, 0, none⟩) (m := m) (cap := m) (cnt := m) (sv_row (hw.row 0 rfl) hcv) (by omega); rw [List.take_of_length_le (by omega)] at this; exact this) (by rw [flat_len, ← hm, sets_size]; exact mul_room (c := cap) (by omega) hcs) (flat_one vl) (on_ (ds_ (sq_ (qa0 [] [] [(6, .slice (some ⟨g, 0, none⟩) (n + m) cap)] (ds_ (rt ([]) (.slice (some ⟨g, 0, none⟩) (n + m) cap) ?_))))))))))
      exact fun w' hw => ⟨_, _, [_], rfl, .inr ⟨_, _, rfl, rfl, by simp; omega, ins_room hOw (by omega) hm (by omega) (by omega)⟩, hw.sub (.cons _ (.refl _))⟩
end Go.Proofs.Ytnhkecfapohlgaa
