/- Texts of this proof, one behind the other. -/
import Derived.Test.YtnhkecfapohlgaaZb
import Derived.Test.YtnhkecfapohlgaaZa
import Derived.MapKept
import Derived.Laws.MakeOwn
/-! Fractions: what is reckoned with them. -/
namespace Go.Proofs.Ytnhkecfapohlgaa
open Go Go.RowKit

set_option maxRecDepth 100000 in
theorem fwith_t (a : Fq) (h l e_ : Int) (w : World)
 : Calls Try.prog 48 #[.agg #[.int .u64 a.hi, .int .u64 a.lo, .int .u64 a.w], .agg #[.int .u64 h, .int .u64 l], .int .i64 e_] w fun e w' => e = .returned (.tuple #[.agg #[.int .u64 (withV a.w h l e_).1.hi, .int .u64 (withV a.w h l e_).1.lo, .int .u64 (withV a.w h l e_).1.w], .int .i64 (withV a.w h l e_).2]) ∧ Below w.heap.size w w' := by
 refine enter (Hs.start w) Try.func48 rfl Try.ntmps48 rfl (sq_ (ma0 [] [2] (fun γ1 => [(3, .pointer (some ⟨γ1 0, 0, none⟩)), (4, .pointer (some ⟨γ1 1, 0, none⟩)), (6, .pointer (some ⟨γ1 2, 0, none⟩))]) (fun γ1 L => bx (γ1 2) (#[.int .u64 0, .int .u64 0, .int .u64 0]) 33 :: bx (γ1 1) (#[.int .u64 h, .int .u64 l]) 31 :: bx (γ1 0) (#[.int .u64 a.hi, .int .u64 a.lo, .int .u64 a.w]) 33 :: L) (fun γ1 => ds_ (sq_ (sq_ ?_)))))
 by_cases q3 : (e_ : Int) ≠ (0 : Int)
 ·
  refine qa [(1, .yes)] [3, 4, 6] [(14, .bool true)] ([(e_ : Int) ≠ (0 : Int)]) (al1 q3) (ds_ (t_ (sq_ (qa0 [(1, .go (owns 0 0 3))] [6] [(7, .int .i64 131)] (ds_ (rt (owns 0 0 3) (.tuple #[.agg #[.int .u64 0, .int .u64 0, .int .u64 0], .int .i64 131]) ?_))))))
  exact fun w' hw => ⟨by rw [with_no (by omega)], hw.below⟩
 ·
  by_cases q7 : (h : Int) ≥ (68719476736 : Int)
  ·
   refine qa [(1, .no), (4, .go (owns 1 0 1)), (5, .yes)] [3, 4, 6] [(14, .bool true)] ([¬ ((e_ : Int) ≠ (0 : Int))] ++ ([(h : Int) ≥ (68719476736 : Int)])) (alA (al1 q3) (al1 q7)) (ds_ (t_ (sq_ (qa0 [(1, .go (owns 0 0 3))] [6] [(7, .int .i64 131)] (ds_ (rt (owns 0 0 3) (.tuple #[.agg #[.int .u64 0, .int .u64 0, .int .u64 0], .int .i64 131]) ?_))))))
   exact fun w' hw => ⟨by rw [with_no (by omega)], hw.below⟩
  ·
   refine qa [(1, .no), (4, .go (owns 1 0 1)), (5, .no)] [3, 4, 6] [(14, .bool false)] ([¬ ((e_ : Int) ≠ (0 : Int))] ++ ([¬ ((h : Int) ≥ (68719476736 : Int))])) (alA (al1 q3) (al1 q7)) (ds_ (f_ (at_skip (ds_ (sq_ (ma0 [(0, .go (owns 1 0 2)), (2, .go (owns 2 2 1)), (4, .go (owns 0 0 3))] [6] (fun _ => [(7, .int .i64 0)]) (fun _ L => (L.set 0 (bx (γ1 2) (#[.int .u64 h, .int .u64 l, .int .u64 a.w]) 33))) (fun _ => ds_ (rt (owns 0 0 3) (.tuple #[.agg #[.int .u64 h, .int .u64 l, .int .u64 a.w], .int .i64 0]) ?_))))))))
   exact fun w' hw => ⟨by rw [with_yes (by omega) (by omega)], hw.below⟩

set_option maxRecDepth 100000 in
theorem fadd_t (a : Fq) (n : Int) (w : World)
 (hU : a.U) (hn0 : 0 ≤ n) (hn1 : n < 18446744073709551616)
 : Calls Try.prog 18 #[.agg #[.int .u64 a.hi, .int .u64 a.lo, .int .u64 a.w], .int .u64 n] w fun e w' => e = .returned (.tuple #[.agg #[.int .u64 (addV a n).1.hi, .int .u64 (addV a n).1.lo, .int .u64 (addV a n).1.w], .int .i64 (addV a n).2]) ∧ Below w.heap.size w w' := by
 refine enter (Hs.start w) Try.func18 rfl Try.ntmps18 rfl (sq_ (ma0 [] [1] (fun γ1 => [(2, .pointer (some ⟨γ1 0, 0, none⟩)), (4, .pointer (some ⟨γ1 1, 0, none⟩))]) (fun γ1 L => bx (γ1 1) (#[.int .u64 0, .int .u64 0, .int .u64 0]) 33 :: bx (γ1 0) (#[.int .u64 a.hi, .int .u64 a.lo, .int .u64 a.w]) 33 :: L) (fun γ1 => ds_ (sq_ (sq_ (ao_ (mo0 2 [(0, .go (owns 1 0 3))] [1, 2, 4] (fun γ2 => [(9, .slice (some ⟨γ2 0, 0, none⟩) 1 1)]) (fun γ2 L => bx (γ2 0) (#[.int .u64 a.hi, .int .u64 a.lo, .int .u64 a.w]) 33 :: L) (fun γ2 => ?_))))))))
 rcases q3 : a.ok with _ | _
 ·
  refine cD (.bool false) Try.call39 (fun w hw => by have := right_t (some ⟨γ2 0, 0, none⟩) 1 1 [a] w (sv_row (hw.row 0 rfl) rfl) rfl (by decide); rw [all1, q3] at this; exact this) (qo0 1 [] [1, 2, 4] [(11, .bool true)] (on_ (ds_ (t_ (sq_ (qa0 [(1, .go (owns 1 0 3))] [4] [(5, .int .i64 150)] (ds_ (rt (owns 1 0 3) (.tuple #[.agg #[.int .u64 0, .int .u64 0, .int .u64 0], .int .i64 150]) ?_))))))))
  exact fun w' hw => ⟨by rw [add_no q3], hw.below⟩
 ·
  refine cD (.bool true) Try.call39 (fun w hw => by have := right_t (some ⟨γ2 0, 0, none⟩) 1 1 [a] w (sv_row (hw.row 0 rfl) rfl) rfl (by decide); rw [all1, q3] at this; exact this) (qo0 1 [] [1, 2, 4] [(11, .bool false)] (on_ (ds_ (f_ (at_skip (ds_ (sq_ ?_)))))))
  refine at_any (by kernel_rfl) ?_
  refine tk (m := 9) [0, 2] [] [2, 4] [(14, .pointer (some ⟨γ1 0, 0, none⟩)), (16, .int .u64 n)] ([]) #[true, false, true, false, false, false, false, false, false, false, false] al0 ?_
  refine any_cutX (V := (Nat → Nat)) (fun γ170 => True) 0 #[true, true, true, true, true, true, true, true, true, true, true] (fun γ170 => [(2, .pointer (some ⟨γ1 0, 0, none⟩)), (4, .pointer (some ⟨γ1 1, 0, none⟩)), (6, .pointer (some ⟨γ170 0, 0, none⟩)), (7, .int .i64 0)]) (fun γ170 => [bx (γ170 0) (#[.int .u64 (hiV (a.num + n)), .int .u64 (loV (a.num + n))]) 31, bx (γ2 0) (#[.int .u64 a.hi, .int .u64 a.lo, .int .u64 a.w]) 33, bx (γ1 1) (#[.int .u64 0, .int .u64 0, .int .u64 0]) 33, bx (γ1 0) (#[.int .u64 a.hi, .int .u64 a.lo, .int .u64 a.w]) 33]) ?_ (fun hmx10 => ?_)
  rotate_left
  ·
   refine any_cutX (V := (Nat → Nat)) (fun γ170 => True) 2 #[true, true, true, true, true, true, true, true, true, false, false] (fun γ170 => [(2, .pointer (some ⟨γ1 0, 0, none⟩)), (4, .pointer (some ⟨γ1 1, 0, none⟩)), (6, .pointer (some ⟨γ170 0, 0, none⟩)), (19, .agg #[.int .u64 (hiV (a.num + n)), .int .u64 (loV (a.num + n))]), (20, .int .i64 0)]) (fun γ170 => [bx (γ170 0) (#[.int .u64 0, .int .u64 0]) 31, bx (γ2 0) (#[.int .u64 a.hi, .int .u64 a.lo, .int .u64 a.w]) 33, bx (γ1 1) (#[.int .u64 0, .int .u64 0, .int .u64 0]) 33, bx (γ1 0) (#[.int .u64 a.hi, .int .u64 a.lo, .int .u64 a.w]) 33]) ?_ (fun hmx9 => ?_)
   ·
    rintro γ170 _
    refine a1 9 rfl ?_
    refine mo0 1 [(9, .go (owns 0 0 2))] [2, 4, 6, 20] (fun _ => []) (fun _ L => (L.set 0 (bx (γ170 0) (#[.int .u64 (hiV (a.num + n)), .int .u64 (loV (a.num + n))]) 31))) (fun _ => ?_)
    refine od_ ?_
    refine tk (m := 0) [10] [] [2, 4, 6] [(7, .int .i64 0)] ([]) #[true, true, true, true, true, true, true, true, true, true, true] al0 ?_
    exact wk (hmx10 γ170 trivial) [2, 4, 6, 7] [[_], [_], [_], [_]] [0, 1, 2, 3] rfl rfl
   refine any_cutX (V := Unit) (fun _ => True) 3 #[true, true, true, true, true, true, true, true, false, false, false] (fun _ => [(2, .pointer (some ⟨γ1 0, 0, none⟩)), (4, .pointer (some ⟨γ1 1, 0, none⟩)), (19, .agg #[.int .u64 (hiV (a.num + n)), .int .u64 (loV (a.num + n))]), (20, .int .i64 0)]) (fun _ => [bx (γ2 0) (#[.int .u64 a.hi, .int .u64 a.lo, .int .u64 a.w]) 33, bx (γ1 1) (#[.int .u64 0, .int .u64 0, .int .u64 0]) 33, bx (γ1 0) (#[.int .u64 a.hi, .int .u64 a.lo, .int .u64 a.w]) 33]) ?_ (fun hmx8 => ?_)
   ·
    rintro _ _
    refine a1 8 rfl ?_
    refine mo0 1 [] [2, 4, 19, 20] (fun γ170 => [(6, .pointer (some ⟨γ170 0, 0, none⟩))]) (fun γ170 L => bx (γ170 0) (#[.int .u64 0, .int .u64 0]) 31 :: L) (fun γ170 => ?_)
    refine od_ ?_
    exact wk (hmx9 γ170 trivial) [2, 4, 6, 19, 20] [[_], [_], [_], [_]] [0, 1, 2, 3] rfl rfl
   refine any_cutX (V := (Nat → Nat)) (fun γ170 => True) 6 #[true, true, true, true, false, false, false, false, true, false, false] (fun γ170 => [(2, .pointer (some ⟨γ1 0, 0, none⟩)), (4, .pointer (some ⟨γ1 1, 0, none⟩)), (6, .pointer (some ⟨γ170 0, 0, none⟩)), (15, .agg #[.int .u64 a.hi, .int .u64 a.lo]), (17, .agg #[.int .u64 (hiV n), .int .u64 (loV n)])]) (fun γ170 => [bx (γ170 0) (#[.int .u64 0, .int .u64 0]) 31, bx (γ2 0) (#[.int .u64 a.hi, .int .u64 a.lo, .int .u64 a.w]) 33, bx (γ1 1) (#[.int .u64 0, .int .u64 0, .int .u64 0]) 33, bx (γ1 0) (#[.int .u64 a.hi, .int .u64 a.lo, .int .u64 a.w]) 33]) ?_ (fun hmx7 => ?_)
   ·
    rintro γ170 _
    refine a1 4 rfl ?_
    refine cD (.tuple #[.agg #[.int .u64 (hiV (a.num + n)), .int .u64 (loV (a.num + n))], .int .i64 0]) Try.call47 (fun w hw => fadd_v hU q3 hn0 hn1 w) ?_
    refine od_ ?_
    refine tk (m := 2) [5, 6, 7] [] [2, 4, 6] [(19, .agg #[.int .u64 (hiV (a.num + n)), .int .u64 (loV (a.num + n))]), (20, .int .i64 0)] ([]) #[true, true, true, true, true, true, true, true, true, false, false] al0 ?_
    exact wk (hmx9 γ170 trivial) [2, 4, 6, 19, 20] [[_], [_], [_], [_]] [0, 1, 2, 3] rfl rfl
   refine any_cutX (V := (Nat → Nat)) (fun γ170 => True) 7 #[true, false, true, true, false, false, false, false, true, false, false] (fun γ170 => [(2, .pointer (some ⟨γ1 0, 0, none⟩)), (4, .pointer (some ⟨γ1 1, 0, none⟩)), (6, .pointer (some ⟨γ170 0, 0, none⟩)), (14, .pointer (some ⟨γ1 0, 0, none⟩)), (17, .agg #[.int .u64 (hiV n), .int .u64 (loV n)])]) (fun γ170 => [bx (γ170 0) (#[.int .u64 0, .int .u64 0]) 31, bx (γ2 0) (#[.int .u64 a.hi, .int .u64 a.lo, .int .u64 a.w]) 33, bx (γ1 1) (#[.int .u64 0, .int .u64 0, .int .u64 0]) 33, bx (γ1 0) (#[.int .u64 a.hi, .int .u64 a.lo, .int .u64 a.w]) 33]) ?_ (fun hmx6 => ?_)
   ·
    rintro γ170 _
    refine a1 1 rfl ?_
    refine qo0 1 [(1, .go (owns 3 0 2))] [2, 4, 6, 17] [(15, .agg #[.int .u64 a.hi, .int .u64 a.lo])] ?_
    refine od_ ?_
    exact wk (hmx7 γ170 trivial) [2, 4, 6, 15, 17] [[_], [_], [_], [_]] [0, 1, 2, 3] rfl rfl
   refine any_cutX (V := (Nat → Nat)) (fun γ170 => True) 7 #[true, true, true, false, false, false, false, false, true, false, false] (fun γ170 => [(2, .pointer (some ⟨γ1 0, 0, none⟩)), (4, .pointer (some ⟨γ1 1, 0, none⟩)), (6, .pointer (some ⟨γ170 0, 0, none⟩)), (15, .agg #[.int .u64 a.hi, .int .u64 a.lo]), (16, .int .u64 n)]) (fun γ170 => [bx (γ170 0) (#[.int .u64 0, .int .u64 0]) 31, bx (γ2 0) (#[.int .u64 a.hi, .int .u64 a.lo, .int .u64 a.w]) 33, bx (γ1 1) (#[.int .u64 0, .int .u64 0, .int .u64 0]) 33, bx (γ1 0) (#[.int .u64 a.hi, .int .u64 a.lo, .int .u64 a.w]) 33]) ?_ (fun hmx5 => ?_)
   ·
    rintro γ170 _
    refine a1 3 rfl ?_
    refine cD (.agg #[.int .u64 (hiV n), .int .u64 (loV n)]) Try.call43 (fun w hw => wof_v hn0 hn1 w) ?_
    refine od_ ?_
    exact wk (hmx7 γ170 trivial) [2, 4, 6, 15, 17] [[_], [_], [_], [_]] [0, 1, 2, 3] rfl rfl
   refine any_cutX (V := Unit) (fun _ => True) 7 #[true, true, true, true, false, false, false, false, false, false, false] (fun _ => [(2, .pointer (some ⟨γ1 0, 0, none⟩)), (4, .pointer (some ⟨γ1 1, 0, none⟩)), (15, .agg #[.int .u64 a.hi, .int .u64 a.lo]), (17, .agg #[.int .u64 (hiV n), .int .u64 (loV n)])]) (fun _ => [bx (γ2 0) (#[.int .u64 a.hi, .int .u64 a.lo, .int .u64 a.w]) 33, bx (γ1 1) (#[.int .u64 0, .int .u64 0, .int .u64 0]) 33, bx (γ1 0) (#[.int .u64 a.hi, .int .u64 a.lo, .int .u64 a.w]) 33]) ?_ (fun hmx4 => ?_)
   ·
    rintro _ _
    refine any_fork [4, 8] (by kernel_rfl) (by simp) (each_cons _ rfl ?_ (each_cons _ rfl ?_ (each_nil)))
    ·
     refine cD (.tuple #[.agg #[.int .u64 (hiV (a.num + n)), .int .u64 (loV (a.num + n))], .int .i64 0]) Try.call47 (fun w hw => fadd_v hU q3 hn0 hn1 w) ?_
     refine od_ ?_
     refine tk (m := 3) [5, 6, 7] [] [2, 4] [(19, .agg #[.int .u64 (hiV (a.num + n)), .int .u64 (loV (a.num + n))]), (20, .int .i64 0)] ([]) #[true, true, true, true, true, true, true, true, false, false, false] al0 ?_
     exact wk (hmx8 () trivial) [2, 4, 19, 20] [[_], [_], [_]] [0, 1, 2] rfl rfl
    ·
     refine mo0 1 [] [2, 4, 15, 17] (fun γ170 => [(6, .pointer (some ⟨γ170 0, 0, none⟩))]) (fun γ170 L => bx (γ170 0) (#[.int .u64 0, .int .u64 0]) 31 :: L) (fun γ170 => ?_)
     refine od_ ?_
     exact wk (hmx7 γ170 trivial) [2, 4, 6, 15, 17] [[_], [_], [_], [_]] [0, 1, 2, 3] rfl rfl
   refine any_cutX (V := (Nat → Nat)) (fun γ170 => True) 8 #[true, false, true, false, false, false, false, false, true, false, false] (fun γ170 => [(2, .pointer (some ⟨γ1 0, 0, none⟩)), (4, .pointer (some ⟨γ1 1, 0, none⟩)), (6, .pointer (some ⟨γ170 0, 0, none⟩)), (14, .pointer (some ⟨γ1 0, 0, none⟩)), (16, .int .u64 n)]) (fun γ170 => [bx (γ170 0) (#[.int .u64 0, .int .u64 0]) 31, bx (γ2 0) (#[.int .u64 a.hi, .int .u64 a.lo, .int .u64 a.w]) 33, bx (γ1 1) (#[.int .u64 0, .int .u64 0, .int .u64 0]) 33, bx (γ1 0) (#[.int .u64 a.hi, .int .u64 a.lo, .int .u64 a.w]) 33]) ?_ (fun hmx3 => ?_)
   ·
    rintro γ170 _
    refine any_fork [1, 3] (by kernel_rfl) (by simp) (each_cons _ rfl ?_ (each_cons _ rfl ?_ (each_nil)))
    ·
     refine qo0 1 [(1, .go (owns 3 0 2))] [2, 4, 6, 16] [(15, .agg #[.int .u64 a.hi, .int .u64 a.lo])] ?_
     refine od_ ?_
     exact wk (hmx5 γ170 trivial) [2, 4, 6, 15, 16] [[_], [_], [_], [_]] [0, 1, 2, 3] rfl rfl
    ·
     refine cD (.agg #[.int .u64 (hiV n), .int .u64 (loV n)]) Try.call43 (fun w hw => wof_v hn0 hn1 w) ?_
     refine od_ ?_
     exact wk (hmx6 γ170 trivial) [2, 4, 6, 14, 17] [[_], [_], [_], [_]] [0, 1, 2, 3] rfl rfl
   refine any_cutX (V := Unit) (fun _ => True) 8 #[true, false, true, true, false, false, false, false, false, false, false] (fun _ => [(2, .pointer (some ⟨γ1 0, 0, none⟩)), (4, .pointer (some ⟨γ1 1, 0, none⟩)), (14, .pointer (some ⟨γ1 0, 0, none⟩)), (17, .agg #[.int .u64 (hiV n), .int .u64 (loV n)])]) (fun _ => [bx (γ2 0) (#[.int .u64 a.hi, .int .u64 a.lo, .int .u64 a.w]) 33, bx (γ1 1) (#[.int .u64 0, .int .u64 0, .int .u64 0]) 33, bx (γ1 0) (#[.int .u64 a.hi, .int .u64 a.lo, .int .u64 a.w]) 33]) ?_ (fun hmx2 => ?_)
   ·
    rintro _ _
    refine any_fork [1, 8] (by kernel_rfl) (by simp) (each_cons _ rfl ?_ (each_cons _ rfl ?_ (each_nil)))
    ·
     refine qo0 1 [(1, .go (owns 2 0 2))] [2, 4, 17] [(15, .agg #[.int .u64 a.hi, .int .u64 a.lo])] ?_
     refine od_ ?_
     exact wk (hmx4 () trivial) [2, 4, 15, 17] [[_], [_], [_]] [0, 1, 2] rfl rfl
    ·
     refine mo0 1 [] [2, 4, 14, 17] (fun γ170 => [(6, .pointer (some ⟨γ170 0, 0, none⟩))]) (fun γ170 L => bx (γ170 0) (#[.int .u64 0, .int .u64 0]) 31 :: L) (fun γ170 => ?_)
     refine od_ ?_
     exact wk (hmx6 γ170 trivial) [2, 4, 6, 14, 17] [[_], [_], [_], [_]] [0, 1, 2, 3] rfl rfl
   refine any_cutX (V := Unit) (fun _ => True) 8 #[true, true, true, false, false, false, false, false, false, false, false] (fun _ => [(2, .pointer (some ⟨γ1 0, 0, none⟩)), (4, .pointer (some ⟨γ1 1, 0, none⟩)), (15, .agg #[.int .u64 a.hi, .int .u64 a.lo]), (16, .int .u64 n)]) (fun _ => [bx (γ2 0) (#[.int .u64 a.hi, .int .u64 a.lo, .int .u64 a.w]) 33, bx (γ1 1) (#[.int .u64 0, .int .u64 0, .int .u64 0]) 33, bx (γ1 0) (#[.int .u64 a.hi, .int .u64 a.lo, .int .u64 a.w]) 33]) ?_ (fun hmx1 => ?_)
   ·
    rintro _ _
    refine any_fork [3, 8] (by kernel_rfl) (by simp) (each_cons _ rfl ?_ (each_cons _ rfl ?_ (each_nil)))
    ·
     refine cD (.agg #[.int .u64 (hiV n), .int .u64 (loV n)]) Try.call43 (fun w hw => wof_v hn0 hn1 w) ?_
     refine od_ ?_
     exact wk (hmx4 () trivial) [2, 4, 15, 17] [[_], [_], [_]] [0, 1, 2] rfl rfl
    ·
     refine mo0 1 [] [2, 4, 15, 16] (fun γ170 => [(6, .pointer (some ⟨γ170 0, 0, none⟩))]) (fun γ170 L => bx (γ170 0) (#[.int .u64 0, .int .u64 0]) 31 :: L) (fun γ170 => ?_)
     refine od_ ?_
     exact wk (hmx5 γ170 trivial) [2, 4, 6, 15, 16] [[_], [_], [_], [_]] [0, 1, 2, 3] rfl rfl
   refine any_fork [1, 3, 8] (by kernel_rfl) (by simp) (each_cons _ rfl ?_ (each_cons _ rfl ?_ (each_cons _ rfl ?_ (each_nil))))
   ·
    refine qo0 1 [(1, .go (owns 2 0 2))] [2, 4, 16] [(15, .agg #[.int .u64 a.hi, .int .u64 a.lo])] ?_
    refine od_ ?_
    exact wk (hmx1 () trivial) [2, 4, 15, 16] [[_], [_], [_]] [0, 1, 2] rfl rfl
   ·
    refine cD (.agg #[.int .u64 (hiV n), .int .u64 (loV n)]) Try.call43 (fun w hw => wof_v hn0 hn1 w) ?_
    refine od_ ?_
    exact wk (hmx2 () trivial) [2, 4, 14, 17] [[_], [_], [_]] [0, 1, 2] rfl rfl
   ·
    refine mo0 1 [] [2, 4, 14, 16] (fun γ170 => [(6, .pointer (some ⟨γ170 0, 0, none⟩))]) (fun γ170 L => bx (γ170 0) (#[.int .u64 0, .int .u64 0]) 31 :: L) (fun γ170 => ?_)
    refine od_ ?_
    exact wk (hmx3 γ170 trivial) [2, 4, 6, 14, 16] [[_], [_], [_], [_]] [0, 1, 2, 3] rfl rfl
  rintro γ170 _
  refine any_nil (by kernel_rfl) ?_
  refine ds_ (sq_ (ao_ (qo0 3 [(0, .go (owns 3 0 3)), (1, .go (owns 0 0 2))] [4] [(21, .agg #[.int .u64 a.hi, .int .u64 a.lo, .int .u64 a.w]), (22, .agg #[.int .u64 (hiV (a.num + n)), .int .u64 (loV (a.num + n))]), (23, .int .i64 0)] (cD (.tuple #[.agg #[.int .u64 ((withV a.w (hiV (a.num + n)) (loV (a.num + n)) 0).1.hi), .int .u64 ((withV a.w (hiV (a.num + n)) (loV (a.num + n)) 0).1.lo), .int .u64 ((withV a.w (hiV (a.num + n)) (loV (a.num + n)) 0).1.w)], .int .i64 ((withV a.w (hiV (a.num + n)) (loV (a.num + n)) 0).2)]) Try.call48 (fun w hw => fwith_t a (hiV (a.num + n)) (loV (a.num + n)) 0 w) (mo0 4 [(6, .go (owns 2 0 3))] [4] (fun _ => [(5, .int .i64 ((withV a.w (hiV (a.num + n)) (loV (a.num + n)) 0).2))]) (fun _ L => (L.set 2 (bx (γ1 1) (#[.int .u64 ((withV a.w (hiV (a.num + n)) (loV (a.num + n)) 0).1.hi), .int .u64 ((withV a.w (hiV (a.num + n)) (loV (a.num + n)) 0).1.lo), .int .u64 ((withV a.w (hiV (a.num + n)) (loV (a.num + n)) 0).1.w)]) 33))) (fun _ => on_ (ds_ (rt (owns 2 0 3) (.tuple #[.agg #[.int .u64 ((withV a.w (hiV (a.num + n)) (loV (a.num + n)) 0).1.hi), .int .u64 ((withV a.w (hiV (a.num + n)) (loV (a.num + n)) 0).1.lo), .int .u64 ((withV a.w (hiV (a.num + n)) (loV (a.num + n)) 0).1.w)], .int .i64 ((withV a.w (hiV (a.num + n)) (loV (a.num + n)) 0).2)]) ?_))))))))
  exact fun w' hw => ⟨by rw [add_yes q3], hw.below⟩

set_option maxRecDepth 100000 in
theorem fless_t (a : Fq) (n : Int) (w : World)
 (hU : a.U) (hn0 : 0 ≤ n) (hn1 : n < 18446744073709551616)
 : Calls Try.prog 14 #[.agg #[.int .u64 a.hi, .int .u64 a.lo, .int .u64 a.w], .int .u64 n] w fun e w' => e = .returned (.tuple #[.agg #[.int .u64 (lessV a n).1.hi, .int .u64 (lessV a n).1.lo, .int .u64 (lessV a n).1.w], .int .i64 (lessV a n).2]) ∧ Below w.heap.size w w' := by
 refine enter (Hs.start w) Try.func14 rfl Try.ntmps14 rfl (sq_ (ma0 [] [1] (fun γ1 => [(2, .pointer (some ⟨γ1 0, 0, none⟩)), (4, .pointer (some ⟨γ1 1, 0, none⟩))]) (fun γ1 L => bx (γ1 1) (#[.int .u64 0, .int .u64 0, .int .u64 0]) 33 :: bx (γ1 0) (#[.int .u64 a.hi, .int .u64 a.lo, .int .u64 a.w]) 33 :: L) (fun γ1 => ds_ (sq_ (sq_ (ao_ (mo0 2 [(0, .go (owns 1 0 3))] [1, 2, 4] (fun γ2 => [(9, .slice (some ⟨γ2 0, 0, none⟩) 1 1)]) (fun γ2 L => bx (γ2 0) (#[.int .u64 a.hi, .int .u64 a.lo, .int .u64 a.w]) 33 :: L) (fun γ2 => ?_))))))))
 rcases q3 : a.ok with _ | _
 ·
  refine cD (.bool false) Try.call39 (fun w hw => by have := right_t (some ⟨γ2 0, 0, none⟩) 1 1 [a] w (sv_row (hw.row 0 rfl) rfl) rfl (by decide); rw [all1, q3] at this; exact this) (qo0 1 [] [1, 2, 4] [(11, .bool true)] (on_ (ds_ (t_ (sq_ (qa0 [(1, .go (owns 1 0 3))] [4] [(5, .int .i64 150)] (ds_ (rt (owns 1 0 3) (.tuple #[.agg #[.int .u64 0, .int .u64 0, .int .u64 0], .int .i64 150]) ?_))))))))
  exact fun w' hw => ⟨by rw [less_noV q3], hw.below⟩
 ·
  refine cD (.bool true) Try.call39 (fun w hw => by have := right_t (some ⟨γ2 0, 0, none⟩) 1 1 [a] w (sv_row (hw.row 0 rfl) rfl) rfl (by decide); rw [all1, q3] at this; exact this) (qo0 1 [] [1, 2, 4] [(11, .bool false)] (on_ (ds_ (f_ (at_skip (ds_ (sq_ ?_)))))))
  by_cases q7 : (a.num : Int) < (n : Int)
  ·
   refine at_any (by kernel_rfl) ?_
   refine tk (m := 9) [0, 2] [] [2, 4] [(14, .pointer (some ⟨γ1 0, 0, none⟩)), (16, .int .u64 n)] ([]) #[true, false, true, false, false, false, false, false, false, false, false] al0 ?_
   refine any_cutX (V := (Nat → Nat)) (fun γ171 => True) 0 #[true, true, true, true, true, true, true, true, true, true, true] (fun γ171 => [(2, .pointer (some ⟨γ1 0, 0, none⟩)), (4, .pointer (some ⟨γ1 1, 0, none⟩)), (6, .pointer (some ⟨γ171 0, 0, none⟩)), (7, .int .i64 131)]) (fun γ171 => [bx (γ171 0) (#[.int .u64 0, .int .u64 0]) 31, bx (γ2 0) (#[.int .u64 a.hi, .int .u64 a.lo, .int .u64 a.w]) 33, bx (γ1 1) (#[.int .u64 0, .int .u64 0, .int .u64 0]) 33, bx (γ1 0) (#[.int .u64 a.hi, .int .u64 a.lo, .int .u64 a.w]) 33]) ?_ (fun hmx10 => ?_)
   rotate_left
   ·
    refine any_cutX (V := (Nat → Nat)) (fun γ171 => True) 2 #[true, true, true, true, true, true, true, true, true, false, false] (fun γ171 => [(2, .pointer (some ⟨γ1 0, 0, none⟩)), (4, .pointer (some ⟨γ1 1, 0, none⟩)), (6, .pointer (some ⟨γ171 0, 0, none⟩)), (19, .agg #[.int .u64 0, .int .u64 0]), (20, .int .i64 131)]) (fun γ171 => [bx (γ171 0) (#[.int .u64 0, .int .u64 0]) 31, bx (γ2 0) (#[.int .u64 a.hi, .int .u64 a.lo, .int .u64 a.w]) 33, bx (γ1 1) (#[.int .u64 0, .int .u64 0, .int .u64 0]) 33, bx (γ1 0) (#[.int .u64 a.hi, .int .u64 a.lo, .int .u64 a.w]) 33]) ?_ (fun hmx9 => ?_)
    ·
     rintro γ171 _
     refine a1 9 rfl ?_
     refine qo0 1 [(9, .go (owns 0 0 2))] [2, 4, 6, 20] [] ?_
     refine od_ ?_
     refine tk (m := 0) [10] [] [2, 4, 6] [(7, .int .i64 131)] ([]) #[true, true, true, true, true, true, true, true, true, true, true] al0 ?_
     exact wk (hmx10 γ171 trivial) [2, 4, 6, 7] [[_], [_], [_], [_]] [0, 1, 2, 3] rfl rfl
    refine any_cutX (V := Unit) (fun _ => True) 3 #[true, true, true, true, true, true, true, true, false, false, false] (fun _ => [(2, .pointer (some ⟨γ1 0, 0, none⟩)), (4, .pointer (some ⟨γ1 1, 0, none⟩)), (19, .agg #[.int .u64 0, .int .u64 0]), (20, .int .i64 131)]) (fun _ => [bx (γ2 0) (#[.int .u64 a.hi, .int .u64 a.lo, .int .u64 a.w]) 33, bx (γ1 1) (#[.int .u64 0, .int .u64 0, .int .u64 0]) 33, bx (γ1 0) (#[.int .u64 a.hi, .int .u64 a.lo, .int .u64 a.w]) 33]) ?_ (fun hmx8 => ?_)
    ·
     rintro _ _
     refine a1 8 rfl ?_
     refine mo0 1 [] [2, 4, 19, 20] (fun γ171 => [(6, .pointer (some ⟨γ171 0, 0, none⟩))]) (fun γ171 L => bx (γ171 0) (#[.int .u64 0, .int .u64 0]) 31 :: L) (fun γ171 => ?_)
     refine od_ ?_
     exact wk (hmx9 γ171 trivial) [2, 4, 6, 19, 20] [[_], [_], [_], [_]] [0, 1, 2, 3] rfl rfl
    refine any_cutX (V := (Nat → Nat)) (fun γ171 => True) 6 #[true, true, true, true, false, false, false, false, true, false, false] (fun γ171 => [(2, .pointer (some ⟨γ1 0, 0, none⟩)), (4, .pointer (some ⟨γ1 1, 0, none⟩)), (6, .pointer (some ⟨γ171 0, 0, none⟩)), (15, .agg #[.int .u64 a.hi, .int .u64 a.lo]), (17, .agg #[.int .u64 (hiV n), .int .u64 (loV n)])]) (fun γ171 => [bx (γ171 0) (#[.int .u64 0, .int .u64 0]) 31, bx (γ2 0) (#[.int .u64 a.hi, .int .u64 a.lo, .int .u64 a.w]) 33, bx (γ1 1) (#[.int .u64 0, .int .u64 0, .int .u64 0]) 33, bx (γ1 0) (#[.int .u64 a.hi, .int .u64 a.lo, .int .u64 a.w]) 33]) ?_ (fun hmx7 => ?_)
    ·
     rintro γ171 _
     refine a1 4 rfl ?_
     refine cD (.tuple #[.agg #[.int .u64 0, .int .u64 0], .int .i64 131]) Try.call42 (fun w hw => fsub_lt hU hn0 q7 w) ?_
     refine od_ ?_
     refine tk (m := 2) [5, 6, 7] [] [2, 4, 6] [(19, .agg #[.int .u64 0, .int .u64 0]), (20, .int .i64 131)] ([]) #[true, true, true, true, true, true, true, true, true, false, false] al0 ?_
     exact wk (hmx9 γ171 trivial) [2, 4, 6, 19, 20] [[_], [_], [_], [_]] [0, 1, 2, 3] rfl rfl
    refine any_cutX (V := (Nat → Nat)) (fun γ171 => True) 7 #[true, false, true, true, false, false, false, false, true, false, false] (fun γ171 => [(2, .pointer (some ⟨γ1 0, 0, none⟩)), (4, .pointer (some ⟨γ1 1, 0, none⟩)), (6, .pointer (some ⟨γ171 0, 0, none⟩)), (14, .pointer (some ⟨γ1 0, 0, none⟩)), (17, .agg #[.int .u64 (hiV n), .int .u64 (loV n)])]) (fun γ171 => [bx (γ171 0) (#[.int .u64 0, .int .u64 0]) 31, bx (γ2 0) (#[.int .u64 a.hi, .int .u64 a.lo, .int .u64 a.w]) 33, bx (γ1 1) (#[.int .u64 0, .int .u64 0, .int .u64 0]) 33, bx (γ1 0) (#[.int .u64 a.hi, .int .u64 a.lo, .int .u64 a.w]) 33]) ?_ (fun hmx6 => ?_)
    ·
     rintro γ171 _
     refine a1 1 rfl ?_
     refine qo0 1 [(1, .go (owns 3 0 2))] [2, 4, 6, 17] [(15, .agg #[.int .u64 a.hi, .int .u64 a.lo])] ?_
     refine od_ ?_
     exact wk (hmx7 γ171 trivial) [2, 4, 6, 15, 17] [[_], [_], [_], [_]] [0, 1, 2, 3] rfl rfl
    refine any_cutX (V := (Nat → Nat)) (fun γ171 => True) 7 #[true, true, true, false, false, false, false, false, true, false, false] (fun γ171 => [(2, .pointer (some ⟨γ1 0, 0, none⟩)), (4, .pointer (some ⟨γ1 1, 0, none⟩)), (6, .pointer (some ⟨γ171 0, 0, none⟩)), (15, .agg #[.int .u64 a.hi, .int .u64 a.lo]), (16, .int .u64 n)]) (fun γ171 => [bx (γ171 0) (#[.int .u64 0, .int .u64 0]) 31, bx (γ2 0) (#[.int .u64 a.hi, .int .u64 a.lo, .int .u64 a.w]) 33, bx (γ1 1) (#[.int .u64 0, .int .u64 0, .int .u64 0]) 33, bx (γ1 0) (#[.int .u64 a.hi, .int .u64 a.lo, .int .u64 a.w]) 33]) ?_ (fun hmx5 => ?_)
    ·
     rintro γ171 _
     refine a1 3 rfl ?_
     refine cD (.agg #[.int .u64 (hiV n), .int .u64 (loV n)]) Try.call43 (fun w hw => wof_v hn0 hn1 w) ?_
     refine od_ ?_
     exact wk (hmx7 γ171 trivial) [2, 4, 6, 15, 17] [[_], [_], [_], [_]] [0, 1, 2, 3] rfl rfl
    refine any_cutX (V := Unit) (fun _ => True) 7 #[true, true, true, true, false, false, false, false, false, false, false] (fun _ => [(2, .pointer (some ⟨γ1 0, 0, none⟩)), (4, .pointer (some ⟨γ1 1, 0, none⟩)), (15, .agg #[.int .u64 a.hi, .int .u64 a.lo]), (17, .agg #[.int .u64 (hiV n), .int .u64 (loV n)])]) (fun _ => [bx (γ2 0) (#[.int .u64 a.hi, .int .u64 a.lo, .int .u64 a.w]) 33, bx (γ1 1) (#[.int .u64 0, .int .u64 0, .int .u64 0]) 33, bx (γ1 0) (#[.int .u64 a.hi, .int .u64 a.lo, .int .u64 a.w]) 33]) ?_ (fun hmx4 => ?_)
    ·
     rintro _ _
     refine any_fork [4, 8] (by kernel_rfl) (by simp) (each_cons _ rfl ?_ (each_cons _ rfl ?_ (each_nil)))
     ·
      refine cD (.tuple #[.agg #[.int .u64 0, .int .u64 0], .int .i64 131]) Try.call42 (fun w hw => fsub_lt hU hn0 q7 w) ?_
      refine od_ ?_
      refine tk (m := 3) [5, 6, 7] [] [2, 4] [(19, .agg #[.int .u64 0, .int .u64 0]), (20, .int .i64 131)] ([]) #[true, true, true, true, true, true, true, true, false, false, false] al0 ?_
      exact wk (hmx8 () trivial) [2, 4, 19, 20] [[_], [_], [_]] [0, 1, 2] rfl rfl
     ·
      refine mo0 1 [] [2, 4, 15, 17] (fun γ171 => [(6, .pointer (some ⟨γ171 0, 0, none⟩))]) (fun γ171 L => bx (γ171 0) (#[.int .u64 0, .int .u64 0]) 31 :: L) (fun γ171 => ?_)
      refine od_ ?_
      exact wk (hmx7 γ171 trivial) [2, 4, 6, 15, 17] [[_], [_], [_], [_]] [0, 1, 2, 3] rfl rfl
    refine any_cutX (V := (Nat → Nat)) (fun γ171 => True) 8 #[true, false, true, false, false, false, false, false, true, false, false] (fun γ171 => [(2, .pointer (some ⟨γ1 0, 0, none⟩)), (4, .pointer (some ⟨γ1 1, 0, none⟩)), (6, .pointer (some ⟨γ171 0, 0, none⟩)), (14, .pointer (some ⟨γ1 0, 0, none⟩)), (16, .int .u64 n)]) (fun γ171 => [bx (γ171 0) (#[.int .u64 0, .int .u64 0]) 31, bx (γ2 0) (#[.int .u64 a.hi, .int .u64 a.lo, .int .u64 a.w]) 33, bx (γ1 1) (#[.int .u64 0, .int .u64 0, .int .u64 0]) 33, bx (γ1 0) (#[.int .u64 a.hi, .int .u64 a.lo, .int .u64 a.w]) 33]) ?_ (fun hmx3 => ?_)
    ·
     rintro γ171 _
     refine any_fork [1, 3] (by kernel_rfl) (by simp) (each_cons _ rfl ?_ (each_cons _ rfl ?_ (each_nil)))
     ·
      refine qo0 1 [(1, .go (owns 3 0 2))] [2, 4, 6, 16] [(15, .agg #[.int .u64 a.hi, .int .u64 a.lo])] ?_
      refine od_ ?_
      exact wk (hmx5 γ171 trivial) [2, 4, 6, 15, 16] [[_], [_], [_], [_]] [0, 1, 2, 3] rfl rfl
     ·
      refine cD (.agg #[.int .u64 (hiV n), .int .u64 (loV n)]) Try.call43 (fun w hw => wof_v hn0 hn1 w) ?_
      refine od_ ?_
      exact wk (hmx6 γ171 trivial) [2, 4, 6, 14, 17] [[_], [_], [_], [_]] [0, 1, 2, 3] rfl rfl
    refine any_cutX (V := Unit) (fun _ => True) 8 #[true, false, true, true, false, false, false, false, false, false, false] (fun _ => [(2, .pointer (some ⟨γ1 0, 0, none⟩)), (4, .pointer (some ⟨γ1 1, 0, none⟩)), (14, .pointer (some ⟨γ1 0, 0, none⟩)), (17, .agg #[.int .u64 (hiV n), .int .u64 (loV n)])]) (fun _ => [bx (γ2 0) (#[.int .u64 a.hi, .int .u64 a.lo, .int .u64 a.w]) 33, bx (γ1 1) (#[.int .u64 0, .int .u64 0, .int .u64 0]) 33, bx (γ1 0) (#[.int .u64 a.hi, .int .u64 a.lo, .int .u64 a.w]) 33]) ?_ (fun hmx2 => ?_)
    ·
     rintro _ _
     refine any_fork [1, 8] (by kernel_rfl) (by simp) (each_cons _ rfl ?_ (each_cons _ rfl ?_ (each_nil)))
     ·
      refine qo0 1 [(1, .go (owns 2 0 2))] [2, 4, 17] [(15, .agg #[.int .u64 a.hi, .int .u64 a.lo])] ?_
      refine od_ ?_
      exact wk (hmx4 () trivial) [2, 4, 15, 17] [[_], [_], [_]] [0, 1, 2] rfl rfl
     ·
      refine mo0 1 [] [2, 4, 14, 17] (fun γ171 => [(6, .pointer (some ⟨γ171 0, 0, none⟩))]) (fun γ171 L => bx (γ171 0) (#[.int .u64 0, .int .u64 0]) 31 :: L) (fun γ171 => ?_)
      refine od_ ?_
      exact wk (hmx6 γ171 trivial) [2, 4, 6, 14, 17] [[_], [_], [_], [_]] [0, 1, 2, 3] rfl rfl
    refine any_cutX (V := Unit) (fun _ => True) 8 #[true, true, true, false, false, false, false, false, false, false, false] (fun _ => [(2, .pointer (some ⟨γ1 0, 0, none⟩)), (4, .pointer (some ⟨γ1 1, 0, none⟩)), (15, .agg #[.int .u64 a.hi, .int .u64 a.lo]), (16, .int .u64 n)]) (fun _ => [bx (γ2 0) (#[.int .u64 a.hi, .int .u64 a.lo, .int .u64 a.w]) 33, bx (γ1 1) (#[.int .u64 0, .int .u64 0, .int .u64 0]) 33, bx (γ1 0) (#[.int .u64 a.hi, .int .u64 a.lo, .int .u64 a.w]) 33]) ?_ (fun hmx1 => ?_)
    ·
     rintro _ _
     refine any_fork [3, 8] (by kernel_rfl) (by simp) (each_cons _ rfl ?_ (each_cons _ rfl ?_ (each_nil)))
     ·
      refine cD (.agg #[.int .u64 (hiV n), .int .u64 (loV n)]) Try.call43 (fun w hw => wof_v hn0 hn1 w) ?_
      refine od_ ?_
      exact wk (hmx4 () trivial) [2, 4, 15, 17] [[_], [_], [_]] [0, 1, 2] rfl rfl
     ·
      refine mo0 1 [] [2, 4, 15, 16] (fun γ171 => [(6, .pointer (some ⟨γ171 0, 0, none⟩))]) (fun γ171 L => bx (γ171 0) (#[.int .u64 0, .int .u64 0]) 31 :: L) (fun γ171 => ?_)
      refine od_ ?_
      exact wk (hmx5 γ171 trivial) [2, 4, 6, 15, 16] [[_], [_], [_], [_]] [0, 1, 2, 3] rfl rfl
    refine any_fork [1, 3, 8] (by kernel_rfl) (by simp) (each_cons _ rfl ?_ (each_cons _ rfl ?_ (each_cons _ rfl ?_ (each_nil))))
    ·
     refine qo0 1 [(1, .go (owns 2 0 2))] [2, 4, 16] [(15, .agg #[.int .u64 a.hi, .int .u64 a.lo])] ?_
     refine od_ ?_
     exact wk (hmx1 () trivial) [2, 4, 15, 16] [[_], [_], [_]] [0, 1, 2] rfl rfl
    ·
     refine cD (.agg #[.int .u64 (hiV n), .int .u64 (loV n)]) Try.call43 (fun w hw => wof_v hn0 hn1 w) ?_
     refine od_ ?_
     exact wk (hmx2 () trivial) [2, 4, 14, 17] [[_], [_], [_]] [0, 1, 2] rfl rfl
    ·
     refine mo0 1 [] [2, 4, 14, 16] (fun γ171 => [(6, .pointer (some ⟨γ171 0, 0, none⟩))]) (fun γ171 L => bx (γ171 0) (#[.int .u64 0, .int .u64 0]) 31 :: L) (fun γ171 => ?_)
     refine od_ ?_
     exact wk (hmx3 γ171 trivial) [2, 4, 6, 14, 16] [[_], [_], [_], [_]] [0, 1, 2, 3] rfl rfl
   rintro γ171 _
   refine any_nil (by kernel_rfl) ?_
   refine ds_ (sq_ (sq_ (qa0 [] [2, 4, 6] [(22, .bool true)] (ds_ (t_ (qa0 [(1, .go (owns 0 0 2))] [2, 4, 6] [] (ds_ (sq_ (ma0 [(0, .go (owns 0 0 2)), (2, .go (owns 3 2 1)), (4, .go (owns 2 0 3))] [4] (fun _ => [(5, .int .i64 0)]) (fun _ L => (L.set 2 (bx (γ1 1) (#[.int .u64 0, .int .u64 0, .int .u64 a.w]) 33))) (fun _ => ds_ (rt (owns 2 0 3) (.tuple #[.agg #[.int .u64 0, .int .u64 0, .int .u64 a.w], .int .i64 0]) ?_)))))))))))
   exact fun w' hw => ⟨by rw [less_yesV q3, sub_lt q7]; rfl, hw.below⟩
  ·
   refine at_any (by kernel_rfl) ?_
   refine tk (m := 9) [0, 2] [] [2, 4] [(14, .pointer (some ⟨γ1 0, 0, none⟩)), (16, .int .u64 n)] ([]) #[true, false, true, false, false, false, false, false, false, false, false] al0 ?_
   refine any_cutX (V := (Nat → Nat)) (fun γ442 => True) 0 #[true, true, true, true, true, true, true, true, true, true, true] (fun γ442 => [(2, .pointer (some ⟨γ1 0, 0, none⟩)), (4, .pointer (some ⟨γ1 1, 0, none⟩)), (6, .pointer (some ⟨γ442 0, 0, none⟩)), (7, .int .i64 0)]) (fun γ442 => [bx (γ442 0) (#[.int .u64 (hiV (a.num - n)), .int .u64 (loV (a.num - n))]) 31, bx (γ2 0) (#[.int .u64 a.hi, .int .u64 a.lo, .int .u64 a.w]) 33, bx (γ1 1) (#[.int .u64 0, .int .u64 0, .int .u64 0]) 33, bx (γ1 0) (#[.int .u64 a.hi, .int .u64 a.lo, .int .u64 a.w]) 33]) ?_ (fun hmx10 => ?_)
   rotate_left
   ·
    refine any_cutX (V := (Nat → Nat)) (fun γ442 => True) 2 #[true, true, true, true, true, true, true, true, true, false, false] (fun γ442 => [(2, .pointer (some ⟨γ1 0, 0, none⟩)), (4, .pointer (some ⟨γ1 1, 0, none⟩)), (6, .pointer (some ⟨γ442 0, 0, none⟩)), (19, .agg #[.int .u64 (hiV (a.num - n)), .int .u64 (loV (a.num - n))]), (20, .int .i64 0)]) (fun γ442 => [bx (γ442 0) (#[.int .u64 0, .int .u64 0]) 31, bx (γ2 0) (#[.int .u64 a.hi, .int .u64 a.lo, .int .u64 a.w]) 33, bx (γ1 1) (#[.int .u64 0, .int .u64 0, .int .u64 0]) 33, bx (γ1 0) (#[.int .u64 a.hi, .int .u64 a.lo, .int .u64 a.w]) 33]) ?_ (fun hmx9 => ?_)
    ·
     rintro γ442 _
     refine a1 9 rfl ?_
     refine mo0 1 [(9, .go (owns 0 0 2))] [2, 4, 6, 20] (fun _ => []) (fun _ L => (L.set 0 (bx (γ442 0) (#[.int .u64 (hiV (a.num - n)), .int .u64 (loV (a.num - n))]) 31))) (fun _ => ?_)
     refine od_ ?_
     refine tk (m := 0) [10] [] [2, 4, 6] [(7, .int .i64 0)] ([]) #[true, true, true, true, true, true, true, true, true, true, true] al0 ?_
     exact wk (hmx10 γ442 trivial) [2, 4, 6, 7] [[_], [_], [_], [_]] [0, 1, 2, 3] rfl rfl
    refine any_cutX (V := Unit) (fun _ => True) 3 #[true, true, true, true, true, true, true, true, false, false, false] (fun _ => [(2, .pointer (some ⟨γ1 0, 0, none⟩)), (4, .pointer (some ⟨γ1 1, 0, none⟩)), (19, .agg #[.int .u64 (hiV (a.num - n)), .int .u64 (loV (a.num - n))]), (20, .int .i64 0)]) (fun _ => [bx (γ2 0) (#[.int .u64 a.hi, .int .u64 a.lo, .int .u64 a.w]) 33, bx (γ1 1) (#[.int .u64 0, .int .u64 0, .int .u64 0]) 33, bx (γ1 0) (#[.int .u64 a.hi, .int .u64 a.lo, .int .u64 a.w]) 33]) ?_ (fun hmx8 => ?_)
    ·
     rintro _ _
     refine a1 8 rfl ?_
     refine mo0 1 [] [2, 4, 19, 20] (fun γ442 => [(6, .pointer (some ⟨γ442 0, 0, none⟩))]) (fun γ442 L => bx (γ442 0) (#[.int .u64 0, .int .u64 0]) 31 :: L) (fun γ442 => ?_)
     refine od_ ?_
     exact wk (hmx9 γ442 trivial) [2, 4, 6, 19, 20] [[_], [_], [_], [_]] [0, 1, 2, 3] rfl rfl
    refine any_cutX (V := (Nat → Nat)) (fun γ442 => True) 6 #[true, true, true, true, false, false, false, false, true, false, false] (fun γ442 => [(2, .pointer (some ⟨γ1 0, 0, none⟩)), (4, .pointer (some ⟨γ1 1, 0, none⟩)), (6, .pointer (some ⟨γ442 0, 0, none⟩)), (15, .agg #[.int .u64 a.hi, .int .u64 a.lo]), (17, .agg #[.int .u64 (hiV n), .int .u64 (loV n)])]) (fun γ442 => [bx (γ442 0) (#[.int .u64 0, .int .u64 0]) 31, bx (γ2 0) (#[.int .u64 a.hi, .int .u64 a.lo, .int .u64 a.w]) 33, bx (γ1 1) (#[.int .u64 0, .int .u64 0, .int .u64 0]) 33, bx (γ1 0) (#[.int .u64 a.hi, .int .u64 a.lo, .int .u64 a.w]) 33]) ?_ (fun hmx7 => ?_)
    ·
     rintro γ442 _
     refine a1 4 rfl ?_
     refine cD (.tuple #[.agg #[.int .u64 (hiV (a.num - n)), .int .u64 (loV (a.num - n))], .int .i64 0]) Try.call42 (fun w hw => fsub_ge hU hn0 q7 w) ?_
     refine od_ ?_
     refine tk (m := 2) [5, 6, 7] [] [2, 4, 6] [(19, .agg #[.int .u64 (hiV (a.num - n)), .int .u64 (loV (a.num - n))]), (20, .int .i64 0)] ([]) #[true, true, true, true, true, true, true, true, true, false, false] al0 ?_
     exact wk (hmx9 γ442 trivial) [2, 4, 6, 19, 20] [[_], [_], [_], [_]] [0, 1, 2, 3] rfl rfl
    refine any_cutX (V := (Nat → Nat)) (fun γ442 => True) 7 #[true, false, true, true, false, false, false, false, true, false, false] (fun γ442 => [(2, .pointer (some ⟨γ1 0, 0, none⟩)), (4, .pointer (some ⟨γ1 1, 0, none⟩)), (6, .pointer (some ⟨γ442 0, 0, none⟩)), (14, .pointer (some ⟨γ1 0, 0, none⟩)), (17, .agg #[.int .u64 (hiV n), .int .u64 (loV n)])]) (fun γ442 => [bx (γ442 0) (#[.int .u64 0, .int .u64 0]) 31, bx (γ2 0) (#[.int .u64 a.hi, .int .u64 a.lo, .int .u64 a.w]) 33, bx (γ1 1) (#[.int .u64 0, .int .u64 0, .int .u64 0]) 33, bx (γ1 0) (#[.int .u64 a.hi, .int .u64 a.lo, .int .u64 a.w]) 33]) ?_ (fun hmx6 => ?_)
    ·
     rintro γ442 _
     refine a1 1 rfl ?_
     refine qo0 1 [(1, .go (owns 3 0 2))] [2, 4, 6, 17] [(15, .agg #[.int .u64 a.hi, .int .u64 a.lo])] ?_
     refine od_ ?_
     exact wk (hmx7 γ442 trivial) [2, 4, 6, 15, 17] [[_], [_], [_], [_]] [0, 1, 2, 3] rfl rfl
    refine any_cutX (V := (Nat → Nat)) (fun γ442 => True) 7 #[true, true, true, false, false, false, false, false, true, false, false] (fun γ442 => [(2, .pointer (some ⟨γ1 0, 0, none⟩)), (4, .pointer (some ⟨γ1 1, 0, none⟩)), (6, .pointer (some ⟨γ442 0, 0, none⟩)), (15, .agg #[.int .u64 a.hi, .int .u64 a.lo]), (16, .int .u64 n)]) (fun γ442 => [bx (γ442 0) (#[.int .u64 0, .int .u64 0]) 31, bx (γ2 0) (#[.int .u64 a.hi, .int .u64 a.lo, .int .u64 a.w]) 33, bx (γ1 1) (#[.int .u64 0, .int .u64 0, .int .u64 0]) 33, bx (γ1 0) (#[.int .u64 a.hi, .int .u64 a.lo, .int .u64 a.w]) 33]) ?_ (fun hmx5 => ?_)
    ·
     rintro γ442 _
     refine a1 3 rfl ?_
     refine cD (.agg #[.int .u64 (hiV n), .int .u64 (loV n)]) Try.call43 (fun w hw => wof_v hn0 hn1 w) ?_
     refine od_ ?_
     exact wk (hmx7 γ442 trivial) [2, 4, 6, 15, 17] [[_], [_], [_], [_]] [0, 1, 2, 3] rfl rfl
    refine any_cutX (V := Unit) (fun _ => True) 7 #[true, true, true, true, false, false, false, false, false, false, false] (fun _ => [(2, .pointer (some ⟨γ1 0, 0, none⟩)), (4, .pointer (some ⟨γ1 1, 0, none⟩)), (15, .agg #[.int .u64 a.hi, .int .u64 a.lo]), (17, .agg #[.int .u64 (hiV n), .int .u64 (loV n)])]) (fun _ => [bx (γ2 0) (#[.int .u64 a.hi, .int .u64 a.lo, .int .u64 a.w]) 33, bx (γ1 1) (#[.int .u64 0, .int .u64 0, .int .u64 0]) 33, bx (γ1 0) (#[.int .u64 a.hi, .int .u64 a.lo, .int .u64 a.w]) 33]) ?_ (fun hmx4 => ?_)
    ·
     rintro _ _
     refine any_fork [4, 8] (by kernel_rfl) (by simp) (each_cons _ rfl ?_ (each_cons _ rfl ?_ (each_nil)))
     ·
      refine cD (.tuple #[.agg #[.int .u64 (hiV (a.num - n)), .int .u64 (loV (a.num - n))], .int .i64 0]) Try.call42 (fun w hw => fsub_ge hU hn0 q7 w) ?_
      refine od_ ?_
      refine tk (m := 3) [5, 6, 7] [] [2, 4] [(19, .agg #[.int .u64 (hiV (a.num - n)), .int .u64 (loV (a.num - n))]), (20, .int .i64 0)] ([]) #[true, true, true, true, true, true, true, true, false, false, false] al0 ?_
      exact wk (hmx8 () trivial) [2, 4, 19, 20] [[_], [_], [_]] [0, 1, 2] rfl rfl
     ·
      refine mo0 1 [] [2, 4, 15, 17] (fun γ442 => [(6, .pointer (some ⟨γ442 0, 0, none⟩))]) (fun γ442 L => bx (γ442 0) (#[.int .u64 0, .int .u64 0]) 31 :: L) (fun γ442 => ?_)
      refine od_ ?_
      exact wk (hmx7 γ442 trivial) [2, 4, 6, 15, 17] [[_], [_], [_], [_]] [0, 1, 2, 3] rfl rfl
    refine any_cutX (V := (Nat → Nat)) (fun γ442 => True) 8 #[true, false, true, false, false, false, false, false, true, false, false] (fun γ442 => [(2, .pointer (some ⟨γ1 0, 0, none⟩)), (4, .pointer (some ⟨γ1 1, 0, none⟩)), (6, .pointer (some ⟨γ442 0, 0, none⟩)), (14, .pointer (some ⟨γ1 0, 0, none⟩)), (16, .int .u64 n)]) (fun γ442 => [bx (γ442 0) (#[.int .u64 0, .int .u64 0]) 31, bx (γ2 0) (#[.int .u64 a.hi, .int .u64 a.lo, .int .u64 a.w]) 33, bx (γ1 1) (#[.int .u64 0, .int .u64 0, .int .u64 0]) 33, bx (γ1 0) (#[.int .u64 a.hi, .int .u64 a.lo, .int .u64 a.w]) 33]) ?_ (fun hmx3 => ?_)
    ·
     rintro γ442 _
     refine any_fork [1, 3] (by kernel_rfl) (by simp) (each_cons _ rfl ?_ (each_cons _ rfl ?_ (each_nil)))
     ·
      refine qo0 1 [(1, .go (owns 3 0 2))] [2, 4, 6, 16] [(15, .agg #[.int .u64 a.hi, .int .u64 a.lo])] ?_
      refine od_ ?_
      exact wk (hmx5 γ442 trivial) [2, 4, 6, 15, 16] [[_], [_], [_], [_]] [0, 1, 2, 3] rfl rfl
     ·
      refine cD (.agg #[.int .u64 (hiV n), .int .u64 (loV n)]) Try.call43 (fun w hw => wof_v hn0 hn1 w) ?_
      refine od_ ?_
      exact wk (hmx6 γ442 trivial) [2, 4, 6, 14, 17] [[_], [_], [_], [_]] [0, 1, 2, 3] rfl rfl
    refine any_cutX (V := Unit) (fun _ => True) 8 #[true, false, true, true, false, false, false, false, false, false, false] (fun _ => [(2, .pointer (some ⟨γ1 0, 0, none⟩)), (4, .pointer (some ⟨γ1 1, 0, none⟩)), (14, .pointer (some ⟨γ1 0, 0, none⟩)), (17, .agg #[.int .u64 (hiV n), .int .u64 (loV n)])]) (fun _ => [bx (γ2 0) (#[.int .u64 a.hi, .int .u64 a.lo, .int .u64 a.w]) 33, bx (γ1 1) (#[.int .u64 0, .int .u64 0, .int .u64 0]) 33, bx (γ1 0) (#[.int .u64 a.hi, .int .u64 a.lo, .int .u64 a.w]) 33]) ?_ (fun hmx2 => ?_)
    ·
     rintro _ _
     refine any_fork [1, 8] (by kernel_rfl) (by simp) (each_cons _ rfl ?_ (each_cons _ rfl ?_ (each_nil)))
     ·
      refine qo0 1 [(1, .go (owns 2 0 2))] [2, 4, 17] [(15, .agg #[.int .u64 a.hi, .int .u64 a.lo])] ?_
      refine od_ ?_
      exact wk (hmx4 () trivial) [2, 4, 15, 17] [[_], [_], [_]] [0, 1, 2] rfl rfl
     ·
      refine mo0 1 [] [2, 4, 14, 17] (fun γ442 => [(6, .pointer (some ⟨γ442 0, 0, none⟩))]) (fun γ442 L => bx (γ442 0) (#[.int .u64 0, .int .u64 0]) 31 :: L) (fun γ442 => ?_)
      refine od_ ?_
      exact wk (hmx6 γ442 trivial) [2, 4, 6, 14, 17] [[_], [_], [_], [_]] [0, 1, 2, 3] rfl rfl
    refine any_cutX (V := Unit) (fun _ => True) 8 #[true, true, true, false, false, false, false, false, false, false, false] (fun _ => [(2, .pointer (some ⟨γ1 0, 0, none⟩)), (4, .pointer (some ⟨γ1 1, 0, none⟩)), (15, .agg #[.int .u64 a.hi, .int .u64 a.lo]), (16, .int .u64 n)]) (fun _ => [bx (γ2 0) (#[.int .u64 a.hi, .int .u64 a.lo, .int .u64 a.w]) 33, bx (γ1 1) (#[.int .u64 0, .int .u64 0, .int .u64 0]) 33, bx (γ1 0) (#[.int .u64 a.hi, .int .u64 a.lo, .int .u64 a.w]) 33]) ?_ (fun hmx1 => ?_)
    ·
     rintro _ _
     refine any_fork [3, 8] (by kernel_rfl) (by simp) (each_cons _ rfl ?_ (each_cons _ rfl ?_ (each_nil)))
     ·
      refine cD (.agg #[.int .u64 (hiV n), .int .u64 (loV n)]) Try.call43 (fun w hw => wof_v hn0 hn1 w) ?_
      refine od_ ?_
      exact wk (hmx4 () trivial) [2, 4, 15, 17] [[_], [_], [_]] [0, 1, 2] rfl rfl
     ·
      refine mo0 1 [] [2, 4, 15, 16] (fun γ442 => [(6, .pointer (some ⟨γ442 0, 0, none⟩))]) (fun γ442 L => bx (γ442 0) (#[.int .u64 0, .int .u64 0]) 31 :: L) (fun γ442 => ?_)
      refine od_ ?_
      exact wk (hmx5 γ442 trivial) [2, 4, 6, 15, 16] [[_], [_], [_], [_]] [0, 1, 2, 3] rfl rfl
    refine any_fork [1, 3, 8] (by kernel_rfl) (by simp) (each_cons _ rfl ?_ (each_cons _ rfl ?_ (each_cons _ rfl ?_ (each_nil))))
    ·
     refine qo0 1 [(1, .go (owns 2 0 2))] [2, 4, 16] [(15, .agg #[.int .u64 a.hi, .int .u64 a.lo])] ?_
     refine od_ ?_
     exact wk (hmx1 () trivial) [2, 4, 15, 16] [[_], [_], [_]] [0, 1, 2] rfl rfl
    ·
     refine cD (.agg #[.int .u64 (hiV n), .int .u64 (loV n)]) Try.call43 (fun w hw => wof_v hn0 hn1 w) ?_
     refine od_ ?_
     exact wk (hmx2 () trivial) [2, 4, 14, 17] [[_], [_], [_]] [0, 1, 2] rfl rfl
    ·
     refine mo0 1 [] [2, 4, 14, 16] (fun γ442 => [(6, .pointer (some ⟨γ442 0, 0, none⟩))]) (fun γ442 L => bx (γ442 0) (#[.int .u64 0, .int .u64 0]) 31 :: L) (fun γ442 => ?_)
     refine od_ ?_
     exact wk (hmx3 γ442 trivial) [2, 4, 6, 14, 16] [[_], [_], [_], [_]] [0, 1, 2, 3] rfl rfl
   rintro γ442 _
   refine any_nil (by kernel_rfl) ?_
   refine ds_ (sq_ (sq_ (qa0 [] [2, 4, 6] [(22, .bool false)] (ds_ (f_ (at_skip (ds_ (sq_ (ma0 [(0, .go (owns 0 0 2)), (2, .go (owns 3 2 1)), (4, .go (owns 2 0 3))] [4] (fun _ => [(5, .int .i64 0)]) (fun _ L => (L.set 2 (bx (γ1 1) (#[.int .u64 (hiV (a.num - n)), .int .u64 (loV (a.num - n)), .int .u64 a.w]) 33))) (fun _ => ds_ (rt (owns 2 0 3) (.tuple #[.agg #[.int .u64 (hiV (a.num - n)), .int .u64 (loV (a.num - n)), .int .u64 a.w], .int .i64 0]) ?_)))))))))))
   exact fun w' hw => ⟨by rw [less_yesV q3, sub_ge q7], hw.below⟩

set_option maxRecDepth 100000 in
theorem fover_t (a : Fq) (m : Int) (w : World)
 (hU : a.U)
 : Calls Try.prog 38 #[.agg #[.int .u64 a.hi, .int .u64 a.lo, .int .u64 a.w], .int .u64 m] w fun e w' => e = .returned (.tuple #[.agg #[.int .u64 (overV a m).1.hi, .int .u64 (overV a m).1.lo, .int .u64 (overV a m).1.w], .int .i64 (overV a m).2]) ∧ Below w.heap.size w w' := by
 refine enter (Hs.start w) Try.func38 rfl Try.ntmps38 rfl (sq_ (ma0 [] [1] (fun γ1 => [(2, .pointer (some ⟨γ1 0, 0, none⟩)), (4, .pointer (some ⟨γ1 1, 0, none⟩))]) (fun γ1 L => bx (γ1 1) (#[.int .u64 0, .int .u64 0, .int .u64 0]) 33 :: bx (γ1 0) (#[.int .u64 a.hi, .int .u64 a.lo, .int .u64 a.w]) 33 :: L) (fun γ1 => ds_ (sq_ (at_block (sq_ (ao_ (mo0 2 [(0, .go (owns 1 0 3))] [1, 2, 4] (fun γ2 => [(10, .slice (some ⟨γ2 0, 0, none⟩) 1 1)]) (fun γ2 L => bx (γ2 0) (#[.int .u64 a.hi, .int .u64 a.lo, .int .u64 a.w]) 33 :: L) (fun γ2 => ?_)))))))))
 rcases q3 : a.ok with _ | _
 ·
  refine cD (.bool false) Try.call39 (fun w hw => by have := right_t (some ⟨γ2 0, 0, none⟩) 1 1 [a] w (sv_row (hw.row 0 rfl) rfl) rfl (by decide); rw [all1, q3] at this; exact this) (qo0 2 [] [1, 2, 4] [(8, .bool true)] (on_ (ds_ (t_ (sq_ (qa0 [(1, .go (owns 1 0 3))] [4] [(5, .int .i64 150)] (ds_ (rt (owns 1 0 3) (.tuple #[.agg #[.int .u64 0, .int .u64 0, .int .u64 0], .int .i64 150]) ?_))))))))
  exact fun w' hw => ⟨by rw [over_no q3], hw.below⟩
 ·
  refine cD (.bool true) Try.call39 (fun w hw => by have := right_t (some ⟨γ2 0, 0, none⟩) 1 1 [a] w (sv_row (hw.row 0 rfl) rfl) rfl (by decide); rw [all1, q3] at this; exact this) (qo0 2 [] [1, 2, 4] [(8, .bool false)] (on_ (ds_ (f_ (sq_ (ao_ (qo0 1 [] [1, 2, 4] [(15, .int .u64 m)] ?_)))))))
  rcases q8 : wB m with _ | _
  ·
   refine cD (.bool false) Try.call70 (fun w hw => by have := weight_t m w; rw [q8] at this; exact this) (qo0 2 [] [1, 2, 4] [(14, .bool true)] (on_ (ds_ (t_ (sq_ (qa0 [(1, .go (owns 1 0 3))] [4] [(5, .int .i64 2)] (ds_ (rt (owns 1 0 3) (.tuple #[.agg #[.int .u64 0, .int .u64 0, .int .u64 0], .int .i64 2]) ?_))))))))
   exact fun w' hw => ⟨by rw [over_arg q3 q8], hw.below⟩
  ·
   refine cD (.bool true) Try.call70 (fun w hw => by have := weight_t m w; rw [q8] at this; exact this) (qo0 2 [] [1, 2, 4] [(14, .bool false)] (on_ (ds_ (f_ (at_skip (done_block (ds_ (sq_ (ao_ (qo0 5 [(1, .go (owns 2 0 2)), (4, .go (owns 2 2 1))] [1, 4] [(21, .agg #[.int .u64 a.hi, .int .u64 a.lo]), (22, .int .u64 m), (24, .int .u64 a.w)] (cD (.tuple #[.agg #[.int .u64 (hiV (upD (a.num * m) a.w)), .int .u64 (loV (upD (a.num * m) a.w))], .int .i64 0]) Try.call71 (fun w hw => fscale_v hU q3 q8 w) (mo0 6 [(10, .go (owns 0 0 2))] [1, 4] (fun γ13 => [(6, .pointer (some ⟨γ13 0, 0, none⟩)), (7, .int .i64 0)]) (fun γ13 L => bx (γ13 0) (#[.int .u64 (hiV (upD (a.num * m) a.w)), .int .u64 (loV (upD (a.num * m) a.w))]) 31 :: L) (fun γ13 => on_ (ds_ (sq_ (ao_ (qo0 4 [(2, .go (owns 0 0 2))] [4] [(29, .agg #[.int .u64 0, .int .u64 0, .int .u64 m]), (30, .agg #[.int .u64 (hiV (upD (a.num * m) a.w)), .int .u64 (loV (upD (a.num * m) a.w))]), (31, .int .i64 0)] (cD (.tuple #[.agg #[.int .u64 ((withV m (hiV (upD (a.num * m) a.w)) (loV (upD (a.num * m) a.w)) 0).1.hi), .int .u64 ((withV m (hiV (upD (a.num * m) a.w)) (loV (upD (a.num * m) a.w)) 0).1.lo), .int .u64 ((withV m (hiV (upD (a.num * m) a.w)) (loV (upD (a.num * m) a.w)) 0).1.w)], .int .i64 ((withV m (hiV (upD (a.num * m) a.w)) (loV (upD (a.num * m) a.w)) 0).2)]) Try.call48 (fun w hw => fwith_t (⟨0, 0, m⟩ : Fq) (hiV (upD (a.num * m) a.w)) (loV (upD (a.num * m) a.w)) 0 w) (mo0 4 [(7, .go (owns 2 0 3))] [4] (fun _ => [(5, .int .i64 ((withV m (hiV (upD (a.num * m) a.w)) (loV (upD (a.num * m) a.w)) 0).2))]) (fun _ L => (L.set 2 (bx (γ1 1) (#[.int .u64 ((withV m (hiV (upD (a.num * m) a.w)) (loV (upD (a.num * m) a.w)) 0).1.hi), .int .u64 ((withV m (hiV (upD (a.num * m) a.w)) (loV (upD (a.num * m) a.w)) 0).1.lo), .int .u64 ((withV m (hiV (upD (a.num * m) a.w)) (loV (upD (a.num * m) a.w)) 0).1.w)]) 33))) (fun _ => on_ (ds_ (rt (owns 2 0 3) (.tuple #[.agg #[.int .u64 ((withV m (hiV (upD (a.num * m) a.w)) (loV (upD (a.num * m) a.w)) 0).1.hi), .int .u64 ((withV m (hiV (upD (a.num * m) a.w)) (loV (upD (a.num * m) a.w)) 0).1.lo), .int .u64 ((withV m (hiV (upD (a.num * m) a.w)) (loV (upD (a.num * m) a.w)) 0).1.w)], .int .i64 ((withV m (hiV (upD (a.num * m) a.w)) (loV (upD (a.num * m) a.w)) 0).2)]) ?_))))))))))))))))))))))
   exact fun w' hw => ⟨by rw [over_yes q3 q8], hw.below⟩

set_option maxRecDepth 100000 in
theorem floor_t (t : Fq) (s : Int) (w : World)
 (hU : t.U) (hs0 : 0 ≤ s) (hs1 : s < 18446744073709551616)
 : Calls Try.prog 65 #[.agg #[.int .u64 t.hi, .int .u64 t.lo, .int .u64 t.w], .int .u64 s] w fun e w' => e = .returned (.agg #[.int .u64 (floorV t s).hi, .int .u64 (floorV t s).lo, .int .u64 (floorV t s).w]) ∧ Below w.heap.size w w' := by
 refine enter (Hs.start w) Try.func65 rfl Try.ntmps65 rfl (sq_ (ma0 [] [1] (fun γ1 => [(2, .pointer (some ⟨γ1 0, 0, none⟩)), (4, .pointer (some ⟨γ1 1, 0, none⟩))]) (fun γ1 L => bx (γ1 1) (#[.int .u64 0, .int .u64 0, .int .u64 0]) 33 :: bx (γ1 0) (#[.int .u64 t.hi, .int .u64 t.lo, .int .u64 t.w]) 33 :: L) (fun γ1 => ds_ (sq_ ?_))))
 by_cases q2 : (t.num : Int) < ((s * t.w) : Int)
 ·
  refine at_any (by kernel_rfl) ?_
  refine tk (m := 10) [0, 2, 3] [] [2, 4] [(8, .pointer (some ⟨γ1 0, 0, none⟩)), (10, .int .u64 s), (11, .pointer (some ⟨γ1 0, 2, none⟩))] ([]) #[true, false, true, true, false, false, false, false, false, false, false, false, false] al0 ?_
  refine any_cutX (V := (Nat → Nat)) (fun γ206 => True) 0 #[true, true, true, true, true, true, true, true, true, true, true, true, true] (fun γ206 => [(2, .pointer (some ⟨γ1 0, 0, none⟩)), (4, .pointer (some ⟨γ1 1, 0, none⟩)), (5, .pointer (some ⟨γ206 0, 0, none⟩)), (6, .int .i64 131)]) (fun γ206 => [bx (γ206 0) (#[.int .u64 0, .int .u64 0]) 31, bx (γ1 1) (#[.int .u64 0, .int .u64 0, .int .u64 0]) 33, bx (γ1 0) (#[.int .u64 t.hi, .int .u64 t.lo, .int .u64 t.w]) 33]) ?_ (fun hmx14 => ?_)
  rotate_left
  ·
   refine any_cutX (V := (Nat → Nat)) (fun γ206 => True) 2 #[true, true, true, true, true, true, true, true, true, true, true, false, false] (fun γ206 => [(2, .pointer (some ⟨γ1 0, 0, none⟩)), (4, .pointer (some ⟨γ1 1, 0, none⟩)), (5, .pointer (some ⟨γ206 0, 0, none⟩)), (15, .agg #[.int .u64 0, .int .u64 0]), (16, .int .i64 131)]) (fun γ206 => [bx (γ206 0) (#[.int .u64 0, .int .u64 0]) 31, bx (γ1 1) (#[.int .u64 0, .int .u64 0, .int .u64 0]) 33, bx (γ1 0) (#[.int .u64 t.hi, .int .u64 t.lo, .int .u64 t.w]) 33]) ?_ (fun hmx13 => ?_)
   ·
    rintro γ206 _
    refine a1 11 rfl ?_
    refine qo0 1 [(11, .go (owns 0 0 2))] [2, 4, 5, 16] [] ?_
    refine od_ ?_
    refine tk (m := 0) [12] [] [2, 4, 5] [(6, .int .i64 131)] ([]) #[true, true, true, true, true, true, true, true, true, true, true, true, true] al0 ?_
    exact wk (hmx14 γ206 trivial) [2, 4, 5, 6] [[_], [_], [_]] [0, 1, 2] rfl rfl
   refine any_cutX (V := Unit) (fun _ => True) 3 #[true, true, true, true, true, true, true, true, true, true, false, false, false] (fun _ => [(2, .pointer (some ⟨γ1 0, 0, none⟩)), (4, .pointer (some ⟨γ1 1, 0, none⟩)), (15, .agg #[.int .u64 0, .int .u64 0]), (16, .int .i64 131)]) (fun _ => [bx (γ1 1) (#[.int .u64 0, .int .u64 0, .int .u64 0]) 33, bx (γ1 0) (#[.int .u64 t.hi, .int .u64 t.lo, .int .u64 t.w]) 33]) ?_ (fun hmx12 => ?_)
   ·
    rintro _ _
    refine a1 10 rfl ?_
    refine mo0 1 [] [2, 4, 15, 16] (fun γ206 => [(5, .pointer (some ⟨γ206 0, 0, none⟩))]) (fun γ206 L => bx (γ206 0) (#[.int .u64 0, .int .u64 0]) 31 :: L) (fun γ206 => ?_)
    refine od_ ?_
    exact wk (hmx13 γ206 trivial) [2, 4, 5, 15, 16] [[_], [_], [_]] [0, 1, 2] rfl rfl
   refine any_cutX (V := (Nat → Nat)) (fun γ206 => True) 6 #[true, true, true, true, true, true, false, false, false, false, true, false, false] (fun γ206 => [(2, .pointer (some ⟨γ1 0, 0, none⟩)), (4, .pointer (some ⟨γ1 1, 0, none⟩)), (5, .pointer (some ⟨γ206 0, 0, none⟩)), (9, .agg #[.int .u64 t.hi, .int .u64 t.lo]), (13, .agg #[.int .u64 (hiV (s * t.w)), .int .u64 (loV (s * t.w))])]) (fun γ206 => [bx (γ206 0) (#[.int .u64 0, .int .u64 0]) 31, bx (γ1 1) (#[.int .u64 0, .int .u64 0, .int .u64 0]) 33, bx (γ1 0) (#[.int .u64 t.hi, .int .u64 t.lo, .int .u64 t.w]) 33]) ?_ (fun hmx11 => ?_)
   ·
    rintro γ206 _
    refine a1 6 rfl ?_
    refine cD (.tuple #[.agg #[.int .u64 0, .int .u64 0], .int .i64 131]) Try.call42 (fun w hw => fsub_lt hU (Int.mul_nonneg hs0 hU.w0) q2 w) ?_
    refine od_ ?_
    refine tk (m := 2) [7, 8, 9] [] [2, 4, 5] [(15, .agg #[.int .u64 0, .int .u64 0]), (16, .int .i64 131)] ([]) #[true, true, true, true, true, true, true, true, true, true, true, false, false] al0 ?_
    exact wk (hmx13 γ206 trivial) [2, 4, 5, 15, 16] [[_], [_], [_]] [0, 1, 2] rfl rfl
   refine any_cutX (V := (Nat → Nat)) (fun γ206 => True) 7 #[true, false, true, true, true, true, false, false, false, false, true, false, false] (fun γ206 => [(2, .pointer (some ⟨γ1 0, 0, none⟩)), (4, .pointer (some ⟨γ1 1, 0, none⟩)), (5, .pointer (some ⟨γ206 0, 0, none⟩)), (8, .pointer (some ⟨γ1 0, 0, none⟩)), (13, .agg #[.int .u64 (hiV (s * t.w)), .int .u64 (loV (s * t.w))])]) (fun γ206 => [bx (γ206 0) (#[.int .u64 0, .int .u64 0]) 31, bx (γ1 1) (#[.int .u64 0, .int .u64 0, .int .u64 0]) 33, bx (γ1 0) (#[.int .u64 t.hi, .int .u64 t.lo, .int .u64 t.w]) 33]) ?_ (fun hmx10 => ?_)
   ·
    rintro γ206 _
    refine a1 1 rfl ?_
    refine qo0 1 [(1, .go (owns 2 0 2))] [2, 4, 5, 13] [(9, .agg #[.int .u64 t.hi, .int .u64 t.lo])] ?_
    refine od_ ?_
    exact wk (hmx11 γ206 trivial) [2, 4, 5, 9, 13] [[_], [_], [_]] [0, 1, 2] rfl rfl
   refine any_cutX (V := (Nat → Nat)) (fun γ206 => True) 7 #[true, true, true, true, true, false, false, false, false, false, true, false, false] (fun γ206 => [(2, .pointer (some ⟨γ1 0, 0, none⟩)), (4, .pointer (some ⟨γ1 1, 0, none⟩)), (5, .pointer (some ⟨γ206 0, 0, none⟩)), (9, .agg #[.int .u64 t.hi, .int .u64 t.lo]), (10, .int .u64 s), (12, .int .u64 t.w)]) (fun γ206 => [bx (γ206 0) (#[.int .u64 0, .int .u64 0]) 31, bx (γ1 1) (#[.int .u64 0, .int .u64 0, .int .u64 0]) 33, bx (γ1 0) (#[.int .u64 t.hi, .int .u64 t.lo, .int .u64 t.w]) 33]) ?_ (fun hmx9 => ?_)
   ·
    rintro γ206 _
    refine a1 5 rfl ?_
    refine cD (.agg #[.int .u64 (hiV (s * t.w)), .int .u64 (loV (s * t.w))]) Try.call82 (fun w hw => wmul_v hs0 hU.w0 hs1 hU.w1 w) ?_
    refine od_ ?_
    exact wk (hmx11 γ206 trivial) [2, 4, 5, 9, 13] [[_], [_], [_]] [0, 1, 2] rfl rfl
   refine any_cutX (V := Unit) (fun _ => True) 7 #[true, true, true, true, true, true, false, false, false, false, false, false, false] (fun _ => [(2, .pointer (some ⟨γ1 0, 0, none⟩)), (4, .pointer (some ⟨γ1 1, 0, none⟩)), (9, .agg #[.int .u64 t.hi, .int .u64 t.lo]), (13, .agg #[.int .u64 (hiV (s * t.w)), .int .u64 (loV (s * t.w))])]) (fun _ => [bx (γ1 1) (#[.int .u64 0, .int .u64 0, .int .u64 0]) 33, bx (γ1 0) (#[.int .u64 t.hi, .int .u64 t.lo, .int .u64 t.w]) 33]) ?_ (fun hmx8 => ?_)
   ·
    rintro _ _
    refine any_fork [6, 10] (by kernel_rfl) (by simp) (each_cons _ rfl ?_ (each_cons _ rfl ?_ (each_nil)))
    ·
     refine cD (.tuple #[.agg #[.int .u64 0, .int .u64 0], .int .i64 131]) Try.call42 (fun w hw => fsub_lt hU (Int.mul_nonneg hs0 hU.w0) q2 w) ?_
     refine od_ ?_
     refine tk (m := 3) [7, 8, 9] [] [2, 4] [(15, .agg #[.int .u64 0, .int .u64 0]), (16, .int .i64 131)] ([]) #[true, true, true, true, true, true, true, true, true, true, false, false, false] al0 ?_
     exact wk (hmx12 () trivial) [2, 4, 15, 16] [[_], [_]] [0, 1] rfl rfl
    ·
     refine mo0 1 [] [2, 4, 9, 13] (fun γ206 => [(5, .pointer (some ⟨γ206 0, 0, none⟩))]) (fun γ206 L => bx (γ206 0) (#[.int .u64 0, .int .u64 0]) 31 :: L) (fun γ206 => ?_)
     refine od_ ?_
     exact wk (hmx11 γ206 trivial) [2, 4, 5, 9, 13] [[_], [_], [_]] [0, 1, 2] rfl rfl
   refine any_cutX (V := (Nat → Nat)) (fun γ206 => True) 8 #[true, false, true, true, true, false, false, false, false, false, true, false, false] (fun γ206 => [(2, .pointer (some ⟨γ1 0, 0, none⟩)), (4, .pointer (some ⟨γ1 1, 0, none⟩)), (5, .pointer (some ⟨γ206 0, 0, none⟩)), (8, .pointer (some ⟨γ1 0, 0, none⟩)), (10, .int .u64 s), (12, .int .u64 t.w)]) (fun γ206 => [bx (γ206 0) (#[.int .u64 0, .int .u64 0]) 31, bx (γ1 1) (#[.int .u64 0, .int .u64 0, .int .u64 0]) 33, bx (γ1 0) (#[.int .u64 t.hi, .int .u64 t.lo, .int .u64 t.w]) 33]) ?_ (fun hmx7 => ?_)
   ·
    rintro γ206 _
    refine any_fork [1, 5] (by kernel_rfl) (by simp) (each_cons _ rfl ?_ (each_cons _ rfl ?_ (each_nil)))
    ·
     refine qo0 1 [(1, .go (owns 2 0 2))] [2, 4, 5, 10, 12] [(9, .agg #[.int .u64 t.hi, .int .u64 t.lo])] ?_
     refine od_ ?_
     exact wk (hmx9 γ206 trivial) [2, 4, 5, 9, 10, 12] [[_], [_], [_]] [0, 1, 2] rfl rfl
    ·
     refine cD (.agg #[.int .u64 (hiV (s * t.w)), .int .u64 (loV (s * t.w))]) Try.call82 (fun w hw => wmul_v hs0 hU.w0 hs1 hU.w1 w) ?_
     refine od_ ?_
     exact wk (hmx10 γ206 trivial) [2, 4, 5, 8, 13] [[_], [_], [_]] [0, 1, 2] rfl rfl
   refine any_cutX (V := Unit) (fun _ => True) 8 #[true, false, true, true, true, true, false, false, false, false, false, false, false] (fun _ => [(2, .pointer (some ⟨γ1 0, 0, none⟩)), (4, .pointer (some ⟨γ1 1, 0, none⟩)), (8, .pointer (some ⟨γ1 0, 0, none⟩)), (13, .agg #[.int .u64 (hiV (s * t.w)), .int .u64 (loV (s * t.w))])]) (fun _ => [bx (γ1 1) (#[.int .u64 0, .int .u64 0, .int .u64 0]) 33, bx (γ1 0) (#[.int .u64 t.hi, .int .u64 t.lo, .int .u64 t.w]) 33]) ?_ (fun hmx6 => ?_)
   ·
    rintro _ _
    refine any_fork [1, 10] (by kernel_rfl) (by simp) (each_cons _ rfl ?_ (each_cons _ rfl ?_ (each_nil)))
    ·
     refine qo0 1 [(1, .go (owns 1 0 2))] [2, 4, 13] [(9, .agg #[.int .u64 t.hi, .int .u64 t.lo])] ?_
     refine od_ ?_
     exact wk (hmx8 () trivial) [2, 4, 9, 13] [[_], [_]] [0, 1] rfl rfl
    ·
     refine mo0 1 [] [2, 4, 8, 13] (fun γ206 => [(5, .pointer (some ⟨γ206 0, 0, none⟩))]) (fun γ206 L => bx (γ206 0) (#[.int .u64 0, .int .u64 0]) 31 :: L) (fun γ206 => ?_)
     refine od_ ?_
     exact wk (hmx10 γ206 trivial) [2, 4, 5, 8, 13] [[_], [_], [_]] [0, 1, 2] rfl rfl
   refine any_cutX (V := (Nat → Nat)) (fun γ206 => True) 8 #[true, true, true, true, false, false, false, false, false, false, true, false, false] (fun γ206 => [(2, .pointer (some ⟨γ1 0, 0, none⟩)), (4, .pointer (some ⟨γ1 1, 0, none⟩)), (5, .pointer (some ⟨γ206 0, 0, none⟩)), (9, .agg #[.int .u64 t.hi, .int .u64 t.lo]), (10, .int .u64 s), (11, .pointer (some ⟨γ1 0, 2, none⟩))]) (fun γ206 => [bx (γ206 0) (#[.int .u64 0, .int .u64 0]) 31, bx (γ1 1) (#[.int .u64 0, .int .u64 0, .int .u64 0]) 33, bx (γ1 0) (#[.int .u64 t.hi, .int .u64 t.lo, .int .u64 t.w]) 33]) ?_ (fun hmx5 => ?_)
   ·
    rintro γ206 _
    refine a1 4 rfl ?_
    refine qo0 1 [(4, .go (owns 2 2 1))] [2, 4, 5, 9, 10] [(12, .int .u64 t.w)] ?_
    refine od_ ?_
    exact wk (hmx9 γ206 trivial) [2, 4, 5, 9, 10, 12] [[_], [_], [_]] [0, 1, 2] rfl rfl
   refine any_cutX (V := Unit) (fun _ => True) 8 #[true, true, true, true, true, false, false, false, false, false, false, false, false] (fun _ => [(2, .pointer (some ⟨γ1 0, 0, none⟩)), (4, .pointer (some ⟨γ1 1, 0, none⟩)), (9, .agg #[.int .u64 t.hi, .int .u64 t.lo]), (10, .int .u64 s), (12, .int .u64 t.w)]) (fun _ => [bx (γ1 1) (#[.int .u64 0, .int .u64 0, .int .u64 0]) 33, bx (γ1 0) (#[.int .u64 t.hi, .int .u64 t.lo, .int .u64 t.w]) 33]) ?_ (fun hmx4 => ?_)
   ·
    rintro _ _
    refine any_fork [5, 10] (by kernel_rfl) (by simp) (each_cons _ rfl ?_ (each_cons _ rfl ?_ (each_nil)))
    ·
     refine cD (.agg #[.int .u64 (hiV (s * t.w)), .int .u64 (loV (s * t.w))]) Try.call82 (fun w hw => wmul_v hs0 hU.w0 hs1 hU.w1 w) ?_
     refine od_ ?_
     exact wk (hmx8 () trivial) [2, 4, 9, 13] [[_], [_]] [0, 1] rfl rfl
    ·
     refine mo0 1 [] [2, 4, 9, 10, 12] (fun γ206 => [(5, .pointer (some ⟨γ206 0, 0, none⟩))]) (fun γ206 L => bx (γ206 0) (#[.int .u64 0, .int .u64 0]) 31 :: L) (fun γ206 => ?_)
     refine od_ ?_
     exact wk (hmx9 γ206 trivial) [2, 4, 5, 9, 10, 12] [[_], [_], [_]] [0, 1, 2] rfl rfl
   refine any_cutX (V := (Nat → Nat)) (fun γ206 => True) 9 #[true, false, true, true, false, false, false, false, false, false, true, false, false] (fun γ206 => [(2, .pointer (some ⟨γ1 0, 0, none⟩)), (4, .pointer (some ⟨γ1 1, 0, none⟩)), (5, .pointer (some ⟨γ206 0, 0, none⟩)), (8, .pointer (some ⟨γ1 0, 0, none⟩)), (10, .int .u64 s), (11, .pointer (some ⟨γ1 0, 2, none⟩))]) (fun γ206 => [bx (γ206 0) (#[.int .u64 0, .int .u64 0]) 31, bx (γ1 1) (#[.int .u64 0, .int .u64 0, .int .u64 0]) 33, bx (γ1 0) (#[.int .u64 t.hi, .int .u64 t.lo, .int .u64 t.w]) 33]) ?_ (fun hmx3 => ?_)
   ·
    rintro γ206 _
    refine any_fork [1, 4] (by kernel_rfl) (by simp) (each_cons _ rfl ?_ (each_cons _ rfl ?_ (each_nil)))
    ·
     refine qo0 1 [(1, .go (owns 2 0 2))] [2, 4, 5, 10, 11] [(9, .agg #[.int .u64 t.hi, .int .u64 t.lo])] ?_
     refine od_ ?_
     exact wk (hmx5 γ206 trivial) [2, 4, 5, 9, 10, 11] [[_], [_], [_]] [0, 1, 2] rfl rfl
    ·
     refine qo0 1 [(4, .go (owns 2 2 1))] [2, 4, 5, 8, 10] [(12, .int .u64 t.w)] ?_
     refine od_ ?_
     exact wk (hmx7 γ206 trivial) [2, 4, 5, 8, 10, 12] [[_], [_], [_]] [0, 1, 2] rfl rfl
   refine any_cutX (V := Unit) (fun _ => True) 9 #[true, false, true, true, true, false, false, false, false, false, false, false, false] (fun _ => [(2, .pointer (some ⟨γ1 0, 0, none⟩)), (4, .pointer (some ⟨γ1 1, 0, none⟩)), (8, .pointer (some ⟨γ1 0, 0, none⟩)), (10, .int .u64 s), (12, .int .u64 t.w)]) (fun _ => [bx (γ1 1) (#[.int .u64 0, .int .u64 0, .int .u64 0]) 33, bx (γ1 0) (#[.int .u64 t.hi, .int .u64 t.lo, .int .u64 t.w]) 33]) ?_ (fun hmx2 => ?_)
   ·
    rintro _ _
    refine any_fork [1, 5, 10] (by kernel_rfl) (by simp) (each_cons _ rfl ?_ (each_cons _ rfl ?_ (each_cons _ rfl ?_ (each_nil))))
    ·
     refine qo0 1 [(1, .go (owns 1 0 2))] [2, 4, 10, 12] [(9, .agg #[.int .u64 t.hi, .int .u64 t.lo])] ?_
     refine od_ ?_
     exact wk (hmx4 () trivial) [2, 4, 9, 10, 12] [[_], [_]] [0, 1] rfl rfl
    ·
     refine cD (.agg #[.int .u64 (hiV (s * t.w)), .int .u64 (loV (s * t.w))]) Try.call82 (fun w hw => wmul_v hs0 hU.w0 hs1 hU.w1 w) ?_
     refine od_ ?_
     exact wk (hmx6 () trivial) [2, 4, 8, 13] [[_], [_]] [0, 1] rfl rfl
    ·
     refine mo0 1 [] [2, 4, 8, 10, 12] (fun γ206 => [(5, .pointer (some ⟨γ206 0, 0, none⟩))]) (fun γ206 L => bx (γ206 0) (#[.int .u64 0, .int .u64 0]) 31 :: L) (fun γ206 => ?_)
     refine od_ ?_
     exact wk (hmx7 γ206 trivial) [2, 4, 5, 8, 10, 12] [[_], [_], [_]] [0, 1, 2] rfl rfl
   refine any_cutX (V := Unit) (fun _ => True) 9 #[true, true, true, true, false, false, false, false, false, false, false, false, false] (fun _ => [(2, .pointer (some ⟨γ1 0, 0, none⟩)), (4, .pointer (some ⟨γ1 1, 0, none⟩)), (9, .agg #[.int .u64 t.hi, .int .u64 t.lo]), (10, .int .u64 s), (11, .pointer (some ⟨γ1 0, 2, none⟩))]) (fun _ => [bx (γ1 1) (#[.int .u64 0, .int .u64 0, .int .u64 0]) 33, bx (γ1 0) (#[.int .u64 t.hi, .int .u64 t.lo, .int .u64 t.w]) 33]) ?_ (fun hmx1 => ?_)
   ·
    rintro _ _
    refine any_fork [4, 10] (by kernel_rfl) (by simp) (each_cons _ rfl ?_ (each_cons _ rfl ?_ (each_nil)))
    ·
     refine qo0 1 [(4, .go (owns 1 2 1))] [2, 4, 9, 10] [(12, .int .u64 t.w)] ?_
     refine od_ ?_
     exact wk (hmx4 () trivial) [2, 4, 9, 10, 12] [[_], [_]] [0, 1] rfl rfl
    ·
     refine mo0 1 [] [2, 4, 9, 10, 11] (fun γ206 => [(5, .pointer (some ⟨γ206 0, 0, none⟩))]) (fun γ206 L => bx (γ206 0) (#[.int .u64 0, .int .u64 0]) 31 :: L) (fun γ206 => ?_)
     refine od_ ?_
     exact wk (hmx5 γ206 trivial) [2, 4, 5, 9, 10, 11] [[_], [_], [_]] [0, 1, 2] rfl rfl
   refine any_fork [1, 4, 10] (by kernel_rfl) (by simp) (each_cons _ rfl ?_ (each_cons _ rfl ?_ (each_cons _ rfl ?_ (each_nil))))
   ·
    refine qo0 1 [(1, .go (owns 1 0 2))] [2, 4, 10, 11] [(9, .agg #[.int .u64 t.hi, .int .u64 t.lo])] ?_
    refine od_ ?_
    exact wk (hmx1 () trivial) [2, 4, 9, 10, 11] [[_], [_]] [0, 1] rfl rfl
   ·
    refine qo0 1 [(4, .go (owns 1 2 1))] [2, 4, 8, 10] [(12, .int .u64 t.w)] ?_
    refine od_ ?_
    exact wk (hmx2 () trivial) [2, 4, 8, 10, 12] [[_], [_]] [0, 1] rfl rfl
   ·
    refine mo0 1 [] [2, 4, 8, 10, 11] (fun γ206 => [(5, .pointer (some ⟨γ206 0, 0, none⟩))]) (fun γ206 L => bx (γ206 0) (#[.int .u64 0, .int .u64 0]) 31 :: L) (fun γ206 => ?_)
    refine od_ ?_
    exact wk (hmx3 γ206 trivial) [2, 4, 5, 8, 10, 11] [[_], [_], [_]] [0, 1, 2] rfl rfl
  rintro γ206 _
  refine any_nil (by kernel_rfl) ?_
  refine ds_ (sq_ (sq_ (qa0 [] [2, 4, 5] [(18, .bool true)] (ds_ (t_ (qa0 [(1, .go (owns 0 0 2))] [2, 4, 5] [] (ds_ (sq_ (ma0 [(0, .go (owns 0 0 2)), (2, .go (owns 2 2 1)), (4, .go (owns 1 0 3))] [4] (fun _ => []) (fun _ L => (L.set 1 (bx (γ1 1) (#[.int .u64 0, .int .u64 0, .int .u64 t.w]) 33))) (fun _ => ds_ (rt (owns 1 0 3) (.agg #[.int .u64 0, .int .u64 0, .int .u64 t.w]) ?_)))))))))))
  exact fun w' hw => ⟨by unfold floorV; rw [sub_lt q2]; rfl, hw.below⟩
 ·
  refine at_any (by kernel_rfl) ?_
  refine tk (m := 10) [0, 2, 3] [] [2, 4] [(8, .pointer (some ⟨γ1 0, 0, none⟩)), (10, .int .u64 s), (11, .pointer (some ⟨γ1 0, 2, none⟩))] ([]) #[true, false, true, true, false, false, false, false, false, false, false, false, false] al0 ?_
  refine any_cutX (V := (Nat → Nat)) (fun γ517 => True) 0 #[true, true, true, true, true, true, true, true, true, true, true, true, true] (fun γ517 => [(2, .pointer (some ⟨γ1 0, 0, none⟩)), (4, .pointer (some ⟨γ1 1, 0, none⟩)), (5, .pointer (some ⟨γ517 0, 0, none⟩)), (6, .int .i64 0)]) (fun γ517 => [bx (γ517 0) (#[.int .u64 (hiV (t.num - (s * t.w))), .int .u64 (loV (t.num - (s * t.w)))]) 31, bx (γ1 1) (#[.int .u64 0, .int .u64 0, .int .u64 0]) 33, bx (γ1 0) (#[.int .u64 t.hi, .int .u64 t.lo, .int .u64 t.w]) 33]) ?_ (fun hmx14 => ?_)
  rotate_left
  ·
   refine any_cutX (V := (Nat → Nat)) (fun γ517 => True) 2 #[true, true, true, true, true, true, true, true, true, true, true, false, false] (fun γ517 => [(2, .pointer (some ⟨γ1 0, 0, none⟩)), (4, .pointer (some ⟨γ1 1, 0, none⟩)), (5, .pointer (some ⟨γ517 0, 0, none⟩)), (15, .agg #[.int .u64 (hiV (t.num - (s * t.w))), .int .u64 (loV (t.num - (s * t.w)))]), (16, .int .i64 0)]) (fun γ517 => [bx (γ517 0) (#[.int .u64 0, .int .u64 0]) 31, bx (γ1 1) (#[.int .u64 0, .int .u64 0, .int .u64 0]) 33, bx (γ1 0) (#[.int .u64 t.hi, .int .u64 t.lo, .int .u64 t.w]) 33]) ?_ (fun hmx13 => ?_)
   ·
    rintro γ517 _
    refine a1 11 rfl ?_
    refine mo0 1 [(11, .go (owns 0 0 2))] [2, 4, 5, 16] (fun _ => []) (fun _ L => (L.set 0 (bx (γ517 0) (#[.int .u64 (hiV (t.num - (s * t.w))), .int .u64 (loV (t.num - (s * t.w)))]) 31))) (fun _ => ?_)
    refine od_ ?_
    refine tk (m := 0) [12] [] [2, 4, 5] [(6, .int .i64 0)] ([]) #[true, true, true, true, true, true, true, true, true, true, true, true, true] al0 ?_
    exact wk (hmx14 γ517 trivial) [2, 4, 5, 6] [[_], [_], [_]] [0, 1, 2] rfl rfl
   refine any_cutX (V := Unit) (fun _ => True) 3 #[true, true, true, true, true, true, true, true, true, true, false, false, false] (fun _ => [(2, .pointer (some ⟨γ1 0, 0, none⟩)), (4, .pointer (some ⟨γ1 1, 0, none⟩)), (15, .agg #[.int .u64 (hiV (t.num - (s * t.w))), .int .u64 (loV (t.num - (s * t.w)))]), (16, .int .i64 0)]) (fun _ => [bx (γ1 1) (#[.int .u64 0, .int .u64 0, .int .u64 0]) 33, bx (γ1 0) (#[.int .u64 t.hi, .int .u64 t.lo, .int .u64 t.w]) 33]) ?_ (fun hmx12 => ?_)
   ·
    rintro _ _
    refine a1 10 rfl ?_
    refine mo0 1 [] [2, 4, 15, 16] (fun γ517 => [(5, .pointer (some ⟨γ517 0, 0, none⟩))]) (fun γ517 L => bx (γ517 0) (#[.int .u64 0, .int .u64 0]) 31 :: L) (fun γ517 => ?_)
    refine od_ ?_
    exact wk (hmx13 γ517 trivial) [2, 4, 5, 15, 16] [[_], [_], [_]] [0, 1, 2] rfl rfl
   refine any_cutX (V := (Nat → Nat)) (fun γ517 => True) 6 #[true, true, true, true, true, true, false, false, false, false, true, false, false] (fun γ517 => [(2, .pointer (some ⟨γ1 0, 0, none⟩)), (4, .pointer (some ⟨γ1 1, 0, none⟩)), (5, .pointer (some ⟨γ517 0, 0, none⟩)), (9, .agg #[.int .u64 t.hi, .int .u64 t.lo]), (13, .agg #[.int .u64 (hiV (s * t.w)), .int .u64 (loV (s * t.w))])]) (fun γ517 => [bx (γ517 0) (#[.int .u64 0, .int .u64 0]) 31, bx (γ1 1) (#[.int .u64 0, .int .u64 0, .int .u64 0]) 33, bx (γ1 0) (#[.int .u64 t.hi, .int .u64 t.lo, .int .u64 t.w]) 33]) ?_ (fun hmx11 => ?_)
   ·
    rintro γ517 _
    refine a1 6 rfl ?_
    refine cD (.tuple #[.agg #[.int .u64 (hiV (t.num - (s * t.w))), .int .u64 (loV (t.num - (s * t.w)))], .int .i64 0]) Try.call42 (fun w hw => fsub_ge hU (Int.mul_nonneg hs0 hU.w0) q2 w) ?_
    refine od_ ?_
    refine tk (m := 2) [7, 8, 9] [] [2, 4, 5] [(15, .agg #[.int .u64 (hiV (t.num - (s * t.w))), .int .u64 (loV (t.num - (s * t.w)))]), (16, .int .i64 0)] ([]) #[true, true, true, true, true, true, true, true, true, true, true, false, false] al0 ?_
    exact wk (hmx13 γ517 trivial) [2, 4, 5, 15, 16] [[_], [_], [_]] [0, 1, 2] rfl rfl
   refine any_cutX (V := (Nat → Nat)) (fun γ517 => True) 7 #[true, false, true, true, true, true, false, false, false, false, true, false, false] (fun γ517 => [(2, .pointer (some ⟨γ1 0, 0, none⟩)), (4, .pointer (some ⟨γ1 1, 0, none⟩)), (5, .pointer (some ⟨γ517 0, 0, none⟩)), (8, .pointer (some ⟨γ1 0, 0, none⟩)), (13, .agg #[.int .u64 (hiV (s * t.w)), .int .u64 (loV (s * t.w))])]) (fun γ517 => [bx (γ517 0) (#[.int .u64 0, .int .u64 0]) 31, bx (γ1 1) (#[.int .u64 0, .int .u64 0, .int .u64 0]) 33, bx (γ1 0) (#[.int .u64 t.hi, .int .u64 t.lo, .int .u64 t.w]) 33]) ?_ (fun hmx10 => ?_)
   ·
    rintro γ517 _
    refine a1 1 rfl ?_
    refine qo0 1 [(1, .go (owns 2 0 2))] [2, 4, 5, 13] [(9, .agg #[.int .u64 t.hi, .int .u64 t.lo])] ?_
    refine od_ ?_
    exact wk (hmx11 γ517 trivial) [2, 4, 5, 9, 13] [[_], [_], [_]] [0, 1, 2] rfl rfl
   refine any_cutX (V := (Nat → Nat)) (fun γ517 => True) 7 #[true, true, true, true, true, false, false, false, false, false, true, false, false] (fun γ517 => [(2, .pointer (some ⟨γ1 0, 0, none⟩)), (4, .pointer (some ⟨γ1 1, 0, none⟩)), (5, .pointer (some ⟨γ517 0, 0, none⟩)), (9, .agg #[.int .u64 t.hi, .int .u64 t.lo]), (10, .int .u64 s), (12, .int .u64 t.w)]) (fun γ517 => [bx (γ517 0) (#[.int .u64 0, .int .u64 0]) 31, bx (γ1 1) (#[.int .u64 0, .int .u64 0, .int .u64 0]) 33, bx (γ1 0) (#[.int .u64 t.hi, .int .u64 t.lo, .int .u64 t.w]) 33]) ?_ (fun hmx9 => ?_)
   ·
    rintro γ517 _
    refine a1 5 rfl ?_
    refine cD (.agg #[.int .u64 (hiV (s * t.w)), .int .u64 (loV (s * t.w))]) Try.call82 (fun w hw => wmul_v hs0 hU.w0 hs1 hU.w1 w) ?_
    refine od_ ?_
    exact wk (hmx11 γ517 trivial) [2, 4, 5, 9, 13] [[_], [_], [_]] [0, 1, 2] rfl rfl
   refine any_cutX (V := Unit) (fun _ => True) 7 #[true, true, true, true, true, true, false, false, false, false, false, false, false] (fun _ => [(2, .pointer (some ⟨γ1 0, 0, none⟩)), (4, .pointer (some ⟨γ1 1, 0, none⟩)), (9, .agg #[.int .u64 t.hi, .int .u64 t.lo]), (13, .agg #[.int .u64 (hiV (s * t.w)), .int .u64 (loV (s * t.w))])]) (fun _ => [bx (γ1 1) (#[.int .u64 0, .int .u64 0, .int .u64 0]) 33, bx (γ1 0) (#[.int .u64 t.hi, .int .u64 t.lo, .int .u64 t.w]) 33]) ?_ (fun hmx8 => ?_)
   ·
    rintro _ _
    refine any_fork [6, 10] (by kernel_rfl) (by simp) (each_cons _ rfl ?_ (each_cons _ rfl ?_ (each_nil)))
    ·
     refine cD (.tuple #[.agg #[.int .u64 (hiV (t.num - (s * t.w))), .int .u64 (loV (t.num - (s * t.w)))], .int .i64 0]) Try.call42 (fun w hw => fsub_ge hU (Int.mul_nonneg hs0 hU.w0) q2 w) ?_
     refine od_ ?_
     refine tk (m := 3) [7, 8, 9] [] [2, 4] [(15, .agg #[.int .u64 (hiV (t.num - (s * t.w))), .int .u64 (loV (t.num - (s * t.w)))]), (16, .int .i64 0)] ([]) #[true, true, true, true, true, true, true, true, true, true, false, false, false] al0 ?_
     exact wk (hmx12 () trivial) [2, 4, 15, 16] [[_], [_]] [0, 1] rfl rfl
    ·
     refine mo0 1 [] [2, 4, 9, 13] (fun γ517 => [(5, .pointer (some ⟨γ517 0, 0, none⟩))]) (fun γ517 L => bx (γ517 0) (#[.int .u64 0, .int .u64 0]) 31 :: L) (fun γ517 => ?_)
     refine od_ ?_
     exact wk (hmx11 γ517 trivial) [2, 4, 5, 9, 13] [[_], [_], [_]] [0, 1, 2] rfl rfl
   refine any_cutX (V := (Nat → Nat)) (fun γ517 => True) 8 #[true, false, true, true, true, false, false, false, false, false, true, false, false] (fun γ517 => [(2, .pointer (some ⟨γ1 0, 0, none⟩)), (4, .pointer (some ⟨γ1 1, 0, none⟩)), (5, .pointer (some ⟨γ517 0, 0, none⟩)), (8, .pointer (some ⟨γ1 0, 0, none⟩)), (10, .int .u64 s), (12, .int .u64 t.w)]) (fun γ517 => [bx (γ517 0) (#[.int .u64 0, .int .u64 0]) 31, bx (γ1 1) (#[.int .u64 0, .int .u64 0, .int .u64 0]) 33, bx (γ1 0) (#[.int .u64 t.hi, .int .u64 t.lo, .int .u64 t.w]) 33]) ?_ (fun hmx7 => ?_)
   ·
    rintro γ517 _
    refine any_fork [1, 5] (by kernel_rfl) (by simp) (each_cons _ rfl ?_ (each_cons _ rfl ?_ (each_nil)))
    ·
     refine qo0 1 [(1, .go (owns 2 0 2))] [2, 4, 5, 10, 12] [(9, .agg #[.int .u64 t.hi, .int .u64 t.lo])] ?_
     refine od_ ?_
     exact wk (hmx9 γ517 trivial) [2, 4, 5, 9, 10, 12] [[_], [_], [_]] [0, 1, 2] rfl rfl
    ·
     refine cD (.agg #[.int .u64 (hiV (s * t.w)), .int .u64 (loV (s * t.w))]) Try.call82 (fun w hw => wmul_v hs0 hU.w0 hs1 hU.w1 w) ?_
     refine od_ ?_
     exact wk (hmx10 γ517 trivial) [2, 4, 5, 8, 13] [[_], [_], [_]] [0, 1, 2] rfl rfl
   refine any_cutX (V := Unit) (fun _ => True) 8 #[true, false, true, true, true, true, false, false, false, false, false, false, false] (fun _ => [(2, .pointer (some ⟨γ1 0, 0, none⟩)), (4, .pointer (some ⟨γ1 1, 0, none⟩)), (8, .pointer (some ⟨γ1 0, 0, none⟩)), (13, .agg #[.int .u64 (hiV (s * t.w)), .int .u64 (loV (s * t.w))])]) (fun _ => [bx (γ1 1) (#[.int .u64 0, .int .u64 0, .int .u64 0]) 33, bx (γ1 0) (#[.int .u64 t.hi, .int .u64 t.lo, .int .u64 t.w]) 33]) ?_ (fun hmx6 => ?_)
   ·
    rintro _ _
    refine any_fork [1, 10] (by kernel_rfl) (by simp) (each_cons _ rfl ?_ (each_cons _ rfl ?_ (each_nil)))
    ·
     refine qo0 1 [(1, .go (owns 1 0 2))] [2, 4, 13] [(9, .agg #[.int .u64 t.hi, .int .u64 t.lo])] ?_
     refine od_ ?_
     exact wk (hmx8 () trivial) [2, 4, 9, 13] [[_], [_]] [0, 1] rfl rfl
    ·
     refine mo0 1 [] [2, 4, 8, 13] (fun γ517 => [(5, .pointer (some ⟨γ517 0, 0, none⟩))]) (fun γ517 L => bx (γ517 0) (#[.int .u64 0, .int .u64 0]) 31 :: L) (fun γ517 => ?_)
     refine od_ ?_
     exact wk (hmx10 γ517 trivial) [2, 4, 5, 8, 13] [[_], [_], [_]] [0, 1, 2] rfl rfl
   refine any_cutX (V := (Nat → Nat)) (fun γ517 => True) 8 #[true, true, true, true, false, false, false, false, false, false, true, false, false] (fun γ517 => [(2, .pointer (some ⟨γ1 0, 0, none⟩)), (4, .pointer (some ⟨γ1 1, 0, none⟩)), (5, .pointer (some ⟨γ517 0, 0, none⟩)), (9, .agg #[.int .u64 t.hi, .int .u64 t.lo]), (10, .int .u64 s), (11, .pointer (some ⟨γ1 0, 2, none⟩))]) (fun γ517 => [bx (γ517 0) (#[.int .u64 0, .int .u64 0]) 31, bx (γ1 1) (#[.int .u64 0, .int .u64 0, .int .u64 0]) 33, bx (γ1 0) (#[.int .u64 t.hi, .int .u64 t.lo, .int .u64 t.w]) 33]) ?_ (fun hmx5 => ?_)
   ·
    rintro γ517 _
    refine a1 4 rfl ?_
    refine qo0 1 [(4, .go (owns 2 2 1))] [2, 4, 5, 9, 10] [(12, .int .u64 t.w)] ?_
    refine od_ ?_
    exact wk (hmx9 γ517 trivial) [2, 4, 5, 9, 10, 12] [[_], [_], [_]] [0, 1, 2] rfl rfl
   refine any_cutX (V := Unit) (fun _ => True) 8 #[true, true, true, true, true, false, false, false, false, false, false, false, false] (fun _ => [(2, .pointer (some ⟨γ1 0, 0, none⟩)), (4, .pointer (some ⟨γ1 1, 0, none⟩)), (9, .agg #[.int .u64 t.hi, .int .u64 t.lo]), (10, .int .u64 s), (12, .int .u64 t.w)]) (fun _ => [bx (γ1 1) (#[.int .u64 0, .int .u64 0, .int .u64 0]) 33, bx (γ1 0) (#[.int .u64 t.hi, .int .u64 t.lo, .int .u64 t.w]) 33]) ?_ (fun hmx4 => ?_)
   ·
    rintro _ _
    refine any_fork [5, 10] (by kernel_rfl) (by simp) (each_cons _ rfl ?_ (each_cons _ rfl ?_ (each_nil)))
    ·
     refine cD (.agg #[.int .u64 (hiV (s * t.w)), .int .u64 (loV (s * t.w))]) Try.call82 (fun w hw => wmul_v hs0 hU.w0 hs1 hU.w1 w) ?_
     refine od_ ?_
     exact wk (hmx8 () trivial) [2, 4, 9, 13] [[_], [_]] [0, 1] rfl rfl
    ·
     refine mo0 1 [] [2, 4, 9, 10, 12] (fun γ517 => [(5, .pointer (some ⟨γ517 0, 0, none⟩))]) (fun γ517 L => bx (γ517 0) (#[.int .u64 0, .int .u64 0]) 31 :: L) (fun γ517 => ?_)
     refine od_ ?_
     exact wk (hmx9 γ517 trivial) [2, 4, 5, 9, 10, 12] [[_], [_], [_]] [0, 1, 2] rfl rfl
   refine any_cutX (V := (Nat → Nat)) (fun γ517 => True) 9 #[true, false, true, true, false, false, false, false, false, false, true, false, false] (fun γ517 => [(2, .pointer (some ⟨γ1 0, 0, none⟩)), (4, .pointer (some ⟨γ1 1, 0, none⟩)), (5, .pointer (some ⟨γ517 0, 0, none⟩)), (8, .pointer (some ⟨γ1 0, 0, none⟩)), (10, .int .u64 s), (11, .pointer (some ⟨γ1 0, 2, none⟩))]) (fun γ517 => [bx (γ517 0) (#[.int .u64 0, .int .u64 0]) 31, bx (γ1 1) (#[.int .u64 0, .int .u64 0, .int .u64 0]) 33, bx (γ1 0) (#[.int .u64 t.hi, .int .u64 t.lo, .int .u64 t.w]) 33]) ?_ (fun hmx3 => ?_)
   ·
    rintro γ517 _
    refine any_fork [1, 4] (by kernel_rfl) (by simp) (each_cons _ rfl ?_ (each_cons _ rfl ?_ (each_nil)))
    ·
     refine qo0 1 [(1, .go (owns 2 0 2))] [2, 4, 5, 10, 11] [(9, .agg #[.int .u64 t.hi, .int .u64 t.lo])] ?_
     refine od_ ?_
     exact wk (hmx5 γ517 trivial) [2, 4, 5, 9, 10, 11] [[_], [_], [_]] [0, 1, 2] rfl rfl
    ·
     refine qo0 1 [(4, .go (owns 2 2 1))] [2, 4, 5, 8, 10] [(12, .int .u64 t.w)] ?_
     refine od_ ?_
     exact wk (hmx7 γ517 trivial) [2, 4, 5, 8, 10, 12] [[_], [_], [_]] [0, 1, 2] rfl rfl
   refine any_cutX (V := Unit) (fun _ => True) 9 #[true, false, true, true, true, false, false, false, false, false, false, false, false] (fun _ => [(2, .pointer (some ⟨γ1 0, 0, none⟩)), (4, .pointer (some ⟨γ1 1, 0, none⟩)), (8, .pointer (some ⟨γ1 0, 0, none⟩)), (10, .int .u64 s), (12, .int .u64 t.w)]) (fun _ => [bx (γ1 1) (#[.int .u64 0, .int .u64 0, .int .u64 0]) 33, bx (γ1 0) (#[.int .u64 t.hi, .int .u64 t.lo, .int .u64 t.w]) 33]) ?_ (fun hmx2 => ?_)
   ·
    rintro _ _
    refine any_fork [1, 5, 10] (by kernel_rfl) (by simp) (each_cons _ rfl ?_ (each_cons _ rfl ?_ (each_cons _ rfl ?_ (each_nil))))
    ·
     refine qo0 1 [(1, .go (owns 1 0 2))] [2, 4, 10, 12] [(9, .agg #[.int .u64 t.hi, .int .u64 t.lo])] ?_
     refine od_ ?_
     exact wk (hmx4 () trivial) [2, 4, 9, 10, 12] [[_], [_]] [0, 1] rfl rfl
    ·
     refine cD (.agg #[.int .u64 (hiV (s * t.w)), .int .u64 (loV (s * t.w))]) Try.call82 (fun w hw => wmul_v hs0 hU.w0 hs1 hU.w1 w) ?_
     refine od_ ?_
     exact wk (hmx6 () trivial) [2, 4, 8, 13] [[_], [_]] [0, 1] rfl rfl
    ·
     refine mo0 1 [] [2, 4, 8, 10, 12] (fun γ517 => [(5, .pointer (some ⟨γ517 0, 0, none⟩))]) (fun γ517 L => bx (γ517 0) (#[.int .u64 0, .int .u64 0]) 31 :: L) (fun γ517 => ?_)
     refine od_ ?_
     exact wk (hmx7 γ517 trivial) [2, 4, 5, 8, 10, 12] [[_], [_], [_]] [0, 1, 2] rfl rfl
   refine any_cutX (V := Unit) (fun _ => True) 9 #[true, true, true, true, false, false, false, false, false, false, false, false, false] (fun _ => [(2, .pointer (some ⟨γ1 0, 0, none⟩)), (4, .pointer (some ⟨γ1 1, 0, none⟩)), (9, .agg #[.int .u64 t.hi, .int .u64 t.lo]), (10, .int .u64 s), (11, .pointer (some ⟨γ1 0, 2, none⟩))]) (fun _ => [bx (γ1 1) (#[.int .u64 0, .int .u64 0, .int .u64 0]) 33, bx (γ1 0) (#[.int .u64 t.hi, .int .u64 t.lo, .int .u64 t.w]) 33]) ?_ (fun hmx1 => ?_)
   ·
    rintro _ _
    refine any_fork [4, 10] (by kernel_rfl) (by simp) (each_cons _ rfl ?_ (each_cons _ rfl ?_ (each_nil)))
    ·
     refine qo0 1 [(4, .go (owns 1 2 1))] [2, 4, 9, 10] [(12, .int .u64 t.w)] ?_
     refine od_ ?_
     exact wk (hmx4 () trivial) [2, 4, 9, 10, 12] [[_], [_]] [0, 1] rfl rfl
    ·
     refine mo0 1 [] [2, 4, 9, 10, 11] (fun γ517 => [(5, .pointer (some ⟨γ517 0, 0, none⟩))]) (fun γ517 L => bx (γ517 0) (#[.int .u64 0, .int .u64 0]) 31 :: L) (fun γ517 => ?_)
     refine od_ ?_
     exact wk (hmx5 γ517 trivial) [2, 4, 5, 9, 10, 11] [[_], [_], [_]] [0, 1, 2] rfl rfl
   refine any_fork [1, 4, 10] (by kernel_rfl) (by simp) (each_cons _ rfl ?_ (each_cons _ rfl ?_ (each_cons _ rfl ?_ (each_nil))))
   ·
    refine qo0 1 [(1, .go (owns 1 0 2))] [2, 4, 10, 11] [(9, .agg #[.int .u64 t.hi, .int .u64 t.lo])] ?_
    refine od_ ?_
    exact wk (hmx1 () trivial) [2, 4, 9, 10, 11] [[_], [_]] [0, 1] rfl rfl
   ·
    refine qo0 1 [(4, .go (owns 1 2 1))] [2, 4, 8, 10] [(12, .int .u64 t.w)] ?_
    refine od_ ?_
    exact wk (hmx2 () trivial) [2, 4, 8, 10, 12] [[_], [_]] [0, 1] rfl rfl
   ·
    refine mo0 1 [] [2, 4, 8, 10, 11] (fun γ517 => [(5, .pointer (some ⟨γ517 0, 0, none⟩))]) (fun γ517 L => bx (γ517 0) (#[.int .u64 0, .int .u64 0]) 31 :: L) (fun γ517 => ?_)
    refine od_ ?_
    exact wk (hmx3 γ517 trivial) [2, 4, 5, 8, 10, 11] [[_], [_], [_]] [0, 1, 2] rfl rfl
  rintro γ517 _
  refine any_nil (by kernel_rfl) ?_
  refine ds_ (sq_ (sq_ (qa0 [] [2, 4, 5] [(18, .bool false)] (ds_ (f_ (at_skip (ds_ (sq_ (ma0 [(0, .go (owns 0 0 2)), (2, .go (owns 2 2 1)), (4, .go (owns 1 0 3))] [4] (fun _ => []) (fun _ L => (L.set 1 (bx (γ1 1) (#[.int .u64 (hiV (t.num - (s * t.w))), .int .u64 (loV (t.num - (s * t.w))), .int .u64 t.w]) 33))) (fun _ => ds_ (rt (owns 1 0 3) (.agg #[.int .u64 (hiV (t.num - (s * t.w))), .int .u64 (loV (t.num - (s * t.w))), .int .u64 t.w]) ?_)))))))))))
  exact fun w' hw => ⟨by unfold floorV; rw [sub_ge q2], hw.below⟩

set_option maxRecDepth 100000 in
theorem fbeh_t (a t : Fq) (s : Int) (w : World)
 (hU : a.U) (hV : t.U) (hs0 : 0 ≤ s) (hs1 : s < 18446744073709551616)
 : Calls Try.prog 30 #[.agg #[.int .u64 a.hi, .int .u64 a.lo, .int .u64 a.w], .agg #[.int .u64 t.hi, .int .u64 t.lo, .int .u64 t.w], .int .u64 s] w fun e w' => e = .returned (.bool (behV a t s)) ∧ Below w.heap.size w w' := by
 refine enter (Hs.start w) Try.func30 rfl Try.ntmps30 rfl (sq_ (ma0 [] [2] (fun γ1 => [(3, .pointer (some ⟨γ1 0, 0, none⟩)), (4, .pointer (some ⟨γ1 1, 0, none⟩))]) (fun γ1 L => bx (γ1 1) (#[.int .u64 t.hi, .int .u64 t.lo, .int .u64 t.w]) 33 :: bx (γ1 0) (#[.int .u64 a.hi, .int .u64 a.lo, .int .u64 a.w]) 33 :: L) (fun γ1 => ds_ (sq_ ?_))))
 rcases q2 : (a.ok && t.ok) with _ | _
 ·
  refine at_calmTo (f := 11) 2 rfl (by kernel_rfl) (by kernel_rfl) (by kernel_rfl) (by kernel_rfl) (by kernel_rfl) (by kernel_rfl) ?_
  refine cm 2 [(0, .go (owns 1 0 3)), (1, .go (owns 0 0 3))] [2, 3, 4] [(7, .agg #[.int .u64 a.hi, .int .u64 a.lo, .int .u64 a.w]), (8, .agg #[.int .u64 t.hi, .int .u64 t.lo, .int .u64 t.w])] ([]) (by kernel_rfl) rfl al0 ?_
  refine calm_nil' ?_
  refine done_pre (li' := #[true, true, false, false, false, false, false, false, false, false, false, false, false]) (by kernel_rfl) ?_
  refine any_cutX (V := (Nat → Nat)) (fun γ46 => True) 0 #[true, true, true, true, true, true, true, true, true, true, true, true, true] (fun γ46 => [(6, .bool false)]) (fun γ46 => [bx (γ46 0) (#[.int .u64 a.hi, .int .u64 a.lo, .int .u64 a.w, .int .u64 t.hi, .int .u64 t.lo, .int .u64 t.w]) 33, bx (γ1 1) (#[.int .u64 t.hi, .int .u64 t.lo, .int .u64 t.w]) 33, bx (γ1 0) (#[.int .u64 a.hi, .int .u64 a.lo, .int .u64 a.w]) 33]) ?_ (fun hmx8 => ?_)
  rotate_left
  ·
   refine any_cutX (V := (Nat → Nat)) (fun γ46 => True) 4 #[true, true, true, true, true, true, true, true, true, false, false, false, false] (fun γ46 => [(11, .bool false), (12, undef), (15, undef)]) (fun γ46 => [bx (γ46 0) (#[.int .u64 a.hi, .int .u64 a.lo, .int .u64 a.w, .int .u64 t.hi, .int .u64 t.lo, .int .u64 t.w]) 33, bx (γ1 1) (#[.int .u64 t.hi, .int .u64 t.lo, .int .u64 t.w]) 33, bx (γ1 0) (#[.int .u64 a.hi, .int .u64 a.lo, .int .u64 a.w]) 33]) ?_ (fun hmx7 => ?_)
   ·
    rintro γ46 _
    refine a1 9 rfl ?_
    refine qo0 1 [] [11] [(16, undef)] ?_
    refine od_ ?_
    refine tk (m := 0) [10, 11, 12] [] [] [(6, .bool false)] ([]) #[true, true, true, true, true, true, true, true, true, true, true, true, true] al0 ?_
    exact wk (hmx8 γ46 trivial) [6] [[_], [_], [_]] [0, 1, 2] rfl rfl
   refine any_cutX (V := (Nat → Nat)) (fun γ46 => True) 5 #[true, true, true, true, true, false, true, true, true, false, false, false, false] (fun γ46 => [(3, .pointer (some ⟨γ1 0, 0, none⟩)), (11, .bool false), (15, undef)]) (fun γ46 => [bx (γ46 0) (#[.int .u64 a.hi, .int .u64 a.lo, .int .u64 a.w, .int .u64 t.hi, .int .u64 t.lo, .int .u64 t.w]) 33, bx (γ1 1) (#[.int .u64 t.hi, .int .u64 t.lo, .int .u64 t.w]) 33, bx (γ1 0) (#[.int .u64 a.hi, .int .u64 a.lo, .int .u64 a.w]) 33]) ?_ (fun hmx6 => ?_)
   ·
    rintro γ46 _
    refine a1 5 rfl ?_
    refine qo0 1 [] [11, 15] [(12, undef)] ?_
    refine od_ ?_
    exact wk (hmx7 γ46 trivial) [11, 12, 15] [[_], [_], [_]] [0, 1, 2] rfl rfl
   refine any_cutX (V := (Nat → Nat)) (fun γ46 => True) 5 #[true, true, true, true, true, true, true, true, false, false, false, false, false] (fun γ46 => [(11, .bool false), (12, undef), (13, undef), (14, undef)]) (fun γ46 => [bx (γ46 0) (#[.int .u64 a.hi, .int .u64 a.lo, .int .u64 a.w, .int .u64 t.hi, .int .u64 t.lo, .int .u64 t.w]) 33, bx (γ1 1) (#[.int .u64 t.hi, .int .u64 t.lo, .int .u64 t.w]) 33, bx (γ1 0) (#[.int .u64 a.hi, .int .u64 a.lo, .int .u64 a.w]) 33]) ?_ (fun hmx5 => ?_)
   ·
    rintro γ46 _
    refine a1 8 rfl ?_
    refine qo0 1 [] [11, 12] [(15, undef)] ?_
    refine od_ ?_
    exact wk (hmx7 γ46 trivial) [11, 12, 15] [[_], [_], [_]] [0, 1, 2] rfl rfl
   refine any_cutX (V := (Nat → Nat)) (fun γ46 => True) 6 #[true, true, true, true, true, false, true, true, false, false, false, false, false] (fun γ46 => [(3, .pointer (some ⟨γ1 0, 0, none⟩)), (11, .bool false), (13, undef), (14, undef)]) (fun γ46 => [bx (γ46 0) (#[.int .u64 a.hi, .int .u64 a.lo, .int .u64 a.w, .int .u64 t.hi, .int .u64 t.lo, .int .u64 t.w]) 33, bx (γ1 1) (#[.int .u64 t.hi, .int .u64 t.lo, .int .u64 t.w]) 33, bx (γ1 0) (#[.int .u64 a.hi, .int .u64 a.lo, .int .u64 a.w]) 33]) ?_ (fun hmx4 => ?_)
   ·
    rintro γ46 _
    refine any_fork [5, 8] (by kernel_rfl) (by simp) (each_cons _ rfl ?_ (each_cons _ rfl ?_ (each_nil)))
    ·
     refine qo0 1 [] [11, 13, 14] [(12, undef)] ?_
     refine od_ ?_
     exact wk (hmx5 γ46 trivial) [11, 12, 13, 14] [[_], [_], [_]] [0, 1, 2] rfl rfl
    ·
     refine qo0 1 [] [3, 11] [(15, undef)] ?_
     refine od_ ?_
     exact wk (hmx6 γ46 trivial) [3, 11, 15] [[_], [_], [_]] [0, 1, 2] rfl rfl
   refine any_cutX (V := (Nat → Nat)) (fun γ46 => True) 6 #[true, true, true, true, true, true, false, true, false, false, false, false, false] (fun γ46 => [(4, .pointer (some ⟨γ1 1, 0, none⟩)), (11, .bool false), (12, undef), (14, undef)]) (fun γ46 => [bx (γ46 0) (#[.int .u64 a.hi, .int .u64 a.lo, .int .u64 a.w, .int .u64 t.hi, .int .u64 t.lo, .int .u64 t.w]) 33, bx (γ1 1) (#[.int .u64 t.hi, .int .u64 t.lo, .int .u64 t.w]) 33, bx (γ1 0) (#[.int .u64 a.hi, .int .u64 a.lo, .int .u64 a.w]) 33]) ?_ (fun hmx3 => ?_)
   ·
    rintro γ46 _
    refine a1 6 rfl ?_
    refine qo0 1 [] [11, 12, 14] [(13, undef)] ?_
    refine od_ ?_
    exact wk (hmx5 γ46 trivial) [11, 12, 13, 14] [[_], [_], [_]] [0, 1, 2] rfl rfl
   refine any_cutX (V := (Nat → Nat)) (fun γ46 => True) 7 #[true, true, true, true, true, false, false, true, false, false, false, false, false] (fun γ46 => [(3, .pointer (some ⟨γ1 0, 0, none⟩)), (4, .pointer (some ⟨γ1 1, 0, none⟩)), (11, .bool false), (14, undef)]) (fun γ46 => [bx (γ46 0) (#[.int .u64 a.hi, .int .u64 a.lo, .int .u64 a.w, .int .u64 t.hi, .int .u64 t.lo, .int .u64 t.w]) 33, bx (γ1 1) (#[.int .u64 t.hi, .int .u64 t.lo, .int .u64 t.w]) 33, bx (γ1 0) (#[.int .u64 a.hi, .int .u64 a.lo, .int .u64 a.w]) 33]) ?_ (fun hmx2 => ?_)
   ·
    rintro γ46 _
    refine any_fork [5, 6] (by kernel_rfl) (by simp) (each_cons _ rfl ?_ (each_cons _ rfl ?_ (each_nil)))
    ·
     refine qo0 1 [] [4, 11, 14] [(12, undef)] ?_
     refine od_ ?_
     exact wk (hmx3 γ46 trivial) [4, 11, 12, 14] [[_], [_], [_]] [0, 1, 2] rfl rfl
    ·
     refine qo0 1 [] [3, 11, 14] [(13, undef)] ?_
     refine od_ ?_
     exact wk (hmx4 γ46 trivial) [3, 11, 13, 14] [[_], [_], [_]] [0, 1, 2] rfl rfl
   refine any_cutX (V := (Nat → Nat)) (fun γ46 => True) 10 #[true, true, true, false, false, false, false, false, false, false, false, false, false] (fun γ46 => [(2, .int .u64 s), (3, .pointer (some ⟨γ1 0, 0, none⟩)), (4, .pointer (some ⟨γ1 1, 0, none⟩)), (9, .slice (some ⟨γ46 0, 0, none⟩) 2 2)]) (fun γ46 => [bx (γ46 0) (#[.int .u64 a.hi, .int .u64 a.lo, .int .u64 a.w, .int .u64 t.hi, .int .u64 t.lo, .int .u64 t.w]) 33, bx (γ1 1) (#[.int .u64 t.hi, .int .u64 t.lo, .int .u64 t.w]) 33, bx (γ1 0) (#[.int .u64 a.hi, .int .u64 a.lo, .int .u64 a.w]) 33]) ?_ (fun hmx1 => ?_)
   ·
    rintro γ46 _
    refine a1 3 rfl ?_
    refine cD (.bool false) Try.call39 (fun w hw => by have := right_t (some ⟨γ46 0, 0, none⟩) 2 2 [a, t] w (sv_row (hw.row 0 rfl) rfl) rfl (by decide); rw [all2, q2] at this; exact this) ?_
    refine od_ ?_
    refine tk (m := 7) [4, 7] [] [3, 4] [(11, .bool false), (14, undef)] ([]) #[true, true, true, true, true, false, false, true, false, false, false, false, false] al0 ?_
    exact wk (hmx2 γ46 trivial) [3, 4, 11, 14] [[_], [_], [_]] [0, 1, 2] rfl rfl
   refine a1 2 rfl ?_
   refine mo0 1 [] [2, 3, 4] (fun γ46 => [(9, .slice (some ⟨γ46 0, 0, none⟩) 2 2)]) (fun γ46 L => bx (γ46 0) (#[.int .u64 a.hi, .int .u64 a.lo, .int .u64 a.w, .int .u64 t.hi, .int .u64 t.lo, .int .u64 t.w]) 33 :: L) (fun γ46 => ?_)
   refine od_ ?_
   exact wk (hmx1 γ46 trivial) [2, 3, 4, 9] [[_], [_], [_]] [0, 1, 2] rfl rfl
  rintro γ46 _
  refine any_nil (by kernel_rfl) ?_
  refine ds_ (rt ([]) (.bool false) ?_)
  exact fun w' hw => ⟨by rw [beh_no q2], hw.below⟩
 ·
  by_cases q309 : ((cmpF a (floorV t s)) : Int) < (0 : Int)
  ·
   refine at_calmTo (f := 11) 2 rfl (by kernel_rfl) (by kernel_rfl) (by kernel_rfl) (by kernel_rfl) (by kernel_rfl) (by kernel_rfl) ?_
   refine cm 2 [(0, .go (owns 1 0 3)), (1, .go (owns 0 0 3))] [2, 3, 4] [(7, .agg #[.int .u64 a.hi, .int .u64 a.lo, .int .u64 a.w]), (8, .agg #[.int .u64 t.hi, .int .u64 t.lo, .int .u64 t.w])] ([]) (by kernel_rfl) rfl al0 ?_
   refine calm_nil' ?_
   refine done_pre (li' := #[true, true, false, false, false, false, false, false, false, false, false, false, false]) (by kernel_rfl) ?_
   refine any_cutX (V := (Nat → Nat)) (fun γ353 => True) 0 #[true, true, true, true, true, true, true, true, true, true, true, true, true] (fun γ353 => [(6, .bool true)]) (fun γ353 => [bx (γ353 0) (#[.int .u64 a.hi, .int .u64 a.lo, .int .u64 a.w, .int .u64 t.hi, .int .u64 t.lo, .int .u64 t.w]) 33, bx (γ1 1) (#[.int .u64 t.hi, .int .u64 t.lo, .int .u64 t.w]) 33, bx (γ1 0) (#[.int .u64 a.hi, .int .u64 a.lo, .int .u64 a.w]) 33]) ?_ (fun hmx8 => ?_)
   rotate_left
   ·
    refine any_cutX (V := (Nat → Nat)) (fun γ353 => True) 4 #[true, true, true, true, true, true, true, true, true, false, false, false, false] (fun γ353 => [(11, .bool true), (12, .agg #[.int .u64 a.hi, .int .u64 a.lo, .int .u64 a.w]), (15, .agg #[.int .u64 ((floorV t s).hi), .int .u64 ((floorV t s).lo), .int .u64 ((floorV t s).w)])]) (fun γ353 => [bx (γ353 0) (#[.int .u64 a.hi, .int .u64 a.lo, .int .u64 a.w, .int .u64 t.hi, .int .u64 t.lo, .int .u64 t.w]) 33, bx (γ1 1) (#[.int .u64 t.hi, .int .u64 t.lo, .int .u64 t.w]) 33, bx (γ1 0) (#[.int .u64 a.hi, .int .u64 a.lo, .int .u64 a.w]) 33]) ?_ (fun hmx7 => ?_)
    ·
     rintro γ353 _
     refine a1 9 rfl ?_
     refine cD (.int .i64 (cmpF a (floorV t s))) Try.call13 (fun w hw => fcmp_t a (floorV t s) w hU (floor_U hV (and_r q2) hs0)) ?_
     refine od_ ?_
     refine tk (m := 0) [10, 11, 12] [(10, .yes)] [] [(6, .bool true)] ([((cmpF a (floorV t s)) : Int) < (0 : Int)]) #[true, true, true, true, true, true, true, true, true, true, true, true, true] (al1 q309) ?_
     exact wk (hmx8 γ353 trivial) [6] [[_], [_], [_]] [0, 1, 2] rfl rfl
    refine any_cutX (V := (Nat → Nat)) (fun γ353 => True) 5 #[true, true, true, true, true, false, true, true, true, false, false, false, false] (fun γ353 => [(3, .pointer (some ⟨γ1 0, 0, none⟩)), (11, .bool true), (15, .agg #[.int .u64 ((floorV t s).hi), .int .u64 ((floorV t s).lo), .int .u64 ((floorV t s).w)])]) (fun γ353 => [bx (γ353 0) (#[.int .u64 a.hi, .int .u64 a.lo, .int .u64 a.w, .int .u64 t.hi, .int .u64 t.lo, .int .u64 t.w]) 33, bx (γ1 1) (#[.int .u64 t.hi, .int .u64 t.lo, .int .u64 t.w]) 33, bx (γ1 0) (#[.int .u64 a.hi, .int .u64 a.lo, .int .u64 a.w]) 33]) ?_ (fun hmx6 => ?_)
    ·
     rintro γ353 _
     refine a1 5 rfl ?_
     refine qo0 1 [(5, .go (owns 2 0 3))] [11, 15] [(12, .agg #[.int .u64 a.hi, .int .u64 a.lo, .int .u64 a.w])] ?_
     refine od_ ?_
     exact wk (hmx7 γ353 trivial) [11, 12, 15] [[_], [_], [_]] [0, 1, 2] rfl rfl
    refine any_cutX (V := (Nat → Nat)) (fun γ353 => True) 5 #[true, true, true, true, true, true, true, true, false, false, false, false, false] (fun γ353 => [(11, .bool true), (12, .agg #[.int .u64 a.hi, .int .u64 a.lo, .int .u64 a.w]), (13, .agg #[.int .u64 t.hi, .int .u64 t.lo, .int .u64 t.w]), (14, .int .u64 s)]) (fun γ353 => [bx (γ353 0) (#[.int .u64 a.hi, .int .u64 a.lo, .int .u64 a.w, .int .u64 t.hi, .int .u64 t.lo, .int .u64 t.w]) 33, bx (γ1 1) (#[.int .u64 t.hi, .int .u64 t.lo, .int .u64 t.w]) 33, bx (γ1 0) (#[.int .u64 a.hi, .int .u64 a.lo, .int .u64 a.w]) 33]) ?_ (fun hmx5 => ?_)
    ·
     rintro γ353 _
     refine a1 8 rfl ?_
     refine cD (.agg #[.int .u64 ((floorV t s).hi), .int .u64 ((floorV t s).lo), .int .u64 ((floorV t s).w)]) Try.call65 (fun w hw => floor_t t s w hV hs0 hs1) ?_
     refine od_ ?_
     exact wk (hmx7 γ353 trivial) [11, 12, 15] [[_], [_], [_]] [0, 1, 2] rfl rfl
    refine any_cutX (V := (Nat → Nat)) (fun γ353 => True) 6 #[true, true, true, true, true, false, true, true, false, false, false, false, false] (fun γ353 => [(3, .pointer (some ⟨γ1 0, 0, none⟩)), (11, .bool true), (13, .agg #[.int .u64 t.hi, .int .u64 t.lo, .int .u64 t.w]), (14, .int .u64 s)]) (fun γ353 => [bx (γ353 0) (#[.int .u64 a.hi, .int .u64 a.lo, .int .u64 a.w, .int .u64 t.hi, .int .u64 t.lo, .int .u64 t.w]) 33, bx (γ1 1) (#[.int .u64 t.hi, .int .u64 t.lo, .int .u64 t.w]) 33, bx (γ1 0) (#[.int .u64 a.hi, .int .u64 a.lo, .int .u64 a.w]) 33]) ?_ (fun hmx4 => ?_)
    ·
     rintro γ353 _
     refine any_fork [5, 8] (by kernel_rfl) (by simp) (each_cons _ rfl ?_ (each_cons _ rfl ?_ (each_nil)))
     ·
      refine qo0 1 [(5, .go (owns 2 0 3))] [11, 13, 14] [(12, .agg #[.int .u64 a.hi, .int .u64 a.lo, .int .u64 a.w])] ?_
      refine od_ ?_
      exact wk (hmx5 γ353 trivial) [11, 12, 13, 14] [[_], [_], [_]] [0, 1, 2] rfl rfl
     ·
      refine cD (.agg #[.int .u64 ((floorV t s).hi), .int .u64 ((floorV t s).lo), .int .u64 ((floorV t s).w)]) Try.call65 (fun w hw => floor_t t s w hV hs0 hs1) ?_
      refine od_ ?_
      exact wk (hmx6 γ353 trivial) [3, 11, 15] [[_], [_], [_]] [0, 1, 2] rfl rfl
    refine any_cutX (V := (Nat → Nat)) (fun γ353 => True) 6 #[true, true, true, true, true, true, false, true, false, false, false, false, false] (fun γ353 => [(4, .pointer (some ⟨γ1 1, 0, none⟩)), (11, .bool true), (12, .agg #[.int .u64 a.hi, .int .u64 a.lo, .int .u64 a.w]), (14, .int .u64 s)]) (fun γ353 => [bx (γ353 0) (#[.int .u64 a.hi, .int .u64 a.lo, .int .u64 a.w, .int .u64 t.hi, .int .u64 t.lo, .int .u64 t.w]) 33, bx (γ1 1) (#[.int .u64 t.hi, .int .u64 t.lo, .int .u64 t.w]) 33, bx (γ1 0) (#[.int .u64 a.hi, .int .u64 a.lo, .int .u64 a.w]) 33]) ?_ (fun hmx3 => ?_)
    ·
     rintro γ353 _
     refine a1 6 rfl ?_
     refine qo0 1 [(6, .go (owns 1 0 3))] [11, 12, 14] [(13, .agg #[.int .u64 t.hi, .int .u64 t.lo, .int .u64 t.w])] ?_
     refine od_ ?_
     exact wk (hmx5 γ353 trivial) [11, 12, 13, 14] [[_], [_], [_]] [0, 1, 2] rfl rfl
    refine any_cutX (V := (Nat → Nat)) (fun γ353 => True) 7 #[true, true, true, true, true, false, false, true, false, false, false, false, false] (fun γ353 => [(3, .pointer (some ⟨γ1 0, 0, none⟩)), (4, .pointer (some ⟨γ1 1, 0, none⟩)), (11, .bool true), (14, .int .u64 s)]) (fun γ353 => [bx (γ353 0) (#[.int .u64 a.hi, .int .u64 a.lo, .int .u64 a.w, .int .u64 t.hi, .int .u64 t.lo, .int .u64 t.w]) 33, bx (γ1 1) (#[.int .u64 t.hi, .int .u64 t.lo, .int .u64 t.w]) 33, bx (γ1 0) (#[.int .u64 a.hi, .int .u64 a.lo, .int .u64 a.w]) 33]) ?_ (fun hmx2 => ?_)
    ·
     rintro γ353 _
     refine any_fork [5, 6] (by kernel_rfl) (by simp) (each_cons _ rfl ?_ (each_cons _ rfl ?_ (each_nil)))
     ·
      refine qo0 1 [(5, .go (owns 2 0 3))] [4, 11, 14] [(12, .agg #[.int .u64 a.hi, .int .u64 a.lo, .int .u64 a.w])] ?_
      refine od_ ?_
      exact wk (hmx3 γ353 trivial) [4, 11, 12, 14] [[_], [_], [_]] [0, 1, 2] rfl rfl
     ·
      refine qo0 1 [(6, .go (owns 1 0 3))] [3, 11, 14] [(13, .agg #[.int .u64 t.hi, .int .u64 t.lo, .int .u64 t.w])] ?_
      refine od_ ?_
      exact wk (hmx4 γ353 trivial) [3, 11, 13, 14] [[_], [_], [_]] [0, 1, 2] rfl rfl
    refine any_cutX (V := (Nat → Nat)) (fun γ353 => True) 10 #[true, true, true, false, false, false, false, false, false, false, false, false, false] (fun γ353 => [(2, .int .u64 s), (3, .pointer (some ⟨γ1 0, 0, none⟩)), (4, .pointer (some ⟨γ1 1, 0, none⟩)), (9, .slice (some ⟨γ353 0, 0, none⟩) 2 2)]) (fun γ353 => [bx (γ353 0) (#[.int .u64 a.hi, .int .u64 a.lo, .int .u64 a.w, .int .u64 t.hi, .int .u64 t.lo, .int .u64 t.w]) 33, bx (γ1 1) (#[.int .u64 t.hi, .int .u64 t.lo, .int .u64 t.w]) 33, bx (γ1 0) (#[.int .u64 a.hi, .int .u64 a.lo, .int .u64 a.w]) 33]) ?_ (fun hmx1 => ?_)
    ·
     rintro γ353 _
     refine a1 3 rfl ?_
     refine cD (.bool true) Try.call39 (fun w hw => by have := right_t (some ⟨γ353 0, 0, none⟩) 2 2 [a, t] w (sv_row (hw.row 0 rfl) rfl) rfl (by decide); rw [all2, q2] at this; exact this) ?_
     refine od_ ?_
     refine tk (m := 7) [4, 7] [] [3, 4] [(11, .bool true), (14, .int .u64 s)] ([]) #[true, true, true, true, true, false, false, true, false, false, false, false, false] al0 ?_
     exact wk (hmx2 γ353 trivial) [3, 4, 11, 14] [[_], [_], [_]] [0, 1, 2] rfl rfl
    refine a1 2 rfl ?_
    refine mo0 1 [] [2, 3, 4] (fun γ353 => [(9, .slice (some ⟨γ353 0, 0, none⟩) 2 2)]) (fun γ353 L => bx (γ353 0) (#[.int .u64 a.hi, .int .u64 a.lo, .int .u64 a.w, .int .u64 t.hi, .int .u64 t.lo, .int .u64 t.w]) 33 :: L) (fun γ353 => ?_)
    refine od_ ?_
    exact wk (hmx1 γ353 trivial) [2, 3, 4, 9] [[_], [_], [_]] [0, 1, 2] rfl rfl
   rintro γ353 _
   refine any_nil (by kernel_rfl) ?_
   refine ds_ (rt ([]) (.bool true) ?_)
   exact fun w' hw => ⟨by rw [beh_yes q2, decide_eq_true (by omega)], hw.below⟩
  ·
   refine at_calmTo (f := 11) 2 rfl (by kernel_rfl) (by kernel_rfl) (by kernel_rfl) (by kernel_rfl) (by kernel_rfl) (by kernel_rfl) ?_
   refine cm 2 [(0, .go (owns 1 0 3)), (1, .go (owns 0 0 3))] [2, 3, 4] [(7, .agg #[.int .u64 a.hi, .int .u64 a.lo, .int .u64 a.w]), (8, .agg #[.int .u64 t.hi, .int .u64 t.lo, .int .u64 t.w])] ([]) (by kernel_rfl) rfl al0 ?_
   refine calm_nil' ?_
   refine done_pre (li' := #[true, true, false, false, false, false, false, false, false, false, false, false, false]) (by kernel_rfl) ?_
   refine any_cutX (V := (Nat → Nat)) (fun γ659 => True) 0 #[true, true, true, true, true, true, true, true, true, true, true, true, true] (fun γ659 => [(6, .bool false)]) (fun γ659 => [bx (γ659 0) (#[.int .u64 a.hi, .int .u64 a.lo, .int .u64 a.w, .int .u64 t.hi, .int .u64 t.lo, .int .u64 t.w]) 33, bx (γ1 1) (#[.int .u64 t.hi, .int .u64 t.lo, .int .u64 t.w]) 33, bx (γ1 0) (#[.int .u64 a.hi, .int .u64 a.lo, .int .u64 a.w]) 33]) ?_ (fun hmx8 => ?_)
   rotate_left
   ·
    refine any_cutX (V := (Nat → Nat)) (fun γ659 => True) 4 #[true, true, true, true, true, true, true, true, true, false, false, false, false] (fun γ659 => [(11, .bool true), (12, .agg #[.int .u64 a.hi, .int .u64 a.lo, .int .u64 a.w]), (15, .agg #[.int .u64 ((floorV t s).hi), .int .u64 ((floorV t s).lo), .int .u64 ((floorV t s).w)])]) (fun γ659 => [bx (γ659 0) (#[.int .u64 a.hi, .int .u64 a.lo, .int .u64 a.w, .int .u64 t.hi, .int .u64 t.lo, .int .u64 t.w]) 33, bx (γ1 1) (#[.int .u64 t.hi, .int .u64 t.lo, .int .u64 t.w]) 33, bx (γ1 0) (#[.int .u64 a.hi, .int .u64 a.lo, .int .u64 a.w]) 33]) ?_ (fun hmx7 => ?_)
    ·
     rintro γ659 _
     refine a1 9 rfl ?_
     refine cD (.int .i64 (cmpF a (floorV t s))) Try.call13 (fun w hw => fcmp_t a (floorV t s) w hU (floor_U hV (and_r q2) hs0)) ?_
     refine od_ ?_
     refine tk (m := 0) [10, 11, 12] [(10, .no)] [] [(6, .bool false)] ([¬ (((cmpF a (floorV t s)) : Int) < (0 : Int))]) #[true, true, true, true, true, true, true, true, true, true, true, true, true] (al1 q309) ?_
     exact wk (hmx8 γ659 trivial) [6] [[_], [_], [_]] [0, 1, 2] rfl rfl
    refine any_cutX (V := (Nat → Nat)) (fun γ659 => True) 5 #[true, true, true, true, true, false, true, true, true, false, false, false, false] (fun γ659 => [(3, .pointer (some ⟨γ1 0, 0, none⟩)), (11, .bool true), (15, .agg #[.int .u64 ((floorV t s).hi), .int .u64 ((floorV t s).lo), .int .u64 ((floorV t s).w)])]) (fun γ659 => [bx (γ659 0) (#[.int .u64 a.hi, .int .u64 a.lo, .int .u64 a.w, .int .u64 t.hi, .int .u64 t.lo, .int .u64 t.w]) 33, bx (γ1 1) (#[.int .u64 t.hi, .int .u64 t.lo, .int .u64 t.w]) 33, bx (γ1 0) (#[.int .u64 a.hi, .int .u64 a.lo, .int .u64 a.w]) 33]) ?_ (fun hmx6 => ?_)
    ·
     rintro γ659 _
     refine a1 5 rfl ?_
     refine qo0 1 [(5, .go (owns 2 0 3))] [11, 15] [(12, .agg #[.int .u64 a.hi, .int .u64 a.lo, .int .u64 a.w])] ?_
     refine od_ ?_
     exact wk (hmx7 γ659 trivial) [11, 12, 15] [[_], [_], [_]] [0, 1, 2] rfl rfl
    refine any_cutX (V := (Nat → Nat)) (fun γ659 => True) 5 #[true, true, true, true, true, true, true, true, false, false, false, false, false] (fun γ659 => [(11, .bool true), (12, .agg #[.int .u64 a.hi, .int .u64 a.lo, .int .u64 a.w]), (13, .agg #[.int .u64 t.hi, .int .u64 t.lo, .int .u64 t.w]), (14, .int .u64 s)]) (fun γ659 => [bx (γ659 0) (#[.int .u64 a.hi, .int .u64 a.lo, .int .u64 a.w, .int .u64 t.hi, .int .u64 t.lo, .int .u64 t.w]) 33, bx (γ1 1) (#[.int .u64 t.hi, .int .u64 t.lo, .int .u64 t.w]) 33, bx (γ1 0) (#[.int .u64 a.hi, .int .u64 a.lo, .int .u64 a.w]) 33]) ?_ (fun hmx5 => ?_)
    ·
     rintro γ659 _
     refine a1 8 rfl ?_
     refine cD (.agg #[.int .u64 ((floorV t s).hi), .int .u64 ((floorV t s).lo), .int .u64 ((floorV t s).w)]) Try.call65 (fun w hw => floor_t t s w hV hs0 hs1) ?_
     refine od_ ?_
     exact wk (hmx7 γ659 trivial) [11, 12, 15] [[_], [_], [_]] [0, 1, 2] rfl rfl
    refine any_cutX (V := (Nat → Nat)) (fun γ659 => True) 6 #[true, true, true, true, true, false, true, true, false, false, false, false, false] (fun γ659 => [(3, .pointer (some ⟨γ1 0, 0, none⟩)), (11, .bool true), (13, .agg #[.int .u64 t.hi, .int .u64 t.lo, .int .u64 t.w]), (14, .int .u64 s)]) (fun γ659 => [bx (γ659 0) (#[.int .u64 a.hi, .int .u64 a.lo, .int .u64 a.w, .int .u64 t.hi, .int .u64 t.lo, .int .u64 t.w]) 33, bx (γ1 1) (#[.int .u64 t.hi, .int .u64 t.lo, .int .u64 t.w]) 33, bx (γ1 0) (#[.int .u64 a.hi, .int .u64 a.lo, .int .u64 a.w]) 33]) ?_ (fun hmx4 => ?_)
    ·
     rintro γ659 _
     refine any_fork [5, 8] (by kernel_rfl) (by simp) (each_cons _ rfl ?_ (each_cons _ rfl ?_ (each_nil)))
     ·
      refine qo0 1 [(5, .go (owns 2 0 3))] [11, 13, 14] [(12, .agg #[.int .u64 a.hi, .int .u64 a.lo, .int .u64 a.w])] ?_
      refine od_ ?_
      exact wk (hmx5 γ659 trivial) [11, 12, 13, 14] [[_], [_], [_]] [0, 1, 2] rfl rfl
     ·
      refine cD (.agg #[.int .u64 ((floorV t s).hi), .int .u64 ((floorV t s).lo), .int .u64 ((floorV t s).w)]) Try.call65 (fun w hw => floor_t t s w hV hs0 hs1) ?_
      refine od_ ?_
      exact wk (hmx6 γ659 trivial) [3, 11, 15] [[_], [_], [_]] [0, 1, 2] rfl rfl
    refine any_cutX (V := (Nat → Nat)) (fun γ659 => True) 6 #[true, true, true, true, true, true, false, true, false, false, false, false, false] (fun γ659 => [(4, .pointer (some ⟨γ1 1, 0, none⟩)), (11, .bool true), (12, .agg #[.int .u64 a.hi, .int .u64 a.lo, .int .u64 a.w]), (14, .int .u64 s)]) (fun γ659 => [bx (γ659 0) (#[.int .u64 a.hi, .int .u64 a.lo, .int .u64 a.w, .int .u64 t.hi, .int .u64 t.lo, .int .u64 t.w]) 33, bx (γ1 1) (#[.int .u64 t.hi, .int .u64 t.lo, .int .u64 t.w]) 33, bx (γ1 0) (#[.int .u64 a.hi, .int .u64 a.lo, .int .u64 a.w]) 33]) ?_ (fun hmx3 => ?_)
    ·
     rintro γ659 _
     refine a1 6 rfl ?_
     refine qo0 1 [(6, .go (owns 1 0 3))] [11, 12, 14] [(13, .agg #[.int .u64 t.hi, .int .u64 t.lo, .int .u64 t.w])] ?_
     refine od_ ?_
     exact wk (hmx5 γ659 trivial) [11, 12, 13, 14] [[_], [_], [_]] [0, 1, 2] rfl rfl
    refine any_cutX (V := (Nat → Nat)) (fun γ659 => True) 7 #[true, true, true, true, true, false, false, true, false, false, false, false, false] (fun γ659 => [(3, .pointer (some ⟨γ1 0, 0, none⟩)), (4, .pointer (some ⟨γ1 1, 0, none⟩)), (11, .bool true), (14, .int .u64 s)]) (fun γ659 => [bx (γ659 0) (#[.int .u64 a.hi, .int .u64 a.lo, .int .u64 a.w, .int .u64 t.hi, .int .u64 t.lo, .int .u64 t.w]) 33, bx (γ1 1) (#[.int .u64 t.hi, .int .u64 t.lo, .int .u64 t.w]) 33, bx (γ1 0) (#[.int .u64 a.hi, .int .u64 a.lo, .int .u64 a.w]) 33]) ?_ (fun hmx2 => ?_)
    ·
     rintro γ659 _
     refine any_fork [5, 6] (by kernel_rfl) (by simp) (each_cons _ rfl ?_ (each_cons _ rfl ?_ (each_nil)))
     ·
      refine qo0 1 [(5, .go (owns 2 0 3))] [4, 11, 14] [(12, .agg #[.int .u64 a.hi, .int .u64 a.lo, .int .u64 a.w])] ?_
      refine od_ ?_
      exact wk (hmx3 γ659 trivial) [4, 11, 12, 14] [[_], [_], [_]] [0, 1, 2] rfl rfl
     ·
      refine qo0 1 [(6, .go (owns 1 0 3))] [3, 11, 14] [(13, .agg #[.int .u64 t.hi, .int .u64 t.lo, .int .u64 t.w])] ?_
      refine od_ ?_
      exact wk (hmx4 γ659 trivial) [3, 11, 13, 14] [[_], [_], [_]] [0, 1, 2] rfl rfl
    refine any_cutX (V := (Nat → Nat)) (fun γ659 => True) 10 #[true, true, true, false, false, false, false, false, false, false, false, false, false] (fun γ659 => [(2, .int .u64 s), (3, .pointer (some ⟨γ1 0, 0, none⟩)), (4, .pointer (some ⟨γ1 1, 0, none⟩)), (9, .slice (some ⟨γ659 0, 0, none⟩) 2 2)]) (fun γ659 => [bx (γ659 0) (#[.int .u64 a.hi, .int .u64 a.lo, .int .u64 a.w, .int .u64 t.hi, .int .u64 t.lo, .int .u64 t.w]) 33, bx (γ1 1) (#[.int .u64 t.hi, .int .u64 t.lo, .int .u64 t.w]) 33, bx (γ1 0) (#[.int .u64 a.hi, .int .u64 a.lo, .int .u64 a.w]) 33]) ?_ (fun hmx1 => ?_)
    ·
     rintro γ659 _
     refine a1 3 rfl ?_
     refine cD (.bool true) Try.call39 (fun w hw => by have := right_t (some ⟨γ659 0, 0, none⟩) 2 2 [a, t] w (sv_row (hw.row 0 rfl) rfl) rfl (by decide); rw [all2, q2] at this; exact this) ?_
     refine od_ ?_
     refine tk (m := 7) [4, 7] [] [3, 4] [(11, .bool true), (14, .int .u64 s)] ([]) #[true, true, true, true, true, false, false, true, false, false, false, false, false] al0 ?_
     exact wk (hmx2 γ659 trivial) [3, 4, 11, 14] [[_], [_], [_]] [0, 1, 2] rfl rfl
    refine a1 2 rfl ?_
    refine mo0 1 [] [2, 3, 4] (fun γ659 => [(9, .slice (some ⟨γ659 0, 0, none⟩) 2 2)]) (fun γ659 L => bx (γ659 0) (#[.int .u64 a.hi, .int .u64 a.lo, .int .u64 a.w, .int .u64 t.hi, .int .u64 t.lo, .int .u64 t.w]) 33 :: L) (fun γ659 => ?_)
    refine od_ ?_
    exact wk (hmx1 γ659 trivial) [2, 3, 4, 9] [[_], [_], [_]] [0, 1, 2] rfl rfl
   rintro γ659 _
   refine any_nil (by kernel_rfl) ?_
   refine ds_ (rt ([]) (.bool false) ?_)
   exact fun w' hw => ⟨by rw [beh_yes q2, decide_eq_false (by omega)], hw.below⟩

set_option maxRecDepth 100000 in
theorem fraise_t (a t : Fq) (s : Int) (w : World)
 (hU : a.U) (hV : t.U) (hs0 : 0 ≤ s) (hs1 : s < 18446744073709551616)
 : Calls Try.prog 64 #[.agg #[.int .u64 a.hi, .int .u64 a.lo, .int .u64 a.w], .agg #[.int .u64 t.hi, .int .u64 t.lo, .int .u64 t.w], .int .u64 s] w fun e w' => e = .returned (.tuple #[.agg #[.int .u64 (raiseV a t s).1.hi, .int .u64 (raiseV a t s).1.lo, .int .u64 (raiseV a t s).1.w], .int .i64 (raiseV a t s).2]) ∧ Below w.heap.size w w' := by
 refine enter (Hs.start w) Try.func64 rfl Try.ntmps64 rfl (sq_ (ma0 [] [2] (fun γ1 => [(3, .pointer (some ⟨γ1 0, 0, none⟩)), (4, .pointer (some ⟨γ1 1, 0, none⟩)), (6, .pointer (some ⟨γ1 2, 0, none⟩))]) (fun γ1 L => bx (γ1 2) (#[.int .u64 0, .int .u64 0, .int .u64 0]) 33 :: bx (γ1 1) (#[.int .u64 t.hi, .int .u64 t.lo, .int .u64 t.w]) 33 :: bx (γ1 0) (#[.int .u64 a.hi, .int .u64 a.lo, .int .u64 a.w]) 33 :: L) (fun γ1 => ds_ (sq_ (at_block (sq_ (ao_ (mo0 3 [(0, .go (owns 2 0 3)), (1, .go (owns 1 0 3))] [2, 3, 4, 6] (fun γ2 => [(11, .slice (some ⟨γ2 0, 0, none⟩) 2 2)]) (fun γ2 L => bx (γ2 0) (#[.int .u64 a.hi, .int .u64 a.lo, .int .u64 a.w, .int .u64 t.hi, .int .u64 t.lo, .int .u64 t.w]) 33 :: L) (fun γ2 => ?_)))))))))
 rcases q3 : (a.ok && t.ok) with _ | _
 ·
  refine cD (.bool false) Try.call39 (fun w hw => by have := right_t (some ⟨γ2 0, 0, none⟩) 2 2 [a, t] w (sv_row (hw.row 0 rfl) rfl) rfl (by decide); rw [all2, q3] at this; exact this) (qo0 2 [] [2, 3, 4, 6] [(8, .bool true)] (on_ (ds_ (t_ (sq_ (qa0 [(1, .go (owns 1 0 3))] [6] [(7, .int .i64 150)] (ds_ (rt (owns 1 0 3) (.tuple #[.agg #[.int .u64 0, .int .u64 0, .int .u64 0], .int .i64 150]) ?_))))))))
  exact fun w' hw => ⟨by rw [raise_no q3], hw.below⟩
 ·
  refine cD (.bool true) Try.call39 (fun w hw => by have := right_t (some ⟨γ2 0, 0, none⟩) 2 2 [a, t] w (sv_row (hw.row 0 rfl) rfl) rfl (by decide); rw [all2, q3] at this; exact this) (qo0 2 [] [2, 3, 4, 6] [(8, .bool false)] (on_ (ds_ (f_ (sq_ (ao_ (qo0 3 [(0, .go (owns 3 0 3)), (1, .go (owns 2 0 3))] [2, 3, 4, 6] [(16, .agg #[.int .u64 a.hi, .int .u64 a.lo, .int .u64 a.w]), (17, .agg #[.int .u64 t.hi, .int .u64 t.lo, .int .u64 t.w]), (18, .int .u64 s)] ?_)))))))
  rcases q8 : behV a t s with _ | _
  ·
   refine cD (.bool false) Try.call30 (fun w hw => by have := fbeh_t a t s w hU hV hs0 hs1; rw [q8] at this; exact this) (qo0 2 [] [2, 3, 4, 6] [(15, .bool true)] (on_ (ds_ (t_ (sq_ (ma0 [(0, .go (owns 3 0 3)), (1, .go (owns 1 0 3))] [6] (fun _ => [(7, .int .i64 0)]) (fun _ L => (L.set 1 (bx (γ1 2) (#[.int .u64 a.hi, .int .u64 a.lo, .int .u64 a.w]) 33))) (fun _ => ds_ (rt (owns 1 0 3) (.tuple #[.agg #[.int .u64 a.hi, .int .u64 a.lo, .int .u64 a.w], .int .i64 0]) ?_))))))))
   exact fun w' hw => ⟨by rw [raise_same q3 q8], hw.below⟩
  ·
   refine cD (.bool true) Try.call30 (fun w hw => by have := fbeh_t a t s w hU hV hs0 hs1; rw [q8] at this; exact this) (qo0 2 [] [2, 3, 4, 6] [(15, .bool false)] (on_ (ds_ (f_ (at_skip (done_block (ds_ (sq_ (at_calmTo (f := 2) 8 rfl (by kernel_rfl) (by kernel_rfl) (by kernel_rfl) (by kernel_rfl) (by kernel_rfl) (by kernel_rfl) ?_)))))))))
   refine cm 2 [(0, .go (owns 2 0 3))] [3, 6] [(22, .agg #[.int .u64 t.hi, .int .u64 t.lo, .int .u64 t.w]), (23, .int .u64 s)] ([]) (by kernel_rfl) rfl al0 ?_
   refine cK (.agg #[.int .u64 ((floorV t s).hi), .int .u64 ((floorV t s).lo), .int .u64 ((floorV t s).w)]) Try.call65 (fun w hw => floor_t t s w hV hs0 hs1) ?_
   refine cm 2 [(4, .go (owns 3 2 1))] [6, 24] [(26, .int .u64 a.w)] ([]) (by kernel_rfl) rfl al0 ?_
   refine cK (.tuple #[.agg #[.int .u64 ((overV (floorV t s) a.w).1.hi), .int .u64 ((overV (floorV t s) a.w).1.lo), .int .u64 ((overV (floorV t s) a.w).1.w)], .int .i64 ((overV (floorV t s) a.w).2)]) Try.call38 (fun w hw => fover_t (floorV t s) a.w w (floor_U hV (and_r q3) hs0)) ?_
   refine cm 2 [] [6] [(28, .agg #[.int .u64 ((overV (floorV t s) a.w).1.hi), .int .u64 ((overV (floorV t s) a.w).1.lo), .int .u64 ((overV (floorV t s) a.w).1.w)]), (29, .int .i64 ((overV (floorV t s) a.w).2))] ([]) (by kernel_rfl) rfl al0 ?_
   refine calm_nil' ?_
   refine done_pre (li' := #[true, true, true, true, true, true, true, true, false, false]) (by kernel_rfl) ?_
   refine any_cutX (V := Unit) (fun _ => True) 0 #[true, true, true, true, true, true, true, true, true, true] (fun _ => [(6, .pointer (some ⟨γ1 2, 0, none⟩)), (7, .int .i64 ((overV (floorV t s) a.w).2))]) (fun _ => [bx (γ2 0) (#[.int .u64 a.hi, .int .u64 a.lo, .int .u64 a.w, .int .u64 t.hi, .int .u64 t.lo, .int .u64 t.w]) 33, bx (γ1 2) (#[.int .u64 ((overV (floorV t s) a.w).1.hi), .int .u64 ((overV (floorV t s) a.w).1.lo), .int .u64 ((overV (floorV t s) a.w).1.w)]) 33, bx (γ1 1) (#[.int .u64 t.hi, .int .u64 t.lo, .int .u64 t.w]) 33, bx (γ1 0) (#[.int .u64 a.hi, .int .u64 a.lo, .int .u64 a.w]) 33]) ?_ (fun hmx1 => ?_)
   rotate_left
   ·
    refine a1 8 rfl ?_
    refine mo0 1 [(8, .go (owns 1 0 3))] [6, 29] (fun _ => []) (fun _ L => (L.set 1 (bx (γ1 2) (#[.int .u64 ((overV (floorV t s) a.w).1.hi), .int .u64 ((overV (floorV t s) a.w).1.lo), .int .u64 ((overV (floorV t s) a.w).1.w)]) 33))) (fun _ => ?_)
    refine od_ ?_
    refine tk (m := 0) [9] [] [6] [(7, .int .i64 ((overV (floorV t s) a.w).2))] ([]) #[true, true, true, true, true, true, true, true, true, true] al0 ?_
    exact wk (hmx1 () trivial) [6, 7] [[_], [_], [_], [_]] [0, 1, 2, 3] rfl rfl
   rintro _ _
   refine any_nil (by kernel_rfl) ?_
   refine ds_ (rt (owns 1 0 3) (.tuple #[.agg #[.int .u64 ((overV (floorV t s) a.w).1.hi), .int .u64 ((overV (floorV t s) a.w).1.lo), .int .u64 ((overV (floorV t s) a.w).1.w)], .int .i64 ((overV (floorV t s) a.w).2)]) ?_)
   exact fun w' hw => ⟨by rw [raise_up q3 q8], hw.below⟩
end Go.Proofs.Ytnhkecfapohlgaa

/-! Queues: which may be; which are one. -/
namespace Go.Proofs.Ytnhkecfapohlgaa
open Go Go.RowKit
section
variable {P : Program} {ρ : Operand → Value} {T U : TypeId} {x y : Operand} {a b : Int} {o : Oper}
theorem run_subW (v : Int) (ho : o.op = .binOp .sub T x y U) (hx : ρ x = .int .i64 a) (hy : ρ y = .int .i64 b) (hv : subW a b = v) (w : World) : (execOp ρ o).run P w = .ok (.value (.int .i64 v)) w := by
 have g : (eqGuard .sub T x y (.int .i64 a) (.int .i64 b)) = (pure () : Sem Unit) := by unfold eqGuard; simp
 unfold execOp
 simp only [ho, hx, hy, g]
 subst hv
 simp [binOp, Op.intArith, subW]
end
theorem rn_eqRun (op : BinOp) (hop : op = .eql ∨ op = .neq) (x y : Operand) (a b : Rn) (r : Bool) (hr : r = (if op = .eql then decide (a = b) else !decide (a = b))) : EqRun Try.prog op 35 x y (.agg #[.int .i64 a.id, .int .i64 a.each, .int .u64 a.th, .int .u64 a.tl, .int .u64 a.tw]) (.agg #[.int .i64 b.id, .int .i64 b.each, .int .u64 b.th, .int .u64 b.tl, .int .u64 b.tw]) r := by
 intro w
 subst hr
 have hS : Try.prog.underlying 35 = some (.struct (Try.prog.fieldsOf 35)) := by kernel_rfl
 have hp : Try.prog.stoodInHeld 35 = false := by kernel_rfl
 have hg : Try.prog.eqGuardType Try.prog.depth 35 = false := by kernel_rfl
 have key : (Op.equal 35 (.agg #[.int .i64 a.id, .int .i64 a.each, .int .u64 a.th, .int .u64 a.tl, .int .u64 a.tw]) (.agg #[.int .i64 b.id, .int .i64 b.each, .int .u64 b.th, .int .u64 b.tl, .int .u64 b.tw])).run Try.prog w = .ok (decide (a = b)) w := by
  unfold Op.equal
  rw [show Op.maxDepth = 9999 + 1 from rfl, run_equalIn_struct w 9999 35 _ _ hS hp]
  simp only [Program.fieldsOf, Try.underlying35]
  go_simp
  obtain ⟨a0, a1, a2, a3, a4⟩ := a
  obtain ⟨b0, b1, b2, b3, b4⟩ := b
  simp only [Rn.mk.injEq]
  by_cases h0 : a0 = b0 <;> by_cases h1 : a1 = b1 <;> by_cases h2 : a2 = b2 <;> by_cases h3 : a3 = b3 <;> by_cases h4 : a4 = b4 <;> simp [h0, h1, h2, h3, h4]
 have guard : (eqGuard op 35 x y (.agg #[.int .i64 a.id, .int .i64 a.each, .int .u64 a.th, .int .u64 a.tl, .int .u64 a.tw]) (.agg #[.int .i64 b.id, .int .i64 b.each, .int .u64 b.th, .int .u64 b.tl, .int .u64 b.tw])).run Try.prog w = .ok () w := by
  unfold eqGuard
  rcases hop with rfl | rfl <;> simp [hg]
 rw [Sem.run_bind, guard]
 simp only [Result.andThen_ok]
 rcases hop with rfl | rfl <;> simp [binOp, Sem.run_bind, key]
theorem rn_ne_t {x y : Operand} {a b : Rn} (h : a = b) : EqRun Try.prog .neq 35 x y (.agg #[.int .i64 a.id, .int .i64 a.each, .int .u64 a.th, .int .u64 a.tl, .int .u64 a.tw]) (.agg #[.int .i64 b.id, .int .i64 b.each, .int .u64 b.th, .int .u64 b.tl, .int .u64 b.tw]) false := rn_eqRun _ (.inr rfl) x y a b _ (by simp [h])
theorem rn_ne_f {x y : Operand} {a b : Rn} (h : ¬ a = b) : EqRun Try.prog .neq 35 x y (.agg #[.int .i64 a.id, .int .i64 a.each, .int .u64 a.th, .int .u64 a.tl, .int .u64 a.tw]) (.agg #[.int .i64 b.id, .int .i64 b.each, .int .u64 b.th, .int .u64 b.tl, .int .u64 b.tw]) true := rn_eqRun _ (.inr rfl) x y a b _ (by simp [h])
theorem fq_eqRun (op : BinOp) (hop : op = .eql ∨ op = .neq) (x y : Operand) (a b : Fq) (r : Bool) (hr : r = (if op = .eql then decide (a = b) else !decide (a = b))) : EqRun Try.prog op 33 x y (.agg #[.int .u64 a.hi, .int .u64 a.lo, .int .u64 a.w]) (.agg #[.int .u64 b.hi, .int .u64 b.lo, .int .u64 b.w]) r := by
 intro w
 subst hr
 have hS : Try.prog.underlying 33 = some (.struct (Try.prog.fieldsOf 33)) := by kernel_rfl
 have hp : Try.prog.stoodInHeld 33 = false := by kernel_rfl
 have hg : Try.prog.eqGuardType Try.prog.depth 33 = false := by kernel_rfl
 have key : (Op.equal 33 (.agg #[.int .u64 a.hi, .int .u64 a.lo, .int .u64 a.w]) (.agg #[.int .u64 b.hi, .int .u64 b.lo, .int .u64 b.w])).run Try.prog w = .ok (decide (a = b)) w := by
  unfold Op.equal
  rw [show Op.maxDepth = 9999 + 1 from rfl, run_equalIn_struct w 9999 33 _ _ hS hp]
  simp only [Program.fieldsOf, Try.underlying33]
  go_simp
  obtain ⟨a0, a1, a2⟩ := a
  obtain ⟨b0, b1, b2⟩ := b
  simp only [Fq.mk.injEq]
  by_cases h0 : a0 = b0 <;> by_cases h1 : a1 = b1 <;> by_cases h2 : a2 = b2 <;> simp [h0, h1, h2]
 have guard : (eqGuard op 33 x y (.agg #[.int .u64 a.hi, .int .u64 a.lo, .int .u64 a.w]) (.agg #[.int .u64 b.hi, .int .u64 b.lo, .int .u64 b.w])).run Try.prog w = .ok () w := by
  unfold eqGuard
  rcases hop with rfl | rfl <;> simp [hg]
 rw [Sem.run_bind, guard]
 simp only [Result.andThen_ok]
 rcases hop with rfl | rfl <;> simp [binOp, Sem.run_bind, key]
theorem fq_eq_t {x y : Operand} {a b : Fq} (h : a = b) : EqRun Try.prog .eql 33 x y (.agg #[.int .u64 a.hi, .int .u64 a.lo, .int .u64 a.w]) (.agg #[.int .u64 b.hi, .int .u64 b.lo, .int .u64 b.w]) true := fq_eqRun _ (.inl rfl) x y a b _ (by simp [h])
theorem fq_ne_t {x y : Operand} {a b : Fq} (h : a = b) : EqRun Try.prog .neq 33 x y (.agg #[.int .u64 a.hi, .int .u64 a.lo, .int .u64 a.w]) (.agg #[.int .u64 b.hi, .int .u64 b.lo, .int .u64 b.w]) false := fq_eqRun _ (.inr rfl) x y a b _ (by simp [h])
set_option maxRecDepth 100000 in
theorem id_t (k : Int) (w : World)
 : Calls Try.prog 52 #[.int .i64 k] w fun e w' => e = .returned (.bool (idV k)) ∧ Below w.heap.size w w' := by
 refine enter (Hs.start w) Try.func52 rfl Try.ntmps52 rfl (sq_ (qa0 [] [0] [] (ds_ (sq_ ?_))))
 by_cases q3 : (k : Int) ≥ (1 : Int)
 ·
  by_cases q5 : (k : Int) ≤ (16 : Int)
  ·
   refine qa [(1, .yes), (4, .yes)] [] [(2, .bool true)] ([(k : Int) ≥ (1 : Int)] ++ ([(k : Int) ≤ (16 : Int)])) (alA (al1 q3) (al1 q5)) (ds_ (rt ([]) (.bool true) ?_))
   exact fun w' hw => ⟨by rw [show idV k = true from by simp only [idV, decide_eq_true_eq]; omega], hw.below⟩
  ·
   refine qa [(1, .yes), (4, .no)] [] [(2, .bool false)] ([(k : Int) ≥ (1 : Int)] ++ ([¬ ((k : Int) ≤ (16 : Int))])) (alA (al1 q3) (al1 q5)) (ds_ (rt ([]) (.bool false) ?_))
   exact fun w' hw => ⟨by rw [show idV k = false from by simp only [idV, decide_eq_false_iff_not]; omega], hw.below⟩
 ·
  refine qa [(1, .no)] [] [(2, .bool false)] ([¬ ((k : Int) ≥ (1 : Int))]) (al1 q3) (ds_ (rt ([]) (.bool false) ?_))
  exact fun w' hw => ⟨by rw [show idV k = false from by simp only [idV, decide_eq_false_iff_not]; omega], hw.below⟩

set_option maxRecDepth 100000 in
theorem each_t (k : Int) (w : World)
 : Calls Try.prog 35 #[.int .i64 k] w fun e w' => e = .returned (.bool (eachV k)) ∧ Below w.heap.size w w' := by
 refine enter (Hs.start w) Try.func35 rfl Try.ntmps35 rfl (sq_ (qa0 [] [0] [] (ds_ (sq_ ?_))))
 by_cases q3 : (k : Int) ≥ (1 : Int)
 ·
  by_cases q5 : (k : Int) ≤ (8 : Int)
  ·
   refine qa [(1, .yes), (4, .yes)] [] [(2, .bool true)] ([(k : Int) ≥ (1 : Int)] ++ ([(k : Int) ≤ (8 : Int)])) (alA (al1 q3) (al1 q5)) (ds_ (rt ([]) (.bool true) ?_))
   exact fun w' hw => ⟨by rw [show eachV k = true from by simp only [eachV, decide_eq_true_eq]; omega], hw.below⟩
  ·
   refine qa [(1, .yes), (4, .no)] [] [(2, .bool false)] ([(k : Int) ≥ (1 : Int)] ++ ([¬ ((k : Int) ≤ (8 : Int))])) (alA (al1 q3) (al1 q5)) (ds_ (rt ([]) (.bool false) ?_))
   exact fun w' hw => ⟨by rw [show eachV k = false from by simp only [eachV, decide_eq_false_iff_not]; omega], hw.below⟩
 ·
  refine qa [(1, .no)] [] [(2, .bool false)] ([¬ ((k : Int) ≥ (1 : Int))]) (al1 q3) (ds_ (rt ([]) (.bool false) ?_))
  exact fun w' hw => ⟨by rw [show eachV k = false from by simp only [eachV, decide_eq_false_iff_not]; omega], hw.below⟩

set_option maxRecDepth 100000 in
theorem crun_t (r : Rn) (w : World)
 : Calls Try.prog 25 #[.agg #[.int .i64 r.id, .int .i64 r.each, .int .u64 r.th, .int .u64 r.tl, .int .u64 r.tw]] w fun e w' => e = .returned (.int .i64 (if rnB r = true then 0 else 2)) ∧ Below w.heap.size w w' := by
 refine enter (Hs.start w) Try.func25 rfl Try.ntmps25 rfl (sq_ (ma0 [] [] (fun γ1 => [(1, .pointer (some ⟨γ1 0, 0, none⟩))]) (fun γ1 L => bx (γ1 0) (#[.int .i64 r.id, .int .i64 r.each, .int .u64 r.th, .int .u64 r.tl, .int .u64 r.tw]) 35 :: L) (fun γ1 => ds_ (sq_ (sq_ (ao_ (qo0 2 [(1, .go (owns 0 0 1))] [1] [(4, .int .i64 r.id)] ?_)))))))
 rcases q3 : idV r.id with _ | _
 ·
  refine cD (.bool false) Try.call52 (fun w hw => by have := id_t r.id w; rw [q3] at this; exact this) (qo0 13 [] [] [(18, .bool true)] (on_ (ds_ (t_ (sq_ (qa0 [] [] [(2, .int .i64 2)] (ds_ (rt ([]) (.int .i64 2) ?_))))))))
  exact fun w' hw => ⟨by rw [rn_noI q3]; rfl, hw.below⟩
 ·
  refine cD (.bool true) Try.call52 (fun w hw => by have := id_t r.id w; rw [q3] at this; exact this) (qo0 4 [(6, .go (owns 0 1 1))] [1] [(7, .bool false), (9, .int .i64 r.each)] ?_)
  rcases q7 : eachV r.each with _ | _
  ·
   refine cD (.bool false) Try.call35 (fun w hw => by have := each_t r.each w; rw [q7] at this; exact this) (qo0 8 [] [] [(18, .bool true)] (on_ (ds_ (t_ (sq_ (qa0 [] [] [(2, .int .i64 2)] (ds_ (rt ([]) (.int .i64 2) ?_))))))))
   exact fun w' hw => ⟨by rw [rn_noE q7]; rfl, hw.below⟩
  ·
   refine cD (.bool true) Try.call35 (fun w hw => by have := each_t r.each w; rw [q7] at this; exact this) (qo0 5 [(12, .go (owns 0 2 3))] [] [(13, .bool false), (15, .agg #[.int .u64 r.th, .int .u64 r.tl, .int .u64 r.tw])] ?_)
   rcases q11 : r.t.ok with _ | _
   ·
    refine cD (.int .i64 150) Try.call53 (fun w hw => by have := fcheck_t r.t w; rw [q11] at this; exact this) (qo0 2 [] [] [(18, .bool true)] (on_ (ds_ (t_ (sq_ (qa0 [] [] [(2, .int .i64 2)] (ds_ (rt ([]) (.int .i64 2) ?_))))))))
    exact fun w' hw => ⟨by rw [rn_noT q11]; rfl, hw.below⟩
   ·
    refine cD (.int .i64 0) Try.call53 (fun w hw => by have := fcheck_t r.t w; rw [q11] at this; exact this) (qo0 2 [] [] [(18, .bool false)] (on_ (ds_ (f_ (at_skip (ds_ (sq_ (qa0 [] [] [(2, .int .i64 0)] (ds_ (rt ([]) (.int .i64 0) ?_))))))))))
    exact fun w' hw => ⟨by rw [rn_yes q3 q7 q11]; rfl, hw.below⟩

set_option maxRecDepth 100000 in
theorem qcheck_t (p : Option Addr) (n cap : Nat) (ts : List Rn) (w : World)
 (hts : Sv w p ts) (hn : n = ts.length) (hb : n ≤ 1000)
 : Calls Try.prog 20 #[.agg #[.slice p n cap]] w fun e w' => e = .returned (.int .i64 (if chkQ ts = true then 0 else 200)) ∧ Below w.heap.size w w' := by
 refine enter (Hs.start w) Try.func20 rfl Try.ntmps20 rfl (sq_ (ma0 [] [] (fun γ1 => [(1, .pointer (some ⟨γ1 0, 0, none⟩))]) (fun γ1 L => bx (γ1 0) (#[.slice p n cap]) 24 :: L) (fun γ1 => ds_ (sq_ (qa0 [] [1] [(3, .int .i64 0)] (ds_ (sq_ (sq_ (qa0 [(1, .go (owns 0 0 1))] [3] [(7, .slice p n cap), (8, .int .i64 (n : Nat)), (9, .int .i64 0)] (ds_ (at_block (at_loop (α := Nat × Int) [3, 7, 8, 9] (fun ⟨j, la⟩ => [(3, .int .i64 la), (7, .slice p n cap), (8, .int .i64 (n : Nat)), (9, .int .i64 (j : Nat))]) (fun ⟨j, la⟩ => [bx (γ1 0) (#[.slice p n cap]) 24]) (fun ⟨j, la⟩ => j ≤ n ∧ lastI ts j = la ∧ Ris Rn.id (ts.take j) ∧ ∀ y ∈ ts.take j, rnB y = true) (fun ⟨j, la⟩ => n - j) (0, 0) (by kernel_rfl) rfl ⟨Nat.zero_le _, rfl, ris_take0T, all_take0T⟩ ?_))))))))))))
 rintro ⟨j, la⟩
 rintro ⟨hj, hl, hR, hA⟩
 refine sq_ ?_
 by_cases q5 : ((j : Nat) : Int) < ((n : Nat) : Int)
 ·
  refine qa [(0, .yes)] [3, 7, 8, 9] [(10, .bool true)] ([((j : Nat) : Int) < ((n : Nat) : Int)]) (al1 q5) (ds_ (sq_ (t_ (at_skip (ds_ (sq_ (at_block (sq_ ?_))))))))
  obtain ⟨b8, o8, rfl⟩ := hts.pos (i := j) (by omega)
  obtain ⟨x10, hx10⟩ := get_some (l := ts) (m := j) (by omega)
  refine ma [(0, .at b8 o8 j), (1, .go (outs b8 (o8 + j * 5) [.int .i64 x10.id, .int .i64 x10.each, .int .u64 x10.th, .int .u64 x10.tl, .int .u64 x10.tw])), (3, .go (owns 0 0 5))] [3, 7, 8, 9] (fun γ11 => [(5, .pointer (some ⟨γ11 0, 0, none⟩))]) (fun γ11 L => bx (γ11 0) (#[.int .i64 x10.id, .int .i64 x10.each, .int .u64 x10.th, .int .u64 x10.tl, .int .u64 x10.tw]) 35 :: L) (fun γ11 => [(some ⟨b8, o8, none⟩ : Option Addr) = some ⟨b8, o8, none⟩, (j : Nat) = ((j : Nat) : Int), j < n] ++ (cellsP w b8 (o8 + j * 5) [.int .i64 x10.id, .int .i64 x10.each, .int .u64 x10.th, .int .u64 x10.tl, .int .u64 x10.tw])) (fun γ11 => (alA (al2 rfl (al2 rfl (al1 (by omega)))) (rd_pre (hts.get hx10) _ rfl))) (fun γ11 => ds_ (sq_ (sq_ (ao_ (qo0 1 [(0, .go (owns 0 0 5))] [3, 5, 7, 8, 9] [(13, .agg #[.int .i64 x10.id, .int .i64 x10.each, .int .u64 x10.th, .int .u64 x10.tl, .int .u64 x10.tw])] ?_)))))
  rcases q13 : rnB x10 with _ | _
  ·
   refine cD (.int .i64 2) Try.call25 (fun w hw => by have := crun_t x10 w; rw [q13] at this; exact this) (qo0 7 [] [5, 7, 8, 9] [(21, .bool true)] (on_ (ds_ (t_ (sq_ (qa0 [] [] [(2, .int .i64 200)] (ds_ (rt ([]) (.int .i64 200) ?_))))))))
   exact fun w' hw => ⟨by rw [chk_badR hx10 q13]; rfl, hw.below⟩
  ·
   refine cD (.int .i64 0) Try.call25 (fun w hw => by have := crun_t x10 w; rw [q13] at this; exact this) ?_
   by_cases q17 : (x10.id : Int) ≤ (la : Int)
   ·
    refine qo 7 [(5, .go (owns 0 0 1)), (7, .yes)] [5, 7, 8, 9] [(21, .bool true)] ([(x10.id : Int) ≤ (la : Int)]) (al1 q17) (on_ (ds_ (t_ (sq_ (qa0 [] [] [(2, .int .i64 200)] (ds_ (rt ([]) (.int .i64 200) ?_)))))))
    exact fun w' hw => ⟨by rw [chk_badL hx10 hl q13 (by omega)]; rfl, hw.below⟩
   ·
    refine qo 7 [(5, .go (owns 0 0 1)), (7, .no)] [5, 7, 8, 9] [(21, .bool false)] ([¬ ((x10.id : Int) ≤ (la : Int))]) (al1 q17) (on_ (ds_ (f_ (at_skip (ds_ (qa0 [(1, .go (owns 0 0 1))] [7, 8, 9] [(3, .int .i64 x10.id)] (done_block (ds_ (qa [(0, .fit)] [3, 7, 8] [(9, .int .i64 (j + 1 : Nat))] ([Fit .i64 ((j + 1 : Nat))]) (al1 (fit64 (by omega) (by omega))) (Done.drop (L' := [bx (γ1 0) (#[.slice (some ⟨b8, o8, none⟩) n cap]) 24]) ?_ (List.Sublist.cons _ (List.Sublist.cons_cons _ (List.Sublist.refl _)))))))))))))
    exact dr [3, 7, 8, 9] (j + 1, x10.id) ⟨by omega, last_on hx10, ris_onL hR hx10 hl (by omega), all_onT hA hx10 q13⟩
 ·
  refine qa [(0, .no)] [3, 7, 8, 9] [(10, .bool false)] ([¬ (((j : Nat) : Int) < ((n : Nat) : Int))]) (al1 q5) (ds_ (sq_ (f_ (at_leave _ rfl (ds_ (sq_ (qa0 [] [] [(2, .int .i64 0)] (ds_ (rt ([]) (.int .i64 0) ?_)))))))))
  exact fun w' hw => ⟨by rw [chk_good hR hA (by omega)]; rfl, hw.below⟩

set_option maxRecDepth 100000 in
theorem equal_t (p : Option Addr) (n cap : Nat) (ts : List Rn) (p2 : Option Addr) (n2 cap2 : Nat) (ts2 : List Rn) (w : World)
 (hts : Sv w p ts) (hn : n = ts.length) (hb : n ≤ 1000)
 (hts2 : Sv w p2 ts2) (hn2 : n2 = ts2.length) (hb2 : n2 ≤ 1000)
 : Calls Try.prog 46 #[.slice p n cap, .slice p2 n2 cap2] w fun e w' => e = .returned (.bool (decide (ts = ts2))) ∧ Below w.heap.size w w' := by
 refine enter (Hs.start w) Try.func46 rfl Try.ntmps46 rfl (sq_ (qa0 [] [0, 1] [] (ds_ (sq_ (sq_ ?_)))))
 by_cases q3 : ((n : Nat) : Int) ≠ ((n2 : Nat) : Int)
 ·
  refine qa [(4, .yes)] [0, 1] [(10, .bool true)] ([((n : Nat) : Int) ≠ ((n2 : Nat) : Int)]) (al1 q3) (ds_ (t_ (sq_ (qa0 [] [] [(4, .bool false)] (ds_ (rt ([]) (.bool false) ?_))))))
  exact fun w' hw => ⟨by rw [dsame_len (l := ts) (l2 := ts2) (by omega)], hw.below⟩
 ·
  refine qa [(4, .no)] [0, 1] [(10, .bool false)] ([¬ (((n : Nat) : Int) ≠ ((n2 : Nat) : Int))]) (al1 q3) (ds_ (f_ (at_skip (ds_ (sq_ (sq_ (qa0 [] [0, 1] [(12, .int .i64 (n : Nat)), (13, .int .i64 0)] (ds_ (at_block (at_loop (α := Nat) [0, 1, 12, 13] (fun j => [(0, .slice p n cap), (1, .slice p2 n2 cap2), (12, .int .i64 (n : Nat)), (13, .int .i64 (j : Nat))]) (fun j => []) (fun j => j ≤ n ∧ ts.take j = ts2.take j) (fun j => n - j) 0 (by kernel_rfl) rfl ⟨Nat.zero_le _, rfl⟩ ?_))))))))))
  rintro j
  rintro ⟨hj, hI⟩
  refine sq_ ?_
  by_cases q9 : ((j : Nat) : Int) < ((n : Nat) : Int)
  ·
   refine qa [(0, .yes)] [0, 1, 12, 13] [(14, .bool true)] ([((j : Nat) : Int) < ((n : Nat) : Int)]) (al1 q9) (ds_ (sq_ (t_ (at_skip (ds_ (sq_ (at_block (sq_ (qa0 [] [0, 1, 12, 13] [(5, .int .i64 (j : Nat))] (ds_ (sq_ ?_)))))))))))
   obtain ⟨b13, o13, rfl⟩ := hts.pos (i := j) (by omega)
   obtain ⟨x15, hx15⟩ := get_some (l := ts) (m := j) (by omega)
   obtain ⟨b17, o17, rfl⟩ := hts2.pos (i := j) (by omega)
   obtain ⟨x19, hx19⟩ := get_some (l := ts2) (m := j) (by omega)
   by_cases q21 : x15 = x19
   ·
    refine cq [(2, .at b13 o13 j), (3, .go (outs b13 (o13 + j * 5) [.int .i64 x15.id, .int .i64 x15.each, .int .u64 x15.th, .int .u64 x15.tl, .int .u64 x15.tw])), (6, .at b17 o17 j), (7, .go (outs b17 (o17 + j * 5) [.int .i64 x19.id, .int .i64 x19.each, .int .u64 x19.th, .int .u64 x19.tl, .int .u64 x19.tw])), (8, .eqs false)] [0, 1, 12, 13] [(24, .bool false)] ([(some ⟨b13, o13, none⟩ : Option Addr) = some ⟨b13, o13, none⟩, (j : Nat) = ((j : Nat) : Int), j < n] ++ (cellsP w b13 (o13 + j * 5) [.int .i64 x15.id, .int .i64 x15.each, .int .u64 x15.th, .int .u64 x15.tl, .int .u64 x15.tw] ++ ([(some ⟨b17, o17, none⟩ : Option Addr) = some ⟨b17, o17, none⟩, (j : Nat) = ((j : Nat) : Int), j < n2] ++ (cellsP w b17 (o17 + j * 5) [.int .i64 x19.id, .int .i64 x19.each, .int .u64 x19.th, .int .u64 x19.tl, .int .u64 x19.tw] ++ ([EqRun Try.prog .neq 35 (.tmp 19) (.tmp 23) (.agg #[.int .i64 x15.id, .int .i64 x15.each, .int .u64 x15.th, .int .u64 x15.tl, .int .u64 x15.tw]) (.agg #[.int .i64 x19.id, .int .i64 x19.each, .int .u64 x19.th, .int .u64 x19.tl, .int .u64 x19.tw]) false]))))) rfl (by kernel_rfl) (by kernel_rfl) (by kernel_rfl) (alA (al2 rfl (al2 rfl (al1 (by omega)))) (alA (rd_pre (hts.get hx15) _ rfl) (alA (al2 rfl (al2 rfl (al1 (by omega)))) (alA (rd_pre (hts2.get hx19) _ rfl) (al1 (rn_ne_t (a := x15) (b := x19) q21)))))) (ds_ (f_ (at_skip (done_block (ds_ (qa [(0, .fit)] [0, 1, 12] [(13, .int .i64 (j + 1 : Nat))] ([Fit .i64 ((j + 1 : Nat))]) (al1 (fit64 (by omega) (by omega))) ?_))))))
    exact dr [0, 1, 12, 13] (j + 1) ⟨by omega, dsame_on hI hx15 hx19 q21⟩
   ·
    refine cq [(2, .at b13 o13 j), (3, .go (outs b13 (o13 + j * 5) [.int .i64 x15.id, .int .i64 x15.each, .int .u64 x15.th, .int .u64 x15.tl, .int .u64 x15.tw])), (6, .at b17 o17 j), (7, .go (outs b17 (o17 + j * 5) [.int .i64 x19.id, .int .i64 x19.each, .int .u64 x19.th, .int .u64 x19.tl, .int .u64 x19.tw])), (8, .eqs true)] [0, 1, 12, 13] [(24, .bool true)] ([(some ⟨b13, o13, none⟩ : Option Addr) = some ⟨b13, o13, none⟩, (j : Nat) = ((j : Nat) : Int), j < n] ++ (cellsP w b13 (o13 + j * 5) [.int .i64 x15.id, .int .i64 x15.each, .int .u64 x15.th, .int .u64 x15.tl, .int .u64 x15.tw] ++ ([(some ⟨b17, o17, none⟩ : Option Addr) = some ⟨b17, o17, none⟩, (j : Nat) = ((j : Nat) : Int), j < n2] ++ (cellsP w b17 (o17 + j * 5) [.int .i64 x19.id, .int .i64 x19.each, .int .u64 x19.th, .int .u64 x19.tl, .int .u64 x19.tw] ++ ([EqRun Try.prog .neq 35 (.tmp 19) (.tmp 23) (.agg #[.int .i64 x15.id, .int .i64 x15.each, .int .u64 x15.th, .int .u64 x15.tl, .int .u64 x15.tw]) (.agg #[.int .i64 x19.id, .int .i64 x19.each, .int .u64 x19.th, .int .u64 x19.tl, .int .u64 x19.tw]) true]))))) rfl (by kernel_rfl) (by kernel_rfl) (by kernel_rfl) (alA (al2 rfl (al2 rfl (al1 (by omega)))) (alA (rd_pre (hts.get hx15) _ rfl) (alA (al2 rfl (al2 rfl (al1 (by omega)))) (alA (rd_pre (hts2.get hx19) _ rfl) (al1 (rn_ne_f (a := x15) (b := x19) q21)))))) (ds_ (t_ (sq_ (qa0 [] [] [(4, .bool false)] (ds_ (rt ([]) (.bool false) ?_))))))
    exact fun w' hw => ⟨by rw [dsame_no hx15 hx19 q21], hw.below⟩
  ·
   refine qa [(0, .no)] [0, 1, 12, 13] [(14, .bool false)] ([¬ (((j : Nat) : Int) < ((n : Nat) : Int))]) (al1 q9) (ds_ (sq_ (f_ (at_leave _ rfl (ds_ (sq_ (qa0 [] [] [(4, .bool true)] (ds_ (rt ([]) (.bool true) ?_)))))))))
   exact fun w' hw => ⟨by rw [dsame_yes hI (by omega) (by omega)], hw.below⟩

set_option maxRecDepth 100000 in
theorem same_t (p : Option Addr) (n cap : Nat) (ts : List Rn) (p2 : Option Addr) (n2 cap2 : Nat) (ts2 : List Rn) (w : World)
 (hts : Sv w p ts) (hn : n = ts.length) (hb : n ≤ 1000)
 (hts2 : Sv w p2 ts2) (hn2 : n2 = ts2.length) (hb2 : n2 ≤ 1000)
 : Calls Try.prog 17 #[.agg #[.slice p n cap], .agg #[.slice p2 n2 cap2]] w fun e w' => e = .returned (.bool (decide (ts = ts2))) ∧ Below w.heap.size w w' := by
 refine enter (Hs.start w) Try.func17 rfl Try.ntmps17 rfl (sq_ (ma0 [] [] (fun γ1 => [(2, .pointer (some ⟨γ1 0, 0, none⟩)), (3, .pointer (some ⟨γ1 1, 0, none⟩))]) (fun γ1 L => bx (γ1 1) (#[.slice p2 n2 cap2]) 24 :: bx (γ1 0) (#[.slice p n cap]) 24 :: L) (fun γ1 => ds_ (sq_ (ao_ (qo0 4 [(1, .go (owns 1 0 1)), (3, .go (owns 0 0 1))] [] [(6, .slice p n cap), (8, .slice p2 n2 cap2)] (cD (.bool (decide (ts = ts2))) Try.call46 (fun w hw => equal_t p n cap ts p2 n2 cap2 ts2 w (hts.kept hw.below) hn hb (hts2.kept hw.below) hn2 hb2) (qo0 1 [] [] [(4, .bool (decide (ts = ts2)))] (on_ (ds_ (rt ([]) (.bool (decide (ts = ts2))) ?_)))))))))))
 exact fun w' hw => ⟨rfl, hw.below⟩
end Go.Proofs.Ytnhkecfapohlgaa

/-! The walker: maps of one's own with whole numbers for keys. -/
namespace Go.Proofs.Ytnhkecfapohlgaa
open Go Go.RowKit

/-- What a map holds: its entries, the oldest first. -/
def mget {β : Type} : List (Int × β) → Int → Option β
  | [], _ => none
  | p :: D, k => if p.1 = k then some p.2 else mget D k
def mupd {β : Type} : List (Int × β) → Int → β → List (Int × β)
  | [], k, v => [(k, v)]
  | p :: D, k, v => if p.1 = k then (k, v) :: D else p :: mupd D k v
structure MapIs {β : Type} (ik : IntKind) (enc : β → Value) (es : Array MapEntry) (D : List (Int × β)) : Prop where
  keys : es.toList.map (fun e => (e.key, e.val)) = D.map fun p => (.int ik p.1, enc p.2)
section
variable {β : Type} {ik : IntKind} {enc : β → Value} {es : Array MapEntry} {D : List (Int × β)} {k : Int} {v : β} {ck : Nat}
theorem MapIs.nil : MapIs ik enc #[] ([] : List (Int × β)) := ⟨rfl⟩
theorem MapIs.size (h : MapIs ik enc es D) : es.size = D.length := by
  have := congrArg List.length h.keys
  simpa using this
variable {P : Program} {w : World} {t kt et : TypeId} {r : Nat}
end

section
variable {E : Env} {k : List Fr} {l : Sl} {L : List Ob} {all os : List Oper} {o : Oper} {i : Nat}
/-- A map's type, asked by the kernel. -/
def mapB (P : Program) (t : TypeId) (ik : IntKind) (z : Value) : Prop := ∃ kt et, P.underlying t = some (.map kt et) ∧ P.underlying kt = some (.int ik) ∧ (P.info? et).bind (fun i => i.zero) = some z
end
end Go.Proofs.Ytnhkecfapohlgaa

/-! The walker: make; append within one's own row; what a deletion of a stretch leaves; m[k]++. -/
namespace Go.Proofs.Ytnhkecfapohlgaa
open Go Go.RowKit

section
variable {E : Env} {k : List Fr} {l : Sl} {L : List Ob} {all os : List Oper} {o : Oper} {i : Nat}
end
section
variable {α : Type} [Enc α] {l : List α} {i i2 n cap : Nat} {cs c2 : Array Value}
end
/-! ### m[k]++ -/
section
variable {β : Type} {ik : IntKind} {enc : β → Value} {es : Array MapEntry} {D : List (Int × β)} {k : Int} {ck : Nat} {P : Program} {w : World} {t kt et : TypeId} {r : Nat}
/-- The entries' stamps: all apart, below the clock. -/
def Stamps (es : Array MapEntry) (ck : Nat) : Prop := (es.toList.map (·.born)).Nodup ∧ ∀ e ∈ es.toList, e.born < ck
theorem Stamps.nil : Stamps #[] 0 := ⟨by simp, fun _ h => by simp at h⟩
end
end Go.Proofs.Ytnhkecfapohlgaa

/-! Runners: slices.Clone, slices.Insert. -/
namespace Go.Proofs.Ytnhkecfapohlgaa
open Go Go.RowKit

set_option maxRecDepth 100000 in
theorem qclone_t (p : Option Addr) (n cap : Nat) (l : List Rn) (w : World)
    (hsl : Sv w p l) (hn : n = l.length) (hb : n ≤ 1000)
    : Calls Try.prog 78 #[.slice p n cap] w fun e w' => ∃ q capq Y, e = .returned (.slice q n capq) ∧ SlO 35 Y q n capq l ∧ Below w.heap.size w w' ∧ Hs w Y w' := by
  refine enter (Hs.start w) Try.func78 rfl Try.ntmps78 rfl (sq_ (qa0 [] [0] [] (ds_ (sq_ (sq_ ?_)))))
  rcases p with _ | a3
  ·
    refine qa0 [] [0] [(4, .bool true)] (ds_ (t_ (sq_ (qa0 [] [] [(2, .slice none 0 0)] (ds_ (rt ([]) (.slice none 0 0) ?_))))))
    exact fun w' hw => ⟨none, 0, [], by rw [hn, hsl.none]; rfl, by rw [hn, hsl.none]; exact SlO.nil, hw.below, hw.sub (List.nil_sublist _)⟩
  ·
    refine qa0 [] [0] [(4, .bool false)] (ds_ (f_ (at_skip (ds_ (sq_ (ao_ (mo0 2 [] [] (fun γ7 => [(5, .slice (some ⟨γ7 0, 0, none⟩) 0 0), (6, .slice (some a3) n cap)]) (fun γ7 L => bx (γ7 0) (#[]) 35 :: L) (fun γ7 => ops_append (α := Rn) [] ([bx (γ7 0) (#[]) 35]) ([]) (mvE rfl) rfl (by kernel_rfl) (by kernel_rfl) (p := (some ⟨γ7 0, 0, none⟩)) (n := 0) (cap := 0) (m := n) (yv := .slice (some a3) n cap) (by kernel_rfl) (by kernel_rfl) (T := 35) (by_ := 40) (by kernel_rfl) ([]) l (SlO.lit (by rfl) (by rfl) (by simp [maxLen])) (fun w hw => src_svn Try.underlying22 (hsl.kept hw.below) hn) hn (by have hmx : maxLen = 9223372036854775807 := rfl; omega) (by have hmx : maxLen = 9223372036854775807 := rfl; omega) (fun Y8 p8 cap8 hO8 => qo0 1 [] [] [(2, .slice p8 (0 + n) cap8)] (on_ (ds_ (rt ([]) (.slice p8 (0 + n) cap8) ?_))))))))))))
    exact fun w' hw => ⟨_, _, _, by rw [Nat.zero_add], by simpa using hO8, hw.below, ((hw.tailN 0).sub (List.sublist_append_left Y8 ([])))⟩
set_option maxRecDepth 100000 in
theorem overlaps_findR : Extern.find Try.f87 = some (Extern.SlicesOverlaps.overlaps Try.f87.params Try.f87.resultTypes) := by kernel_rfl
set_option maxRecDepth 100000 in
theorem overlaps_nextR : Extern.findNext Try.f87 = none := by kernel_rfl
theorem overlaps_noR {w : World} {g1 o1 g2 o2 m n c1 c2 : Nat} {cs1 cs2 : Array Value} {T1 T2 : TypeId} (h1 : w.heap[g1]? = some (.cells cs1 T1 (0, 0))) (h2 : w.heap[g2]? = some (.cells cs2 T2 (0, 0))) (hne : g1 ≠ g2) :
    (callFunc 87 #[.slice (some ⟨g1, o1, none⟩) m c1, .slice (some ⟨g2, o2, none⟩) n c2]).run Try.prog w = .ok (.value (.bool false)) w := by
  have hf := Try.func87
  have hn : (Try.f87.name == "runtime.NumGoroutine") = false := by kernel_rfl
  have hb : Try.f87.body.isNone = true := by kernel_rfl
  have hp : Try.f87.params[0]? = some 22 := by kernel_rfl
  have hu := Try.underlying22
  obtain ⟨ht', inf, z', hi, hz', _, hks, hby⟩ := elemB_spec (show elemB Try.prog 22 35 5 40 = true by kernel_rfl)
  have hs : inf.size = 5 := by omega
  have s1 : w.shape? g1 = some (T1, cs1.size) := by simp [World.shape?, h1]
  have s2 : w.shape? g2 = some (T2, cs2.size) := by simp [World.shape?, h2]
  have f1 : ∀ j, w.frozen? ⟨g1, j, none⟩ = false := fun j => froz_own h1 j
  have f2 : ∀ j, w.frozen? ⟨g2, j, none⟩ = false := fun j => froz_own h2 j
  have run1 : ∀ args, (callFunc 87 args).run Try.prog w = ((Extern.SlicesOverlaps.overlaps Try.f87.params Try.f87.resultTypes args).run Try.prog w).andThen fun v w' => .ok (.value v) w' := fun args => by
    simp only [callFunc, Sem.run_bind, run_program, Result.andThen_ok, hf, hn, hb, overlaps_nextR, overlaps_findR]
    simp [mark, Sem.run, Sem.run_bind]
  rw [run1]
  have hne' : (g1 == g2) = false := by simpa using hne
  have hs' : (do let i ← typeInfo 35; pure i.size : Sem Nat).run Try.prog w = .ok 5 w := by simp [typeInfo, hi, hs]
  delta Extern.SlicesOverlaps.overlaps
  conv => lhs; arg 1; arg 2; whnf
  have hu' : Try.prog.underlying (Try.f87.params[0]'(by decide)) = some (.slice 35) := by kernel_rfl
  have sb : ∀ (α β : Type) (x : Sem α) (f : α → Sem β) (P : Program) (w : World), (x.bind f).run P w = (x.run P w).andThen fun a w' => (f a).run P w' := fun α β x f P w => Sem.run_bind' P x f w
  by_cases hm : m = 0 ∨ n = 0 ∨ inf.size = 0
  · simp [Sem.run, sb, hu', sizeOf, typeInfo, hi, hm]
  · simp [Sem.run, sb, hu', sizeOf, typeInfo, hi, hm, bne, hne', hne, noView, viewAt, mayBeOne, stringish, shape, frozen, s1, s2, f1, f2]

set_option maxRecDepth 100000 in
theorem qinsert_t (w0 : World) (X Y : List Ob) (p : Option Addr) (n cap : Nat) (l : List Rn) (i gv : Nat) (cv : Array Value) (m : Nat) (vl : List Rn) (w : World)
    (hH : Hs w0 (bx gv cv 35 :: (Y ++ X)) w) (hO : SlO 35 Y p n cap l) (hcv : cv.toList = vl.flatMap Enc.enc) (hm : m = vl.length) (hm0 : 0 < m) (hi : i ≤ n) (hb : n ≤ 1000) (hmb : m ≤ 1000)
    : Calls Try.prog 80 #[.slice p n cap, .int .i64 (i : Nat), .slice (some ⟨gv, 0, none⟩) m m] w fun e w' => ∃ q capq Y', e = .returned (.slice q (n + m) capq) ∧ SlO 35 Y' q (n + m) capq (l.take i ++ vl ++ l.drop i) ∧ Hs w0 (Y' ++ X) w' := by
  have hn := hO.len
  refine enter hH Try.func80 rfl Try.ntmps80 rfl (sq_ (qa0 [] [0, 1, 2] [] (ds_ (sq_ (qa [(2, .sl (.slice (if cap = i then p else p.map (·.add (i * 5))) (n - i) (cap - i)))] [0, 1, 2] [] ([SlRun Try.prog 22 (.slice p n cap) (some (.int .i64 (i : Nat))) none none (.slice (if cap = i then p else p.map (·.add (i * 5))) (n - i) (cap - i))]) (al1 (slE_cut (P := Try.prog) (T := 22) (e := 35) (k := 5) (by_ := 40) (by kernel_rfl) hi)) (ds_ (sq_ (qa0 [] [0, 1, 2] [(7, .int .i64 (m : Nat))] (ds_ (sq_ (sq_ (qa [(1, .no)] [0, 1, 2, 7] [(16, .bool false)] ([¬ (((m : Nat) : Int) = (0 : Int))]) (al1 (by omega)) (ds_ (f_ (at_skip (ds_ (sq_ (qa0 [] [0, 1, 2, 7] [(8, .int .i64 (n : Nat))] (ds_ (sq_ (sq_ ?_)))))))))))))))))))))
  by_cases q7 : ((i : Nat) : Int) = ((n : Nat) : Int)
  ·
    refine qa [(2, .yes)] [0, 1, 2, 7, 8] [(22, .bool true)] ([((i : Nat) : Int) = ((n : Nat) : Int)]) (al1 q7) (ds_ (t_ (sq_ (ao_ (qo0 2 [] [] [(23, .slice p n cap), (24, .slice (some ⟨gv, 0, none⟩) m m)] (ops_append (α := Rn) [bx gv cv 35] Y X (.refl _) rfl (by kernel_rfl) (by kernel_rfl) (p := p) (n := n) (cap := cap) (m := m) (yv := .slice (some ⟨gv, 0, none⟩) m m) (by kernel_rfl) (by kernel_rfl) (T := 35) (by_ := 40) (by kernel_rfl) l vl hO (fun w hw => src_svn Try.underlying22 (sv_row (hw.row 0 rfl) hcv) hm) hm (by have hmx : maxLen = 9223372036854775807 := rfl; omega) (by have hmx : maxLen = 9223372036854775807 := rfl; omega) (fun Y10 p10 cap10 hO10 => qo0 1 [] [] [(6, .slice p10 (n + m) cap10)] (on_ (ds_ (rt ([]) (.slice p10 (n + m) cap10) ?_))))))))))
    exact fun w' hw => ⟨_, _, _, rfl, by rw [show i = l.length by omega, List.take_length, List.drop_length, List.append_nil]; exact hO10, hw.tailN 1⟩
  ·
    refine qa [(2, .no)] [0, 1, 2, 7, 8] [(22, .bool false)] ([¬ (((i : Nat) : Int) = ((n : Nat) : Int))]) (al1 q7) (ds_ (f_ (at_skip (ds_ (sq_ (sq_ ?_))))))
    obtain ⟨g, cs, rfl, rfl, hOw⟩ := hO.rowOf (i := i) (by omega)
    have hcap := hOw.le
    have hcs := hOw.csz
    have hmax := hOw.max
    by_cases q15 : ((n + m : Nat) : Int) > ((cap : Nat) : Int)
    ·
      refine qa [(2, .fit), (5, .yes)] [0, 1, 2, 7, 8] [(31, .bool true)] ([Fit .i64 ((n + m : Nat))] ++ ([((n + m : Nat) : Int) > ((cap : Nat) : Int)])) (alA (al1 (fit64 (by omega) (by omega))) (al1 q15)) (ds_ (t_ (sq_ (ao_ (qo 8 [(2, .sl (.slice (some ⟨g, 0, none⟩) i cap)), (5, .fit), (7, .is [] (.int .i64 (n + m - i : Nat)))] [0, 1, 2, 7] [(34, .slice (some ⟨g, 0, none⟩) i cap), (39, .int .i64 (n + m - i : Nat))] ([SlRun Try.prog 22 (.slice (some ⟨g, 0, none⟩) n cap) none (some (.int .i64 (i : Nat))) none (.slice (some ⟨g, 0, none⟩) i cap)] ++ ([Fit .i64 ((n + m : Nat))] ++ ([Value.int .i64 (IntKind.i64.wrap ((((n + m : Nat)) : Int) - ((i : Nat) : Int))) = .int .i64 (n + m - i : Nat)]))) (alA (al1 (slE_hi (P := Try.prog) (T := 22) (e := 35) (k := 5) (by_ := 40) (by kernel_rfl) (h := i) (by omega))) (alA (al1 (fit64 (by omega) (by omega))) (al1 (by rw [wrap_fit (fit64 (by omega) (by omega))]; congr 1; omega)))) (ops_appendZ rfl (by kernel_rfl) (by kernel_rfl) (p := some ⟨g, 0, none⟩) (m := i) (cap := cap) (n := n + m - i) ((cs.toList.drop 0).take (i * 5)) (by kernel_rfl) (by kernel_rfl) (T := 35) (ks := 5) (by_ := 40) (by kernel_rfl) Try.underlying3 (by decide) (olds_len hcs (by omega)) (fun w hw => first_row (hw.row 1 rfl) (by rw [hcs, Nat.zero_add]; exact Nat.mul_le_mul_right _ (by omega))) (by omega) (by omega) (by simp only [maxLen]; omega) (by omega) (fun g2 c2 cap2 hc2 hle2 hmax2 hpre2 => qo0 1 [] [0, 1, 2, 7] [(9, .slice (some ⟨g2, 0, none⟩) (i + (n + m - i)) cap2)] (on_ (ds_ (sq_ (ao_ (qo 4 [(2, .sl (.slice (some ⟨g2, 0 + i * 5, none⟩) (i + (n + m - i) - i) (cap2 - i)))] [0, 1, 7, 9] [(43, .slice (some ⟨g2, 0 + i * 5, none⟩) (i + (n + m - i) - i) (cap2 - i)), (44, .slice (some ⟨gv, 0, none⟩) m m)] ([SlRun Try.prog 22 (.slice (some ⟨g2, 0, none⟩) (i + (n + m - i)) cap2) (some (.int .i64 (i : Nat))) none none (.slice (some ⟨g2, 0 + i * 5, none⟩) (i + (n + m - i) - i) (cap2 - i))]) (al1 (slE_lo (P := Try.prog) (T := 22) (e := 35) (k := 5) (by_ := 40) (by kernel_rfl) (lo := i) (by omega) (by omega))) (ops_copy 0 rfl (by kernel_rfl) (by kernel_rfl) (g := g2) (of := (0 + i * 5)) (dn := (i + (n + m - i) - i)) (dc := (cap2 - i)) (m := m) (cnt := m) (c := c2) (yv := (.slice (some ⟨gv, 0, none⟩) m m)) (vl.flatMap Enc.enc) (by kernel_rfl) (by kernel_rfl) (T := 35) (ks := 5) (by_ := 40) (by kernel_rfl) (T' := 35) (by kernel_rfl) len_slice (by omega) (fun w hw => by have := first_sv (P := Try.prog) (w := w) (p := some ⟨gv, 0, none⟩) (m := m) (cap := m) (cnt := m) (sv_row (hw.row 1 rfl) hcv) (by omega); rw [List.take_of_length_le (by omega)] at this; exact this) (by rw [flat_len, ← hm]; exact mul_room (c := cap2) (by omega) hc2) (flat_one vl) ?_)))))))))))))
      refine on_ (ds_ (sq_ (at_calmTo (f := 1) 8 rfl (by kernel_rfl) (by kernel_rfl) (by kernel_rfl) (by kernel_rfl) (by kernel_rfl) (by kernel_rfl) ?_)))
      refine cm 8 [(3, .fit), (4, .sl (.slice (some ⟨g2, 0 + (i + m) * 5, none⟩) (i + (n + m - i) - (i + m)) (cap2 - (i + m)))), (7, .sl (.slice (some ⟨g, 0 + i * 5, none⟩) (n - i) (cap - i)))] [9] [(50, .slice (some ⟨g2, 0 + (i + m) * 5, none⟩) (i + (n + m - i) - (i + m)) (cap2 - (i + m))), (53, .slice (some ⟨g, 0 + i * 5, none⟩) (n - i) (cap - i))] ([Fit .i64 ((i + m : Nat))] ++ ([SlRun Try.prog 22 (.slice (some ⟨g2, 0, none⟩) (i + (n + m - i)) cap2) (some (.int .i64 (i + m : Nat))) none none (.slice (some ⟨g2, 0 + (i + m) * 5, none⟩) (i + (n + m - i) - (i + m)) (cap2 - (i + m)))] ++ ([SlRun Try.prog 22 (.slice (some ⟨g, 0, none⟩) n cap) (some (.int .i64 (i : Nat))) none none (.slice (some ⟨g, 0 + i * 5, none⟩) (n - i) (cap - i))]))) (by kernel_rfl) rfl (alA (al1 (fit64 (by omega) (by omega))) (alA (al1 (slE_lo (P := Try.prog) (T := 22) (e := 35) (k := 5) (by_ := 40) (by kernel_rfl) (lo := i + m) (by omega) (by omega))) (al1 (slE_lo (P := Try.prog) (T := 22) (e := 35) (k := 5) (by_ := 40) (by kernel_rfl) (lo := i) (by omega) (by omega))))) ?_
      refine calm_nil' ?_
      refine done_pre (li' := #[true, true, true, true, true, true, true, true, false]) (by kernel_rfl) ?_
      refine a1 8 rfl ?_
      refine ops_copy 0 rfl (by kernel_rfl) (by kernel_rfl) (g := g2) (of := (0 + (i + m) * 5)) (dn := (i + (n + m - i) - (i + m))) (dc := (cap2 - (i + m))) (m := (n - i)) (cnt := (n - i)) (c := (sets c2 (0 + i * 5) (vl.flatMap Enc.enc))) (yv := (.slice (some ⟨g, 0 + i * 5, none⟩) (n - i) (cap - i))) ((cs.toList.drop (0 + i * 5)).take ((n - i) * 5)) (by kernel_rfl) (by kernel_rfl) (T := 35) (ks := 5) (by_ := 40) (by kernel_rfl) (T' := 35) (by kernel_rfl) len_slice (by omega) (fun w hw => first_row (hw.row 2 rfl) (row_room hOw (by omega))) (by rw [sets_size]; exact copy_room (c := cap2) hOw (by omega) (by omega) hc2) (row_one hOw (by omega)) ?_
      refine od_ ?_
      refine any_nil (by kernel_rfl) ?_
      refine ds_ (sq_ (qa0 [] [] [(6, .slice (some ⟨g2, 0, none⟩) (i + (n + m - i)) cap2)] (ds_ (rt ([]) (.slice (some ⟨g2, 0, none⟩) (i + (n + m - i)) cap2) ?_))))
      exact fun w' hw => ⟨some ⟨g2, 0, none⟩, cap2, [_], by rw [show i + (n + m - i) = n + m by omega], .inr ⟨_, _, rfl, rfl, by simp; omega, ins_grow hOw (by omega) hm (by omega) hc2 (by omega) hmax2 hpre2⟩, hw.sub (.cons_cons _ (.cons _ (.cons _ (.refl _))))⟩
    ·
      refine qa [(2, .fit), (5, .no)] [0, 1, 2, 7, 8] [(31, .bool false)] ([Fit .i64 ((n + m : Nat))] ++ ([¬ (((n + m : Nat) : Int) > ((cap : Nat) : Int))])) (alA (al1 (fit64 (by omega) (by omega))) (al1 q15)) (ds_ (f_ (at_skip (ds_ (sq_ (qa [(3, .fit), (4, .sl (.slice (some ⟨g, 0, none⟩) (n + m) cap))] [1, 2, 7, 8] [(0, .slice (some ⟨g, 0, none⟩) (n + m) cap)] ([Fit .i64 ((n + m : Nat))] ++ ([SlRun Try.prog 22 (.slice (some ⟨g, 0, none⟩) n cap) none (some (.int .i64 (n + m : Nat))) none (.slice (some ⟨g, 0, none⟩) (n + m) cap)])) (alA (al1 (fit64 (by omega) (by omega))) (al1 (slE_hi (P := Try.prog) (T := 22) (e := 35) (k := 5) (by_ := 40) (by kernel_rfl) (h := n + m) (by omega)))) (ds_ (sq_ (sq_ (ao_ (qo 6 [(4, .fit), (5, .sl (.slice (some ⟨g, 0 + (i + m) * 5, none⟩) (n + m - (i + m)) (cap - (i + m))))] [0, 1, 2, 7, 8] [(61, .slice (some ⟨gv, 0, none⟩) m m), (66, .slice (some ⟨g, 0 + (i + m) * 5, none⟩) (n + m - (i + m)) (cap - (i + m)))] ([Fit .i64 ((i + m : Nat))] ++ ([SlRun Try.prog 22 (.slice (some ⟨g, 0, none⟩) (n + m) cap) (some (.int .i64 (i + m : Nat))) none none (.slice (some ⟨g, 0 + (i + m) * 5, none⟩) (n + m - (i + m)) (cap - (i + m)))])) (alA (al1 (fit64 (by omega) (by omega))) (al1 (slE_lo (P := Try.prog) (T := 22) (e := 35) (k := 5) (by_ := 40) (by kernel_rfl) (lo := i + m) (by omega) (by omega)))) (ops_ext (f := 87) (args := #[.slice (some ⟨gv, 0, none⟩) m m, .slice (some ⟨g, 0 + (i + m) * 5, none⟩) (n + m - (i + m)) (cap - (i + m))]) (.bool false) (by kernel_rfl) (by kernel_rfl) (by kernel_rfl) (fun w hw => overlaps_noR (hw.row 0 rfl) (hw.row 1 rfl) (apart_two hw (a := 0) (b := 1) rfl rfl (by decide))) (qo0 1 [] [0, 1, 2, 7, 8] [(68, .bool true)] (on_ (ds_ (t_ (sq_ (at_calmTo (f := 1) 8 rfl (by kernel_rfl) (by kernel_rfl) (by kernel_rfl) (by kernel_rfl) (by kernel_rfl) (by kernel_rfl) ?_))))))))))))))))))
      refine cm 8 [(3, .fit), (4, .sl (.slice (some ⟨g, 0 + (i + m) * 5, none⟩) (n + m - (i + m)) (cap - (i + m)))), (7, .sl (.slice (some ⟨g, 0 + i * 5, none⟩) (n + m - i) (cap - i)))] [0, 1, 2] [(73, .slice (some ⟨g, 0 + (i + m) * 5, none⟩) (n + m - (i + m)) (cap - (i + m))), (76, .slice (some ⟨g, 0 + i * 5, none⟩) (n + m - i) (cap - i))] ([Fit .i64 ((i + m : Nat))] ++ ([SlRun Try.prog 22 (.slice (some ⟨g, 0, none⟩) (n + m) cap) (some (.int .i64 (i + m : Nat))) none none (.slice (some ⟨g, 0 + (i + m) * 5, none⟩) (n + m - (i + m)) (cap - (i + m)))] ++ ([SlRun Try.prog 22 (.slice (some ⟨g, 0, none⟩) (n + m) cap) (some (.int .i64 (i : Nat))) none none (.slice (some ⟨g, 0 + i * 5, none⟩) (n + m - i) (cap - i))]))) (by kernel_rfl) rfl (alA (al1 (fit64 (by omega) (by omega))) (alA (al1 (slE_lo (P := Try.prog) (T := 22) (e := 35) (k := 5) (by_ := 40) (by kernel_rfl) (lo := i + m) (by omega) (by omega))) (al1 (slE_lo (P := Try.prog) (T := 22) (e := 35) (k := 5) (by_ := 40) (by kernel_rfl) (lo := i) (by omega) (by omega))))) ?_
      refine calm_nil' ?_
      refine done_pre (li' := #[true, true, true, true, true, true, true, true, false]) (by kernel_rfl) ?_
      refine a1 8 rfl ?_
      refine ops_copy 1 rfl (by kernel_rfl) (by kernel_rfl) (g := g) (of := (0 + (i + m) * 5)) (dn := (n + m - (i + m))) (dc := (cap - (i + m))) (m := (n + m - i)) (cnt := (n - i)) (c := cs) (yv := (.slice (some ⟨g, 0 + i * 5, none⟩) (n + m - i) (cap - i))) ((cs.toList.drop (0 + i * 5)).take ((n - i) * 5)) (by kernel_rfl) (by kernel_rfl) (T := 35) (ks := 5) (by_ := 40) (by kernel_rfl) (T' := 35) (by kernel_rfl) len_slice (by omega) (fun w hw => first_row (hw.row 1 rfl) (row_room hOw (by omega))) (copy_room (c := cap) hOw (by omega) (by omega) hcs) (row_one hOw (by omega)) ?_
      refine od_ ?_
      refine any_nil (by kernel_rfl) ?_
      refine ds_ (sq_ (ao_ (qo 4 [(2, .sl (.slice (some ⟨g, 0 + i * 5, none⟩) (n + m - i) (cap - i)))] [0] [(80, .slice (some ⟨g, 0 + i * 5, none⟩) (n + m - i) (cap - i)), (81, .slice (some ⟨gv, 0, none⟩) m m)] ([SlRun Try.prog 22 (.slice (some ⟨g, 0, none⟩) (n + m) cap) (some (.int .i64 (i : Nat))) none none (.slice (some ⟨g, 0 + i * 5, none⟩) (n + m - i) (cap - i))]) (al1 (slE_lo (P := Try.prog) (T := 22) (e := 35) (k := 5) (by_ := 40) (by kernel_rfl) (lo := i) (by omega) (by omega))) (ops_copy 1 rfl (by kernel_rfl) (by kernel_rfl) (g := g) (of := (0 + i * 5)) (dn := (n + m - i)) (dc := (cap - i)) (m := m) (cnt := m) (c := (sets cs (0 + (i + m) * 5) ((cs.toList.drop (0 + i * 5)).take ((n - i) * 5)))) (yv := (.slice (some ⟨gv, 0, none⟩) m m)) (vl.flatMap Enc.enc) (by kernel_rfl) (by kernel_rfl) (T := 35) (ks := 5) (by_ := 40) (by kernel_rfl) (T' := 35) (by kernel_rfl) len_slice (by omega) (fun w hw => by have := first_sv (P := Try.prog) (w := w) (p := some ⟨gv, 0, none⟩) (m := m) (cap := m) (cnt := m) (sv_row (hw.row 0 rfl) hcv) (by omega); rw [List.take_of_length_le (by omega)] at this; exact this) (by rw [flat_len, ← hm, sets_size]; exact mul_room (c := cap) (by omega) hcs) (flat_one vl) (on_ (ds_ (sq_ (qa0 [] [] [(6, .slice (some ⟨g, 0, none⟩) (n + m) cap)] (ds_ (rt ([]) (.slice (some ⟨g, 0, none⟩) (n + m) cap) ?_))))))))))
      exact fun w' hw => ⟨_, _, [_], rfl, .inr ⟨_, _, rfl, rfl, by simp; omega, ins_room hOw (by omega) hm (by omega) (by omega)⟩, hw.sub (.cons _ (.refl _))⟩
end Go.Proofs.Ytnhkecfapohlgaa

/-! The walker: two cells of an element changed in place. -/
namespace Go.Proofs.Ytnhkecfapohlgaa
open Go Go.RowKit
section
variable {α : Type} [Enc α] {l : List α} {x x' : α} {v v' : Value} {i f n cap : Nat} {cs : Array Value}
theorem OwnS.put2 (h : OwnS (Enc.k α) (l.flatMap Enc.enc) n cap cs) (hn : n = l.length) (hx : l[i]? = some x) (hf : f + 1 < Enc.k α) (mid : ∃ x1 : α, Enc.enc x1 = (Enc.enc x).set f v) (he : Enc.enc x' = ((Enc.enc x).set f v).set (f + 1) v') :
    OwnS (Enc.k α) ((l.set i x').flatMap Enc.enc) n cap ((cs.setIfInBounds (0 + i * Enc.k α + f) v).setIfInBounds (0 + i * Enc.k α + f + 1) v') := by
  obtain ⟨x1, h1⟩ := mid
  have a := h.put hn hx (f := f) (by omega) h1
  have b := a.put (x' := x') (v := v') (f := f + 1) (len_set hn) (get_set hx) hf (by rw [h1]; exact he)
  rw [List.set_set] at b
  exact b
end
end Go.Proofs.Ytnhkecfapohlgaa

/-! The walker: three cells of an element changed in place. Queues that are changed; plain. -/
namespace Go.Proofs.Ytnhkecfapohlgaa
open Go Go.RowKit
section
variable {α : Type} [Enc α] {l : List α} {x x' : α} {v v' v2 : Value} {i f n cap : Nat} {cs : Array Value}
theorem OwnS.put3 (h : OwnS (Enc.k α) (l.flatMap Enc.enc) n cap cs) (hn : n = l.length) (hx : l[i]? = some x) (hf : f + 2 < Enc.k α) (mid : ∃ x1 : α, Enc.enc x1 = (Enc.enc x).set f v) (mid2 : ∃ x2 : α, Enc.enc x2 = ((Enc.enc x).set f v).set (f + 1) v') (he : Enc.enc x' = (((Enc.enc x).set f v).set (f + 1) v').set (f + 2) v2) :
    OwnS (Enc.k α) ((l.set i x').flatMap Enc.enc) n cap (((cs.setIfInBounds (0 + i * Enc.k α + f) v).setIfInBounds (0 + i * Enc.k α + f + 1) v').setIfInBounds (0 + i * Enc.k α + f + 2) v2) := by
  obtain ⟨x2, h2⟩ := mid2
  have a := h.put2 hn hx (f := f) (by omega) mid h2
  have b := a.put (x' := x') (v := v2) (f := f + 2) (len_set hn) (get_set hx) hf (by rw [h2]; exact he)
  rw [List.set_set] at b
  exact b
end
theorem one_tail {w0 w : World} {Y : List Ob} (h : Hs w0 (Y ++ []) w) : Hs w0 Y w := by rwa [List.append_nil] at h
/- places -/
def risI (l : List Int) : Bool := risK (fun x : Int => x) l && l.all idV
def hasQ (ts : List Rn) (k : Int) : Bool := (getK Rn.id ts k).isSome
def posI (ts : List Rn) (k : Int) : Int := (posK Rn.id ts k : Nat)
def placesE (ts : List Rn) (l : List Int) : Int := if risI l = true then (if l.all (hasQ ts) = true then 0 else 4) else 2
def foundE (ts : List Rn) (l : List Int) : Int := if l.all (hasQ ts) = true then 0 else 4
def lastN (l : List Int) (j : Nat) : Int := match j with
  | 0 => 0
  | j + 1 => (l[j]?).getD 0
/- changes -/
def altL (f : Rn → Rn × Int) (ts : List Rn) (l : List Int) : List Rn := ts.map fun r => if r.id ∈ l then (f r).1 else r
def errF (f : Rn → Rn × Int) (ts : List Rn) (k : Int) : Int := match getK Rn.id ts k with
  | some r => (f r).2
  | none => 0
def altE (f : Rn → Rn × Int) (ts : List Rn) : List Int → Int
  | [] => 0
  | k :: ks => if errF f ts k ≠ 0 then errF f ts k else altE f ts ks
def altX (f : Rn → Rn × Int) (ts : List Rn) (e0 : Int) (l : List Int) : Int := if e0 ≠ 0 then e0 else altE f ts l
def alterV (f : Rn → Rn × Int) (ts : List Rn) (ok : Bool) (l : List Int) : List Rn × Int :=
  if chkQ ts = true then (if ok = true then (if altX f ts (placesE ts l) l ≠ 0 then ([], altX f ts (placesE ts l) l) else (altL f ts l, 0)) else ([], 2)) else ([], 200)
section
variable {f : Rn → Rn × Int} {ts : List Rn} {l : List Int} {x y r : Rn} {j i : Nat} {k e e0 la : Int} {ok : Bool}
theorem lastN_on (hx : l[j]? = some k) : lastN l (j + 1) = k := by show (l[j]?).getD 0 = _; rw [hx]; rfl
theorem lastN_at (h : lastN l j = k) (hj : j ≤ l.length) : j = 0 ∧ k = 0 ∨ ∃ y, 0 < j ∧ l[j - 1]? = some y ∧ y = k := by
  match j, h with
  | 0, h => exact .inl ⟨rfl, h.symm⟩
  | j + 1, h =>
    refine .inr ⟨l[j]'(by omega), by omega, List.getElem?_eq_getElem (by omega), ?_⟩
    rw [← h, lastN_on (List.getElem?_eq_getElem (by omega))]
theorem risI_iff : risI l = true ↔ Ris (fun x : Int => x) l ∧ ∀ k ∈ l, idV k = true := by unfold risI; rw [Bool.and_eq_true, List.all_eq_true, ris_iffK]
theorem risN_on (hr : Ris (fun x : Int => x) (l.take j)) (hx : l[j]? = some k) (hl : lastN l j = la) (h : la < k) : Ris (fun x : Int => x) (l.take (j + 1)) := by
  have hj := (List.getElem?_eq_some_iff.1 hx).1
  rcases lastN_at hl (by omega) with ⟨h0, _⟩ | ⟨y, h0, hy, hk⟩
  · exact ris_take_onT hr hx (.inl h0)
  · exact ris_take_onT hr hx (.inr ⟨y, hy, by omega⟩)
theorem risI_badI (hx : l[j]? = some k) (h : idV k = false) : risI l = false := by
  cases e : risI l with
  | false => rfl
  | true => rw [(risI_iff.1 e).2 k (List.mem_of_getElem? hx)] at h; cases h
theorem risI_badL (hx : l[j]? = some k) (hl : lastN l j = la) (hb : idV k = true) (h : k ≤ la) : risI l = false := by
  have hj := (List.getElem?_eq_some_iff.1 hx).1
  have hk := idV_iff.1 hb
  rcases lastN_at hl (by omega) with ⟨_, h0⟩ | ⟨y, h0, hy, hk2⟩
  · omega
  · cases e : risI l with
    | false => rfl
    | true => have := (risI_iff.1 e).1.at (show j - 1 < j by omega) hy hx; omega
theorem risI_good (hr : Ris (fun x : Int => x) (l.take j)) (ha : ∀ y ∈ l.take j, idV y = true) (hj : l.length ≤ j) : risI l = true := by
  rw [List.take_of_length_le hj] at hr ha
  exact risI_iff.2 ⟨hr, ha⟩
theorem places_bad (h : risI l = false) : placesE ts l = 2 := by unfold placesE; rw [h]; rfl
theorem places_ok (h : risI l = true) : placesE ts l = foundE ts l := by unfold placesE foundE; rw [if_pos h]
theorem places_zero : placesE ts l = 0 ↔ risI l = true ∧ ∀ k ∈ l, hasQ ts k = true := by
  unfold placesE
  constructor
  · intro h
    by_cases h1 : risI l = true
    · rw [if_pos h1] at h
      by_cases h2 : l.all (hasQ ts) = true
      · exact ⟨h1, List.all_eq_true.1 h2⟩
      · rw [if_neg h2] at h; cases h
    · rw [if_neg h1] at h; cases h
  · rintro ⟨h1, h2⟩
    rw [if_pos h1, if_pos (List.all_eq_true.2 h2)]
theorem found_zero : foundE ts (l.take 0) = 0 := by unfold foundE; simp
theorem found_yes (hx : l[j]? = some k) (h : getK Rn.id ts k = some r) : foundE ts (l.take (j + 1)) = foundE ts (l.take j) := by
  unfold foundE
  rw [List.take_add_one, hx, List.all_append]
  simp [hasQ, h]
theorem found_no (hx : l[j]? = some k) (h : getK Rn.id ts k = none) : foundE ts (l.take (j + 1)) = 4 := by
  unfold foundE
  rw [List.take_add_one, hx, List.all_append]
  simp [hasQ, h]
theorem map_on {g : Int → Int} (hx : l[j]? = some k) : (l.take (j + 1)).map g = (l.take j).map g ++ [g k] := by rw [List.take_add_one, hx, List.map_append]; rfl
theorem map_at {g : Int → Int} {p : Int} (hx : (l.map g)[j]? = some p) : ∃ k, l[j]? = some k ∧ p = g k := by
  rw [List.getElem?_map] at hx
  cases h : l[j]? with
  | none => rw [h] at hx; cases hx
  | some k => rw [h] at hx; exact ⟨k, rfl, (Option.some.inj hx).symm⟩
theorem altL_nil : altL f ts (l.take 0) = ts := by unfold altL; rw [List.take_zero]; simp
theorem altX_start : altX f ts e0 (l.take 0) = e0 := by
  unfold altX
  rw [List.take_zero]
  by_cases h : e0 = 0
  · rw [if_neg (by omega), h]; rfl
  · rw [if_pos h]
theorem altE_app : ∀ {a b : List Int}, altE f ts (a ++ b) = if altE f ts a ≠ 0 then altE f ts a else altE f ts b
  | [], b => by simp [altE]
  | k :: a, b => by
    have ih := @altE_app a b
    simp only [List.cons_append, altE]
    by_cases h : errF f ts k = 0
    · simp only [h, ne_eq, not_true_eq_false, if_false]; exact ih
    · simp only [ne_eq, h, not_false_eq_true, if_true]
theorem altX_e0 (h : altX f ts e0 l = 0) : e0 = 0 ∧ altE f ts l = 0 := by
  unfold altX at h
  by_cases h0 : e0 = 0
  · rw [if_neg (by omega)] at h; exact ⟨h0, h⟩
  · rw [if_pos h0] at h; omega
theorem altX_on (h : altX f ts e0 (l.take j) = 0) (hx : l[j]? = some k) (hg : getK Rn.id ts k = some r) : altX f ts e0 (l.take (j + 1)) = (f r).2 := by
  obtain ⟨h0, h1⟩ := altX_e0 h
  unfold altX
  rw [if_neg (by omega), List.take_add_one, hx, altE_app, h1]
  simp only [ne_eq, not_true_eq_false, if_false, Option.toList_some, altE, errF, hg]
  by_cases h2 : (f r).2 = 0
  · simp [h2]
  · simp [h2]
theorem altX_stop (h : ¬ altX f ts e0 (l.take j) = 0) : altX f ts e0 l = altX f ts e0 (l.take j) := by
  unfold altX at h ⊢
  by_cases h0 : e0 = 0
  · rw [if_neg (by omega)] at h ⊢
    rw [if_neg (by omega)]
    conv => lhs; rw [← List.take_append_drop j l]
    rw [altE_app, if_pos h]
  · rw [if_pos h0, if_pos h0]
theorem altX_ne {a b : List Int} (h0 : e0 ≠ 0) (h : altX f ts e0 a = e) : altX f ts e0 b = e := by unfold altX at h ⊢; rw [if_pos h0] at h ⊢; exact h
theorem altX_all (hj : l.length ≤ j) : altX f ts e0 (l.take j) = altX f ts e0 l := by rw [List.take_of_length_le hj]
/-- A round: the element that is changed is as it was. -/
theorem altL_get (hp : ts[i]? = some r) (hn : r.id ∉ l.take j) : (altL f ts (l.take j))[i]? = some r := by
  unfold altL
  rw [List.getElem?_map, hp]
  simp [hn]
theorem altL_on (hr : Ris Rn.id ts) (hp : ts[i]? = some r) (hx : l[j]? = some r.id) : altL f ts (l.take (j + 1)) = (altL f ts (l.take j)).set i (f r).1 := by
  apply List.ext_getElem?
  intro q
  unfold altL
  rw [List.getElem?_set, List.getElem?_map, List.getElem?_map, List.length_map]
  by_cases hq : i = q
  · subst hq
    have hi := (List.getElem?_eq_some_iff.1 hp).1
    rw [if_pos rfl, if_pos hi, hp, List.take_add_one, hx]
    simp
  · rw [if_neg hq]
    cases hz : ts[q]? with
    | none => rfl
    | some z =>
      have hne : ¬ z.id = r.id := fun he => hq (by
        rcases Nat.lt_trichotomy i q with h | h | h
        · have := hr.at h hp hz; omega
        · exact h
        · have := hr.at h hz hp; omega)
      simp only [Option.map_some, List.take_add_one, hx, Option.toList_some, List.mem_append, List.mem_singleton, hne, or_false]
theorem altS_eq {L A : List Rn} (hr : Ris Rn.id ts) (hp : ts[i]? = some r) (hx : l[j]? = some r.id) (hL : L = altL f ts (l.take j)) (hA : A = L.set i (f r).1) : A = altL f ts (l.take (j + 1)) := by rw [altL_on hr hp hx, hA, hL]
theorem altL_all (hj : l.length ≤ j) : altL f ts (l.take j) = altL f ts l := by rw [List.take_of_length_le hj]
theorem altL_len : (altL f ts l).length = ts.length := by unfold altL; rw [List.length_map]
theorem ris_fresh (h : Ris (fun x : Int => x) l) (hx : l[j]? = some k) : k ∉ l.take j := by
  intro hm
  obtain ⟨i, hi⟩ := List.mem_iff_getElem?.1 hm
  have hij : i < j := by
    have := (List.getElem?_eq_some_iff.1 hi).1
    simp only [List.length_take] at this
    omega
  rw [List.getElem?_take, if_pos hij] at hi
  have := h.at hij hi hx
  omega
/-- What a round of the changes knows. -/
theorem round_at {p : Int} (hg : GoodQ ts) (he : altX f ts (placesE ts l) (l.take j) = 0) (hx : (l.map (posI ts))[j]? = some p) :
    ∃ r, l[j]? = some r.id ∧ getK Rn.id ts r.id = some r ∧ 0 ≤ p ∧ p < ts.length ∧ ts[p.toNat]? = some r ∧ (altL f ts (l.take j))[p.toNat]? = some r := by
  obtain ⟨k, hk, rfl⟩ := map_at hx
  obtain ⟨h0, -⟩ := altX_e0 he
  obtain ⟨hri, hall⟩ := places_zero.1 h0
  have hh := hall k (List.mem_of_getElem? hk)
  unfold hasQ at hh
  cases hgk : getK Rn.id ts k with
  | none => rw [hgk] at hh; cases hh
  | some r =>
    obtain ⟨hm, hid⟩ := (getK_iff hg.rs).1 hgk
    subst hid
    have hp := pos_getK hg.rs hgk
    have hl := (List.getElem?_eq_some_iff.1 hp).1
    have e : (posI ts r.id).toNat = posK Rn.id ts r.id := by unfold posI; omega
    refine ⟨r, hk, hgk, by unfold posI; omega, by unfold posI; omega, by rw [e]; exact hp, by rw [e]; exact altL_get hp (ris_fresh (risI_iff.1 hri).1 hk)⟩
theorem alter_bad (h : chkQ ts = false) : alterV f ts ok l = ([], 200) := by unfold alterV; rw [h]; rfl
theorem alter_arg (h : chkQ ts = true) (h2 : ok = false) : alterV f ts ok l = ([], 2) := by unfold alterV; rw [if_pos h, h2]; rfl
theorem alter_err (h : chkQ ts = true) (h2 : ok = true) (h3 : ¬ altX f ts (placesE ts l) l = 0) : alterV f ts ok l = ([], altX f ts (placesE ts l) l) := by unfold alterV; rw [if_pos h, if_pos h2, if_pos h3]
theorem alter_ok (h : chkQ ts = true) (h2 : ok = true) (h3 : altX f ts (placesE ts l) l = 0) : alterV f ts ok l = (altL f ts l, 0) := by unfold alterV; rw [if_pos h, if_pos h2, if_neg (by omega)]
end
/- what is run, what is weighed -/
def runF (dt : Int) (r : Rn) : Rn × Int := (⟨r.id, r.each, (addV r.t (r.each * dt)).1.hi, (addV r.t (r.each * dt)).1.lo, (addV r.t (r.each * dt)).1.w⟩, (addV r.t (r.each * dt)).2)
def runB (dt : Int) : Bool := decide (0 ≤ dt ∧ dt ≤ 10000000)
def runV (ts : List Rn) (l : List Int) (dt : Int) : List Rn × Int := alterV (runF dt) ts (runB dt) l
def weighF (wt each : Int) (r : Rn) : Rn × Int := (⟨r.id, each, (overV r.t wt).1.hi, (overV r.t wt).1.lo, (overV r.t wt).1.w⟩, (overV r.t wt).2)
def weighV (ts : List Rn) (l : List Int) (wt each : Int) : List Rn × Int := alterV (weighF wt each) ts (wB wt && eachV each) l
theorem mul_each {e dt : Int} (h0 : 1 ≤ e) (h1 : e ≤ 8) (h2 : 0 ≤ dt) (h3 : dt ≤ 10000000) : 0 ≤ e * dt ∧ e * dt ≤ 80000000 := by
  refine ⟨Int.mul_nonneg (by omega) h2, ?_⟩
  have : e * dt ≤ 8 * dt := Int.mul_le_mul_of_nonneg_right h1 h2
  omega
end Go.Proofs.Ytnhkecfapohlgaa

/-! Who joins, who leaves; plain. -/
namespace Go.Proofs.Ytnhkecfapohlgaa
open Go Go.RowKit

def maxS (m y : Fq) : Fq := if 0 < cmpF y m then y else m
def maxL : List Fq → Fq
  | [] => zF
  | x :: l => l.foldl maxS x
abbrev greatV (a b : Fq) : Fq := maxS a b
def boundsV (t : Fq) (r : Rn) (boost : Int) : Fq × Fq × Int :=
  if (overV t r.tw).2 ≠ 0 then (zF, zF, (overV t r.tw).2)
  else if (lessV (overV t r.tw).1 (boost * r.each)).2 ≠ 0 then (zF, zF, (lessV (overV t r.tw).1 (boost * r.each)).2)
  else if (raiseV ⟨0, 0, r.tw⟩ t 268435456).2 ≠ 0 then (zF, zF, (raiseV ⟨0, 0, r.tw⟩ t 268435456).2)
  else (greatV (lessV (overV t r.tw).1 (boost * r.each)).1 (raiseV ⟨0, 0, r.tw⟩ t 268435456).1, (overV t r.tw).1, 0)
def timeV (s : Fq × Bool) (r : Rn) (boost : Int) : Fq × Int :=
  if s.2 = true then (if 0 < cmpF (greatV (boundsV s.1 r boost).1 r.t) (boundsV s.1 r boost).2.1 then (boundsV s.1 r boost).2.1 else greatV (boundsV s.1 r boost).1 r.t, (boundsV s.1 r boost).2.2) else (r.t, 0)
abbrev putR (ts : List Rn) (r : Rn) : List Rn := insK Rn.id ts r
def newR (ts : List Rn) (r : Rn) (boost : Int) : Rn := ⟨r.id, r.each, (timeV (topV ts) r boost).1.hi, (timeV (topV ts) r boost).1.lo, (timeV (topV ts) r boost).1.w⟩
def joinV (ts : List Rn) (r : Rn) (boost : Int) : List Rn × Int :=
  if 10000000 < boost then ([], if chkQ ts = true then 2 else 200)
  else if chkQ ts = true then (if rnB r = true then (if (getK Rn.id ts r.id).isSome = true then ([], 5) else if (timeV (topV ts) r boost).2 ≠ 0 then ([], (timeV (topV ts) r boost).2) else (putR ts (newR ts r boost), 0)) else ([], 2)) else ([], 200)
def leaveV (ts : List Rn) (k : Int) : List Rn × Option Rn × Int :=
  if chkQ ts = true then (if idV k = true then (match getK Rn.id ts k with | some r => (delK Rn.id ts k, some r, 0) | none => ([], none, 4)) else ([], none, 2)) else ([], none, 200)
section
variable {a b f t : Fq} {n w s boost k : Int} {ts : List Rn} {r x y : Rn} {l : List Fq} {z : Fq × Bool} {j : Nat}
theorem with_U (h0 : 0 ≤ n) (h1 : n < 340282366920938463463374607431768211456) (h2 : 0 ≤ w) (h3 : w < 18446744073709551616) : (withV w (hiV n) (loV n) 0).1.U := by
  unfold withV
  split
  · exact mk_U h0 h1 h2 h3
  · exact z_U
theorem add_U (hU : f.U) (h0 : 0 ≤ n) (h1 : n < 18446744073709551616) : (addV f n).1.U := by
  unfold addV
  split
  · rename_i h; have := add_r hU h h0 h1; exact with_U this.1 this.2 hU.w0 hU.w1
  · exact z_U
theorem less_U (hU : f.U) (h0 : 0 ≤ n) : (lessV f n).1.U := by
  unfold lessV
  split
  · rename_i h; have := less_r hU h h0; exact mk_U this.1 (by omega) hU.w0 hU.w1
  · exact z_U
theorem over_U (hU : f.U) : (overV f w).1.U := by
  unfold overV
  split
  · rename_i h
    split
    · rename_i hw; have := upN_r hU h hw; have h2 := wB_iff.1 hw; exact with_U this.1 this.2 (by omega) (by omega)
    · exact z_U
  · exact z_U
theorem raise_U (hU : f.U) (hV : t.U) (h0 : 0 ≤ s) : (raiseV f t s).1.U := by
  unfold raiseV
  split
  · rename_i h
    split
    · exact over_U (floor_U hV (and_r h) h0)
    · exact hU
  · exact z_U
theorem maxS_U (hU : a.U) (hV : b.U) : (maxS a b).U := by unfold maxS; split <;> assumption
theorem maxS_yes (h : 0 < cmpF b a) : maxS a b = b := by unfold maxS; rw [if_pos h]
theorem maxS_no (h : ¬ 0 < cmpF b a) : maxS a b = a := by unfold maxS; rw [if_neg h]
theorem two_U (ha : a.U) (hb : b.U) : ∀ x ∈ [a, b], x.U := by
  intro x hx
  simp only [List.mem_cons, List.not_mem_nil, or_false] at hx
  rcases hx with rfl | rfl <;> assumption
theorem max_start {m : Fq} (hx : l[0]? = some m) : maxL (l.take 1) = m := by
  cases l with
  | nil => cases hx
  | cons x l => simp at hx; subst hx; rfl
theorem max_on {m y : Fq} (hm : maxL (l.take j) = m) (h1 : 1 ≤ j) (hy : l[j]? = some y) : maxL (l.take (j + 1)) = maxS m y := by
  subst hm
  cases l with
  | nil => cases hy
  | cons x l =>
    obtain ⟨i, rfl⟩ : ∃ i, j = i + 1 := ⟨j - 1, by omega⟩
    simp only [List.getElem?_cons_succ] at hy
    show (l.take (i + 1)).foldl maxS x = maxS ((l.take i).foldl maxS x) y
    rw [List.take_add_one, hy, List.foldl_append]; rfl
theorem max_end (h : l.length ≤ j) : maxL (l.take j) = maxL l := by rw [List.take_of_length_le h]
theorem w_U (h0 : 0 ≤ w) (h1 : w < 18446744073709551616) : (⟨0, 0, w⟩ : Fq).U := ⟨Int.le_refl 0, by show (0:Int) < _; decide, Int.le_refl 0, by show (0:Int) < _; decide, h0, h1⟩
theorem bounds_1 (h : (overV t r.tw).2 ≠ 0) : boundsV t r boost = (zF, zF, (overV t r.tw).2) := by unfold boundsV; rw [if_pos h]
theorem bounds_2 (h : ¬ (overV t r.tw).2 ≠ 0) (h2 : (lessV (overV t r.tw).1 (boost * r.each)).2 ≠ 0) : boundsV t r boost = (zF, zF, (lessV (overV t r.tw).1 (boost * r.each)).2) := by unfold boundsV; rw [if_neg h, if_pos h2]
theorem bounds_3 (h : ¬ (overV t r.tw).2 ≠ 0) (h2 : ¬ (lessV (overV t r.tw).1 (boost * r.each)).2 ≠ 0) (h3 : (raiseV ⟨0, 0, r.tw⟩ t 268435456).2 ≠ 0) : boundsV t r boost = (zF, zF, (raiseV ⟨0, 0, r.tw⟩ t 268435456).2) := by unfold boundsV; rw [if_neg h, if_neg h2, if_pos h3]
theorem bounds_4 (h : ¬ (overV t r.tw).2 ≠ 0) (h2 : ¬ (lessV (overV t r.tw).1 (boost * r.each)).2 ≠ 0) (h3 : ¬ (raiseV ⟨0, 0, r.tw⟩ t 268435456).2 ≠ 0) : boundsV t r boost = (greatV (lessV (overV t r.tw).1 (boost * r.each)).1 (raiseV ⟨0, 0, r.tw⟩ t 268435456).1, (overV t r.tw).1, 0) := by unfold boundsV; rw [if_neg h, if_neg h2, if_neg h3]
theorem bounds_U (hV : t.U) (hr : r.U) (h0 : 0 ≤ boost * r.each) : (boundsV t r boost).1.U ∧ (boundsV t r boost).2.1.U := by
  unfold boundsV
  repeat' split
  · exact ⟨z_U, z_U⟩
  · exact ⟨z_U, z_U⟩
  · exact ⟨z_U, z_U⟩
  · exact ⟨maxS_U (less_U (over_U hV) h0) (raise_U (w_U hr.t.w0 hr.t.w1) hV (by decide)), over_U hV⟩
theorem time_none (h : z.2 = false) : timeV z r boost = (r.t, 0) := by unfold timeV; rw [h]; rfl
theorem time_hi (h : z.2 = true) (h2 : 0 < cmpF (greatV (boundsV z.1 r boost).1 r.t) (boundsV z.1 r boost).2.1) : timeV z r boost = ((boundsV z.1 r boost).2.1, (boundsV z.1 r boost).2.2) := by unfold timeV; rw [if_pos h, if_pos h2]
theorem time_lo (h : z.2 = true) (h2 : ¬ 0 < cmpF (greatV (boundsV z.1 r boost).1 r.t) (boundsV z.1 r boost).2.1) : timeV z r boost = (greatV (boundsV z.1 r boost).1 r.t, (boundsV z.1 r boost).2.2) := by unfold timeV; rw [if_pos h, if_neg h2]
theorem join_big (h : 10000000 < boost) : joinV ts r boost = ([], if chkQ ts = true then 2 else 200) := by unfold joinV; rw [if_pos h]
theorem join_bad (h : ¬ 10000000 < boost) (h2 : chkQ ts = false) : joinV ts r boost = ([], 200) := by unfold joinV; rw [if_neg h, h2]; rfl
theorem join_arg (h : ¬ 10000000 < boost) (h2 : chkQ ts = true) (h3 : rnB r = false) : joinV ts r boost = ([], 2) := by unfold joinV; rw [if_neg h, if_pos h2, h3]; rfl
theorem join_there (h : ¬ 10000000 < boost) (h2 : chkQ ts = true) (h3 : rnB r = true) (h4 : getK Rn.id ts r.id = some x) : joinV ts r boost = ([], 5) := by unfold joinV; rw [if_neg h, if_pos h2, if_pos h3, h4]; rfl
theorem join_err (h : ¬ 10000000 < boost) (h2 : chkQ ts = true) (h3 : rnB r = true) (h4 : getK Rn.id ts r.id = none) (h5 : (timeV (topV ts) r boost).2 ≠ 0) : joinV ts r boost = ([], (timeV (topV ts) r boost).2) := by unfold joinV; rw [if_neg h, if_pos h2, if_pos h3, h4]; simp [h5]
theorem join_ok (h : ¬ 10000000 < boost) (h2 : chkQ ts = true) (h3 : rnB r = true) (h4 : getK Rn.id ts r.id = none) (h5 : (timeV (topV ts) r boost).2 = 0) : joinV ts r boost = (putR ts (newR ts r boost), 0) := by unfold joinV; rw [if_neg h, if_pos h2, if_pos h3, h4]; simp [h5]
end
end Go.Proofs.Ytnhkecfapohlgaa

/-! The greatest of times; between which one is held. -/
namespace Go.Proofs.Ytnhkecfapohlgaa
open Go Go.RowKit

set_option maxRecDepth 100000 in
theorem maxf_t (p : Option Addr) (n cap : Nat) (l : List Fq) (w : World)
 (hsl : Sv w p l) (hn : n = l.length) (hb : n ≤ 1000)
 (h1 : 1 ≤ n) (hU : ∀ x ∈ l, x.U)
 : Calls Try.prog 81 #[.slice p n cap, .func (.func 13) #[] #[]] w fun e w' => e = .returned (.agg #[.int .u64 (maxL l).hi, .int .u64 (maxL l).lo, .int .u64 (maxL l).w]) ∧ Below w.heap.size w w' := by
 refine enter (Hs.start w) Try.func81 rfl Try.ntmps81 rfl (sq_ (ma0 [] [0, 1] (fun γ1 => [(4, .pointer (some ⟨γ1 0, 0, none⟩))]) (fun γ1 L => bx (γ1 0) (#[.int .u64 0, .int .u64 0, .int .u64 0]) 33 :: L) (fun γ1 => ds_ (sq_ (sq_ (qa [(2, .no)] [0, 1, 4] [(9, .bool false)] ([¬ (((n : Nat) : Int) < (1 : Int))]) (al1 (by omega)) (ds_ (f_ (at_skip (ds_ (sq_ ?_)))))))))))
 obtain ⟨b4, o4, rfl⟩ := hsl.pos (i := 0) (by omega)
 obtain ⟨x6, hx6⟩ := get_some (l := l) (m := 0) (by omega)
 have hUx6 := hU x6 (List.mem_of_getElem? hx6)
 refine ma [(1, .at b4 o4 0), (2, .go (outs b4 (o4 + 0 * 3) [.int .u64 x6.hi, .int .u64 x6.lo, .int .u64 x6.w])), (4, .go (owns 0 0 3))] [0, 1, 4] (fun γ7 => [(5, .pointer (some ⟨γ7 0, 0, none⟩))]) (fun γ7 L => bx (γ7 0) (#[.int .u64 x6.hi, .int .u64 x6.lo, .int .u64 x6.w]) 33 :: L) (fun γ7 => [(some ⟨b4, o4, none⟩ : Option Addr) = some ⟨b4, o4, none⟩, 0 = ((0 : Nat) : Int), 0 < n] ++ (cellsP w b4 (o4 + 0 * 3) [.int .u64 x6.hi, .int .u64 x6.lo, .int .u64 x6.w])) (fun γ7 => (alA (al2 rfl (al2 rfl (al1 (by omega)))) (rd_pre (hsl.get hx6) _ rfl))) (fun γ7 => ds_ (sq_ (sq_ (qa0 [] [0, 1, 4, 5] [(6, .int .i64 1)] (ds_ (at_block (at_loop (α := Nat × Fq) [0, 1, 4, 5, 6] (fun ⟨j, m⟩ => [(0, .slice (some ⟨b4, o4, none⟩) n cap), (1, .func (.func 13) #[] #[]), (4, .pointer (some ⟨γ1 0, 0, none⟩)), (5, .pointer (some ⟨γ7 0, 0, none⟩)), (6, .int .i64 (j : Nat))]) (fun ⟨j, m⟩ => [bx (γ7 0) (#[.int .u64 m.hi, .int .u64 m.lo, .int .u64 m.w]) 33, bx (γ1 0) (#[.int .u64 0, .int .u64 0, .int .u64 0]) 33]) (fun ⟨j, m⟩ => 1 ≤ j ∧ j ≤ n ∧ maxL (l.take j) = m ∧ m.U) (fun ⟨j, m⟩ => n - j) (1, x6) (by kernel_rfl) rfl ⟨Nat.le_refl _, h1, max_start hx6, hUx6⟩ ?_)))))))
 rintro ⟨j, m⟩
 rintro ⟨h1, hj, hm, hUm⟩
 refine sq_ (sq_ ?_)
 by_cases q10 : ((j : Nat) : Int) < ((n : Nat) : Int)
 ·
  refine qa [(3, .yes)] [0, 1, 4, 5, 6] [(17, .bool true)] ([((j : Nat) : Int) < ((n : Nat) : Int)]) (al1 q10) (ds_ (t_ (at_skip (ds_ (sq_ (at_block (sq_ ?_)))))))
  obtain ⟨x13, hx13⟩ := get_some (l := l) (m := j) (by omega)
  have hUx13 := hU x13 (List.mem_of_getElem? hx13)
  refine at_calm rfl (by kernel_rfl) (by kernel_rfl) ?_
  refine cm 6 [(3, .at b4 o4 j), (4, .go (outs b4 (o4 + j * 3) [.int .u64 x13.hi, .int .u64 x13.lo, .int .u64 x13.w])), (5, .go (owns 0 0 3))] [0, 1, 4, 5, 6] [(20, .func (.func 13) #[] #[]), (24, .agg #[.int .u64 x13.hi, .int .u64 x13.lo, .int .u64 x13.w]), (25, .agg #[.int .u64 m.hi, .int .u64 m.lo, .int .u64 m.w])] ([(some ⟨b4, o4, none⟩ : Option Addr) = some ⟨b4, o4, none⟩, (j : Nat) = ((j : Nat) : Int), j < n] ++ (cellsP w b4 (o4 + j * 3) [.int .u64 x13.hi, .int .u64 x13.lo, .int .u64 x13.w])) (by kernel_rfl) rfl (alA (al2 rfl (al2 rfl (al1 (by omega)))) (rd_pre (hsl.get hx13) _ rfl)) ?_
  refine cK (.int .i64 (cmpF x13 m)) Try.call13 (fun w hw => fcmp_t x13 m w hUx13 hUm) ?_
  by_cases q16 : ((cmpF x13 m) : Int) > (0 : Int)
  ·
   refine cm 1 [(7, .yes)] [0, 1, 4, 5, 6] [(27, .bool true)] ([((cmpF x13 m) : Int) > (0 : Int)]) (by kernel_rfl) rfl (al1 q16) ?_
   refine calm_nil' ?_
   refine ds_ (t_ (ma [(2, .at b4 o4 j), (3, .go (outs b4 (o4 + j * 3) [.int .u64 x13.hi, .int .u64 x13.lo, .int .u64 x13.w])), (4, .go (owns 0 0 3))] [0, 1, 4, 5, 6] (fun _ => []) (fun _ L => (L.set 0 (bx (γ7 0) (#[.int .u64 x13.hi, .int .u64 x13.lo, .int .u64 x13.w]) 33))) (fun _ => [(some ⟨b4, o4, none⟩ : Option Addr) = some ⟨b4, o4, none⟩, (j : Nat) = ((j : Nat) : Int), j < n] ++ (cellsP w b4 (o4 + j * 3) [.int .u64 x13.hi, .int .u64 x13.lo, .int .u64 x13.w])) (fun _ => (alA (al2 rfl (al2 rfl (al1 (by omega)))) (rd_pre (hsl.get hx13) _ rfl))) (fun _ => done_block (ds_ (qa [(1, .fit)] [0, 1, 4, 5] [(6, .int .i64 (j + 1 : Nat))] ([Fit .i64 ((j + 1 : Nat))]) (al1 (fit64 (by omega) (by omega))) ?_)))))
   exact dr [0, 1, 4, 5, 6] (j + 1, x13) ⟨by omega, by omega, by rw [max_on hm h1 hx13, maxS_yes (by omega)], hUx13⟩
  ·
   refine cm 1 [(7, .no)] [0, 1, 4, 5, 6] [(27, .bool false)] ([¬ (((cmpF x13 m) : Int) > (0 : Int))]) (by kernel_rfl) rfl (al1 q16) ?_
   refine calm_nil' ?_
   refine ds_ (f_ (at_skip (done_block (ds_ (qa [(1, .fit)] [0, 1, 4, 5] [(6, .int .i64 (j + 1 : Nat))] ([Fit .i64 ((j + 1 : Nat))]) (al1 (fit64 (by omega) (by omega))) ?_)))))
   exact dr [0, 1, 4, 5, 6] (j + 1, m) ⟨by omega, by omega, by rw [max_on hm h1 hx13, maxS_no (by omega)], hUm⟩
 ·
  refine qa [(3, .no)] [0, 1, 4, 5, 6] [(17, .bool false)] ([¬ (((j : Nat) : Int) < ((n : Nat) : Int))]) (al1 q10) (ds_ (f_ (at_leave _ rfl (ds_ (sq_ (ma0 [(0, .go (owns 0 0 3)), (1, .go (owns 1 0 3))] [4] (fun _ => []) (fun _ L => (L.set 1 (bx (γ1 0) (#[.int .u64 m.hi, .int .u64 m.lo, .int .u64 m.w]) 33))) (fun _ => ds_ (rt (owns 1 0 3) (.agg #[.int .u64 m.hi, .int .u64 m.lo, .int .u64 m.w]) ?_))))))))
  exact fun w' hw => ⟨by rw [← max_end (l := l) (j := j) (by omega), hm], hw.below⟩

set_option maxRecDepth 100000 in
theorem great_t (p : Option Addr) (n cap : Nat) (l : List Fq) (w : World)
 (hsl : Sv w p l) (hn : n = l.length) (hb : n ≤ 1000)
 (h1 : 1 ≤ n) (hU : ∀ x ∈ l, x.U)
 : Calls Try.prog 62 #[.slice p n cap] w fun e w' => e = .returned (.agg #[.int .u64 (maxL l).hi, .int .u64 (maxL l).lo, .int .u64 (maxL l).w]) ∧ Below w.heap.size w w' := by
 refine enter (Hs.start w) Try.func62 rfl Try.ntmps62 rfl (sq_ (ma0 [] [0] (fun γ1 => [(2, .pointer (some ⟨γ1 0, 0, none⟩))]) (fun γ1 L => bx (γ1 0) (#[.int .u64 0, .int .u64 0, .int .u64 0]) 33 :: L) (fun γ1 => ds_ (sq_ (ao_ (qo0 1 [] [2] [(3, .slice p n cap)] (cD (.agg #[.int .u64 ((maxL l).hi), .int .u64 ((maxL l).lo), .int .u64 ((maxL l).w)]) Try.call81 (fun w hw => maxf_t p n cap l w (hsl.kept hw.below) hn hb h1 hU) (mo0 1 [(2, .go (owns 0 0 3))] [2] (fun _ => []) (fun _ L => (L.set 0 (bx (γ1 0) (#[.int .u64 ((maxL l).hi), .int .u64 ((maxL l).lo), .int .u64 ((maxL l).w)]) 33))) (fun _ => on_ (ds_ (rt (owns 0 0 3) (.agg #[.int .u64 ((maxL l).hi), .int .u64 ((maxL l).lo), .int .u64 ((maxL l).w)]) ?_)))))))))))
 exact fun w' hw => ⟨rfl, hw.below⟩

set_option maxRecDepth 100000 in
theorem bounds_t (t : Fq) (r : Rn) (boost : Int) (w : World)
 (hU : t.U) (hr : r.U) (he0 : 0 ≤ r.each) (he1 : r.each ≤ 8) (hm0 : 0 ≤ boost * r.each) (hm1 : boost * r.each ≤ 80000000)
 : Calls Try.prog 61 #[.agg #[.int .u64 t.hi, .int .u64 t.lo, .int .u64 t.w], .agg #[.int .i64 r.id, .int .i64 r.each, .int .u64 r.th, .int .u64 r.tl, .int .u64 r.tw], .int .u64 boost] w fun e w' => e = .returned (.tuple #[.agg #[.int .u64 (boundsV t r boost).1.hi, .int .u64 (boundsV t r boost).1.lo, .int .u64 (boundsV t r boost).1.w], .agg #[.int .u64 (boundsV t r boost).2.1.hi, .int .u64 (boundsV t r boost).2.1.lo, .int .u64 (boundsV t r boost).2.1.w], .int .i64 (boundsV t r boost).2.2]) ∧ Below w.heap.size w w' := by
 refine enter (Hs.start w) Try.func61 rfl Try.ntmps61 rfl (sq_ (ma0 [] [2] (fun γ1 => [(3, .pointer (some ⟨γ1 0, 0, none⟩)), (4, .pointer (some ⟨γ1 1, 0, none⟩)), (6, .pointer (some ⟨γ1 2, 0, none⟩)), (7, .pointer (some ⟨γ1 3, 0, none⟩))]) (fun γ1 L => bx (γ1 3) (#[.int .u64 0, .int .u64 0, .int .u64 0]) 33 :: bx (γ1 2) (#[.int .u64 0, .int .u64 0, .int .u64 0]) 33 :: bx (γ1 1) (#[.int .i64 r.id, .int .i64 r.each, .int .u64 r.th, .int .u64 r.tl, .int .u64 r.tw]) 35 :: bx (γ1 0) (#[.int .u64 t.hi, .int .u64 t.lo, .int .u64 t.w]) 33 :: L) (fun γ1 => ds_ (sq_ (ao_ (qo0 4 [(0, .go (owns 3 0 3)), (3, .go (owns 2 4 1))] [2, 3, 4, 6, 7] [(13, .agg #[.int .u64 t.hi, .int .u64 t.lo, .int .u64 t.w]), (16, .int .u64 r.tw)] (cD (.tuple #[.agg #[.int .u64 ((overV t r.tw).1.hi), .int .u64 ((overV t r.tw).1.lo), .int .u64 ((overV t r.tw).1.w)], .int .i64 ((overV t r.tw).2)]) Try.call38 (fun w hw => fover_t t r.tw w hU) (mo0 6 [(9, .go (owns 0 0 3))] [2, 3, 4, 6, 7] (fun γ3 => [(8, .int .i64 ((overV t r.tw).2)), (9, .pointer (some ⟨γ3 0, 0, none⟩))]) (fun γ3 L => bx (γ3 0) (#[.int .u64 ((overV t r.tw).1.hi), .int .u64 ((overV t r.tw).1.lo), .int .u64 ((overV t r.tw).1.w)]) 33 :: L) (fun γ3 => on_ (ds_ (sq_ (sq_ ?_))))))))))))
 by_cases q5 : ((overV t r.tw).2 : Int) ≠ (0 : Int)
 ·
  refine qa [(1, .yes)] [2, 3, 4, 6, 7, 8, 9] [(21, .bool true)] ([((overV t r.tw).2 : Int) ≠ (0 : Int)]) (al1 q5) (ds_ (t_ (sq_ ?_)))
  refine at_any (by kernel_rfl) ?_
  refine tk (m := 5) [2] [] [6, 7, 8] [(24, .int .i64 ((overV t r.tw).2))] ([]) #[false, false, true, false, false, false] al0 ?_
  refine any_cut 2 #[true, true, true, true, false, false] ([(6, .pointer (some ⟨γ1 2, 0, none⟩)), (7, .pointer (some ⟨γ1 3, 0, none⟩)), (8, .int .i64 ((overV t r.tw).2)), (23, .agg #[.int .u64 0, .int .u64 0, .int .u64 0]), (24, .int .i64 ((overV t r.tw).2))]) ([bx (γ3 0) (#[.int .u64 ((overV t r.tw).1.hi), .int .u64 ((overV t r.tw).1.lo), .int .u64 ((overV t r.tw).1.w)]) 33, bx (γ1 3) (#[.int .u64 0, .int .u64 0, .int .u64 0]) 33, bx (γ1 2) (#[.int .u64 0, .int .u64 0, .int .u64 0]) 33, bx (γ1 1) (#[.int .i64 r.id, .int .i64 r.each, .int .u64 r.th, .int .u64 r.tl, .int .u64 r.tw]) 35, bx (γ1 0) (#[.int .u64 t.hi, .int .u64 t.lo, .int .u64 t.w]) 33]) ?_ (fun hm => ?_)
  rotate_left
  ·
   refine any_fork [0, 1] (by kernel_rfl) (by simp) (each_cons _ rfl ?_ (each_cons _ rfl ?_ (each_nil)))
   ·
    refine qo0 1 [(0, .go (owns 2 0 3))] [6, 7, 8, 24] [(22, .agg #[.int .u64 0, .int .u64 0, .int .u64 0])] ?_
    refine od_ ?_
    refine any_fork [1, 3] (by kernel_rfl) (by simp) (each_cons _ rfl ?_ (each_cons _ rfl ?_ (each_nil)))
    ·
     refine qo0 1 [(1, .go (owns 1 0 3))] [6, 7, 8, 22, 24] [(23, .agg #[.int .u64 0, .int .u64 0, .int .u64 0])] ?_
     refine od_ ?_
     refine a1 3 rfl ?_
     refine qo0 1 [(3, .go (owns 2 0 3))] [6, 7, 8, 23, 24] [] ?_
     refine od_ ?_
     exact any_weak hm [6, 7, 8, 23, 24] (by kernel_rfl) rfl rfl rfl
    ·
     refine qo0 1 [(3, .go (owns 2 0 3))] [6, 7, 8, 24] [] ?_
     refine od_ ?_
     refine a1 1 rfl ?_
     refine qo0 1 [(1, .go (owns 1 0 3))] [6, 7, 8, 24] [(23, .agg #[.int .u64 0, .int .u64 0, .int .u64 0])] ?_
     refine od_ ?_
     exact any_weak hm [6, 7, 8, 23, 24] (by kernel_rfl) rfl rfl rfl
   ·
    refine qo0 1 [(1, .go (owns 1 0 3))] [6, 7, 8, 24] [(23, .agg #[.int .u64 0, .int .u64 0, .int .u64 0])] ?_
    refine od_ ?_
    refine a1 0 rfl ?_
    refine qo0 1 [(0, .go (owns 2 0 3))] [6, 7, 8, 23, 24] [(22, .agg #[.int .u64 0, .int .u64 0, .int .u64 0])] ?_
    refine od_ ?_
    refine a1 3 rfl ?_
    refine qo0 1 [(3, .go (owns 2 0 3))] [6, 7, 8, 23, 24] [] ?_
    refine od_ ?_
    exact any_weak hm [6, 7, 8, 23, 24] (by kernel_rfl) rfl rfl rfl
  refine a1 4 rfl ?_
  refine qo0 1 [(4, .go (owns 1 0 3))] [6, 7, 8, 24] [] ?_
  refine od_ ?_
  refine tk (m := 0) [5] [] [6, 7] [(8, .int .i64 ((overV t r.tw).2))] ([]) #[true, true, true, true, true, true] al0 ?_
  refine any_nil (by kernel_rfl) ?_
  refine ds_ (rt (owns 2 0 3 ++ owns 1 0 3) (.tuple #[.agg #[.int .u64 0, .int .u64 0, .int .u64 0], .agg #[.int .u64 0, .int .u64 0, .int .u64 0], .int .i64 ((overV t r.tw).2)]) ?_)
  exact fun w' hw => ⟨by rw [bounds_1 q5], hw.below⟩
 ·
  refine qa [(1, .no)] [2, 3, 4, 6, 7, 8, 9] [(21, .bool false)] ([¬ (((overV t r.tw).2 : Int) ≠ (0 : Int))]) (al1 q5) (ds_ (f_ (at_skip (ds_ (sq_ (ao_ (qo 6 [(0, .go (owns 0 0 3)), (3, .go (owns 3 1 1)), (4, .fit), (5, .fit)] [3, 4, 6, 7, 9] [(26, .agg #[.int .u64 ((overV t r.tw).1.hi), .int .u64 ((overV t r.tw).1.lo), .int .u64 ((overV t r.tw).1.w)]), (31, .int .u64 (boost * r.each))] ([Fit .u64 (r.each)] ++ ([Fit .u64 (boost * r.each)])) (alA (al1 (fitU (by omega) (by omega))) (al1 (fitU (by omega) (by omega)))) (cD (.tuple #[.agg #[.int .u64 ((lessV ((overV t r.tw).1) (boost * r.each)).1.hi), .int .u64 ((lessV ((overV t r.tw).1) (boost * r.each)).1.lo), .int .u64 ((lessV ((overV t r.tw).1) (boost * r.each)).1.w)], .int .i64 ((lessV ((overV t r.tw).1) (boost * r.each)).2)]) Try.call14 (fun w hw => fless_t ((overV t r.tw).1) (boost * r.each) w (over_U hU) (by omega) (by omega)) (mo0 6 [(11, .go (owns 0 0 3))] [3, 4, 6, 7, 9] (fun γ25 => [(8, .int .i64 ((lessV ((overV t r.tw).1) (boost * r.each)).2)), (10, .pointer (some ⟨γ25 0, 0, none⟩))]) (fun γ25 L => bx (γ25 0) (#[.int .u64 ((lessV ((overV t r.tw).1) (boost * r.each)).1.hi), .int .u64 ((lessV ((overV t r.tw).1) (boost * r.each)).1.lo), .int .u64 ((lessV ((overV t r.tw).1) (boost * r.each)).1.w)]) 33 :: L) (fun γ25 => on_ (ds_ (sq_ (sq_ ?_)))))))))))))
  by_cases q27 : ((lessV ((overV t r.tw).1) (boost * r.each)).2 : Int) ≠ (0 : Int)
  ·
   refine qa [(1, .yes)] [3, 4, 6, 7, 8, 9, 10] [(36, .bool true)] ([((lessV ((overV t r.tw).1) (boost * r.each)).2 : Int) ≠ (0 : Int)]) (al1 q27) (ds_ (t_ (sq_ ?_)))
   refine at_any (by kernel_rfl) ?_
   refine tk (m := 5) [2] [] [6, 7, 8] [(39, .int .i64 ((lessV ((overV t r.tw).1) (boost * r.each)).2))] ([]) #[false, false, true, false, false, false] al0 ?_
   refine any_cut 2 #[true, true, true, true, false, false] ([(6, .pointer (some ⟨γ1 2, 0, none⟩)), (7, .pointer (some ⟨γ1 3, 0, none⟩)), (8, .int .i64 ((lessV ((overV t r.tw).1) (boost * r.each)).2)), (38, .agg #[.int .u64 0, .int .u64 0, .int .u64 0]), (39, .int .i64 ((lessV ((overV t r.tw).1) (boost * r.each)).2))]) ([bx (γ25 0) (#[.int .u64 ((lessV ((overV t r.tw).1) (boost * r.each)).1.hi), .int .u64 ((lessV ((overV t r.tw).1) (boost * r.each)).1.lo), .int .u64 ((lessV ((overV t r.tw).1) (boost * r.each)).1.w)]) 33, bx (γ3 0) (#[.int .u64 ((overV t r.tw).1.hi), .int .u64 ((overV t r.tw).1.lo), .int .u64 ((overV t r.tw).1.w)]) 33, bx (γ1 3) (#[.int .u64 0, .int .u64 0, .int .u64 0]) 33, bx (γ1 2) (#[.int .u64 0, .int .u64 0, .int .u64 0]) 33, bx (γ1 1) (#[.int .i64 r.id, .int .i64 r.each, .int .u64 r.th, .int .u64 r.tl, .int .u64 r.tw]) 35, bx (γ1 0) (#[.int .u64 t.hi, .int .u64 t.lo, .int .u64 t.w]) 33]) ?_ (fun hm => ?_)
   rotate_left
   ·
    refine any_fork [0, 1] (by kernel_rfl) (by simp) (each_cons _ rfl ?_ (each_cons _ rfl ?_ (each_nil)))
    ·
     refine qo0 1 [(0, .go (owns 3 0 3))] [6, 7, 8, 39] [(37, .agg #[.int .u64 0, .int .u64 0, .int .u64 0])] ?_
     refine od_ ?_
     refine any_fork [1, 3] (by kernel_rfl) (by simp) (each_cons _ rfl ?_ (each_cons _ rfl ?_ (each_nil)))
     ·
      refine qo0 1 [(1, .go (owns 2 0 3))] [6, 7, 8, 37, 39] [(38, .agg #[.int .u64 0, .int .u64 0, .int .u64 0])] ?_
      refine od_ ?_
      refine a1 3 rfl ?_
      refine qo0 1 [(3, .go (owns 3 0 3))] [6, 7, 8, 38, 39] [] ?_
      refine od_ ?_
      exact any_weak hm [6, 7, 8, 38, 39] (by kernel_rfl) rfl rfl rfl
     ·
      refine qo0 1 [(3, .go (owns 3 0 3))] [6, 7, 8, 39] [] ?_
      refine od_ ?_
      refine a1 1 rfl ?_
      refine qo0 1 [(1, .go (owns 2 0 3))] [6, 7, 8, 39] [(38, .agg #[.int .u64 0, .int .u64 0, .int .u64 0])] ?_
      refine od_ ?_
      exact any_weak hm [6, 7, 8, 38, 39] (by kernel_rfl) rfl rfl rfl
    ·
     refine qo0 1 [(1, .go (owns 2 0 3))] [6, 7, 8, 39] [(38, .agg #[.int .u64 0, .int .u64 0, .int .u64 0])] ?_
     refine od_ ?_
     refine a1 0 rfl ?_
     refine qo0 1 [(0, .go (owns 3 0 3))] [6, 7, 8, 38, 39] [(37, .agg #[.int .u64 0, .int .u64 0, .int .u64 0])] ?_
     refine od_ ?_
     refine a1 3 rfl ?_
     refine qo0 1 [(3, .go (owns 3 0 3))] [6, 7, 8, 38, 39] [] ?_
     refine od_ ?_
     exact any_weak hm [6, 7, 8, 38, 39] (by kernel_rfl) rfl rfl rfl
   refine a1 4 rfl ?_
   refine qo0 1 [(4, .go (owns 2 0 3))] [6, 7, 8, 39] [] ?_
   refine od_ ?_
   refine tk (m := 0) [5] [] [6, 7] [(8, .int .i64 ((lessV ((overV t r.tw).1) (boost * r.each)).2))] ([]) #[true, true, true, true, true, true] al0 ?_
   refine any_nil (by kernel_rfl) ?_
   refine ds_ (rt (owns 3 0 3 ++ owns 2 0 3) (.tuple #[.agg #[.int .u64 0, .int .u64 0, .int .u64 0], .agg #[.int .u64 0, .int .u64 0, .int .u64 0], .int .i64 ((lessV ((overV t r.tw).1) (boost * r.each)).2)]) ?_)
   exact fun w' hw => ⟨by rw [bounds_2 q5 q27], hw.below⟩
  ·
   refine qa [(1, .no)] [3, 4, 6, 7, 8, 9, 10] [(36, .bool false)] ([¬ (((lessV ((overV t r.tw).1) (boost * r.each)).2 : Int) ≠ (0 : Int))]) (al1 q27) (ds_ (f_ (at_skip (ds_ (sq_ (ao_ (qo0 5 [(2, .go (owns 4 4 1)), (4, .go (owns 5 0 3))] [6, 7, 9, 10] [(44, .agg #[.int .u64 0, .int .u64 0, .int .u64 r.tw]), (45, .agg #[.int .u64 t.hi, .int .u64 t.lo, .int .u64 t.w])] (cD (.tuple #[.agg #[.int .u64 ((raiseV (⟨0, 0, r.tw⟩ : Fq) t 268435456).1.hi), .int .u64 ((raiseV (⟨0, 0, r.tw⟩ : Fq) t 268435456).1.lo), .int .u64 ((raiseV (⟨0, 0, r.tw⟩ : Fq) t 268435456).1.w)], .int .i64 ((raiseV (⟨0, 0, r.tw⟩ : Fq) t 268435456).2)]) Try.call64 (fun w hw => fraise_t (⟨0, 0, r.tw⟩ : Fq) t 268435456 w (w_U hr.t.w0 hr.t.w1) hU (by omega) (by omega)) (mo0 6 [(10, .go (owns 0 0 3))] [6, 7, 9, 10] (fun γ47 => [(8, .int .i64 ((raiseV (⟨0, 0, r.tw⟩ : Fq) t 268435456).2)), (11, .pointer (some ⟨γ47 0, 0, none⟩))]) (fun γ47 L => bx (γ47 0) (#[.int .u64 ((raiseV (⟨0, 0, r.tw⟩ : Fq) t 268435456).1.hi), .int .u64 ((raiseV (⟨0, 0, r.tw⟩ : Fq) t 268435456).1.lo), .int .u64 ((raiseV (⟨0, 0, r.tw⟩ : Fq) t 268435456).1.w)]) 33 :: L) (fun γ47 => on_ (ds_ (sq_ (sq_ ?_)))))))))))))
   by_cases q49 : ((raiseV (⟨0, 0, r.tw⟩ : Fq) t 268435456).2 : Int) ≠ (0 : Int)
   ·
    refine qa [(1, .yes)] [6, 7, 8, 9, 10, 11] [(50, .bool true)] ([((raiseV (⟨0, 0, r.tw⟩ : Fq) t 268435456).2 : Int) ≠ (0 : Int)]) (al1 q49) (ds_ (t_ (sq_ ?_)))
    refine at_any (by kernel_rfl) ?_
    refine tk (m := 5) [2] [] [6, 7, 8] [(53, .int .i64 ((raiseV (⟨0, 0, r.tw⟩ : Fq) t 268435456).2))] ([]) #[false, false, true, false, false, false] al0 ?_
    refine any_cut 2 #[true, true, true, true, false, false] ([(6, .pointer (some ⟨γ1 2, 0, none⟩)), (7, .pointer (some ⟨γ1 3, 0, none⟩)), (8, .int .i64 ((raiseV (⟨0, 0, r.tw⟩ : Fq) t 268435456).2)), (52, .agg #[.int .u64 0, .int .u64 0, .int .u64 0]), (53, .int .i64 ((raiseV (⟨0, 0, r.tw⟩ : Fq) t 268435456).2))]) ([bx (γ47 0) (#[.int .u64 ((raiseV (⟨0, 0, r.tw⟩ : Fq) t 268435456).1.hi), .int .u64 ((raiseV (⟨0, 0, r.tw⟩ : Fq) t 268435456).1.lo), .int .u64 ((raiseV (⟨0, 0, r.tw⟩ : Fq) t 268435456).1.w)]) 33, bx (γ25 0) (#[.int .u64 ((lessV ((overV t r.tw).1) (boost * r.each)).1.hi), .int .u64 ((lessV ((overV t r.tw).1) (boost * r.each)).1.lo), .int .u64 ((lessV ((overV t r.tw).1) (boost * r.each)).1.w)]) 33, bx (γ3 0) (#[.int .u64 ((overV t r.tw).1.hi), .int .u64 ((overV t r.tw).1.lo), .int .u64 ((overV t r.tw).1.w)]) 33, bx (γ1 3) (#[.int .u64 0, .int .u64 0, .int .u64 0]) 33, bx (γ1 2) (#[.int .u64 0, .int .u64 0, .int .u64 0]) 33, bx (γ1 1) (#[.int .i64 r.id, .int .i64 r.each, .int .u64 r.th, .int .u64 r.tl, .int .u64 r.tw]) 35, bx (γ1 0) (#[.int .u64 t.hi, .int .u64 t.lo, .int .u64 t.w]) 33]) ?_ (fun hm => ?_)
    rotate_left
    ·
     refine any_fork [0, 1] (by kernel_rfl) (by simp) (each_cons _ rfl ?_ (each_cons _ rfl ?_ (each_nil)))
     ·
      refine qo0 1 [(0, .go (owns 4 0 3))] [6, 7, 8, 53] [(51, .agg #[.int .u64 0, .int .u64 0, .int .u64 0])] ?_
      refine od_ ?_
      refine any_fork [1, 3] (by kernel_rfl) (by simp) (each_cons _ rfl ?_ (each_cons _ rfl ?_ (each_nil)))
      ·
       refine qo0 1 [(1, .go (owns 3 0 3))] [6, 7, 8, 51, 53] [(52, .agg #[.int .u64 0, .int .u64 0, .int .u64 0])] ?_
       refine od_ ?_
       refine a1 3 rfl ?_
       refine qo0 1 [(3, .go (owns 4 0 3))] [6, 7, 8, 52, 53] [] ?_
       refine od_ ?_
       exact any_weak hm [6, 7, 8, 52, 53] (by kernel_rfl) rfl rfl rfl
      ·
       refine qo0 1 [(3, .go (owns 4 0 3))] [6, 7, 8, 53] [] ?_
       refine od_ ?_
       refine a1 1 rfl ?_
       refine qo0 1 [(1, .go (owns 3 0 3))] [6, 7, 8, 53] [(52, .agg #[.int .u64 0, .int .u64 0, .int .u64 0])] ?_
       refine od_ ?_
       exact any_weak hm [6, 7, 8, 52, 53] (by kernel_rfl) rfl rfl rfl
     ·
      refine qo0 1 [(1, .go (owns 3 0 3))] [6, 7, 8, 53] [(52, .agg #[.int .u64 0, .int .u64 0, .int .u64 0])] ?_
      refine od_ ?_
      refine a1 0 rfl ?_
      refine qo0 1 [(0, .go (owns 4 0 3))] [6, 7, 8, 52, 53] [(51, .agg #[.int .u64 0, .int .u64 0, .int .u64 0])] ?_
      refine od_ ?_
      refine a1 3 rfl ?_
      refine qo0 1 [(3, .go (owns 4 0 3))] [6, 7, 8, 52, 53] [] ?_
      refine od_ ?_
      exact any_weak hm [6, 7, 8, 52, 53] (by kernel_rfl) rfl rfl rfl
    refine a1 4 rfl ?_
    refine qo0 1 [(4, .go (owns 3 0 3))] [6, 7, 8, 53] [] ?_
    refine od_ ?_
    refine tk (m := 0) [5] [] [6, 7] [(8, .int .i64 ((raiseV (⟨0, 0, r.tw⟩ : Fq) t 268435456).2))] ([]) #[true, true, true, true, true, true] al0 ?_
    refine any_nil (by kernel_rfl) ?_
    refine ds_ (rt (owns 4 0 3 ++ owns 3 0 3) (.tuple #[.agg #[.int .u64 0, .int .u64 0, .int .u64 0], .agg #[.int .u64 0, .int .u64 0, .int .u64 0], .int .i64 ((raiseV (⟨0, 0, r.tw⟩ : Fq) t 268435456).2)]) ?_)
    exact fun w' hw => ⟨by rw [bounds_3 q5 q27 q49], hw.below⟩
   ·
    refine qa [(1, .no)] [6, 7, 8, 9, 10, 11] [(50, .bool false)] ([¬ (((raiseV (⟨0, 0, r.tw⟩ : Fq) t 268435456).2 : Int) ≠ (0 : Int))]) (al1 q49) (ds_ (f_ (at_skip (ds_ (sq_ ?_)))))
    refine at_any (by kernel_rfl) ?_
    refine any_cutX (V := (Nat → Nat)) (fun γ110 => True) 0 #[true, true, true, true, true, true, true, true] (fun γ110 => [(6, .pointer (some ⟨γ1 2, 0, none⟩)), (7, .pointer (some ⟨γ1 3, 0, none⟩)), (8, .int .i64 0)]) (fun γ110 => [bx (γ110 0) (#[.int .u64 ((lessV ((overV t r.tw).1) (boost * r.each)).1.hi), .int .u64 ((lessV ((overV t r.tw).1) (boost * r.each)).1.lo), .int .u64 ((lessV ((overV t r.tw).1) (boost * r.each)).1.w), .int .u64 ((raiseV (⟨0, 0, r.tw⟩ : Fq) t 268435456).1.hi), .int .u64 ((raiseV (⟨0, 0, r.tw⟩ : Fq) t 268435456).1.lo), .int .u64 ((raiseV (⟨0, 0, r.tw⟩ : Fq) t 268435456).1.w)]) 33, bx (γ47 0) (#[.int .u64 ((raiseV (⟨0, 0, r.tw⟩ : Fq) t 268435456).1.hi), .int .u64 ((raiseV (⟨0, 0, r.tw⟩ : Fq) t 268435456).1.lo), .int .u64 ((raiseV (⟨0, 0, r.tw⟩ : Fq) t 268435456).1.w)]) 33, bx (γ25 0) (#[.int .u64 ((lessV ((overV t r.tw).1) (boost * r.each)).1.hi), .int .u64 ((lessV ((overV t r.tw).1) (boost * r.each)).1.lo), .int .u64 ((lessV ((overV t r.tw).1) (boost * r.each)).1.w)]) 33, bx (γ3 0) (#[.int .u64 ((overV t r.tw).1.hi), .int .u64 ((overV t r.tw).1.lo), .int .u64 ((overV t r.tw).1.w)]) 33, bx (γ1 3) (#[.int .u64 ((overV t r.tw).1.hi), .int .u64 ((overV t r.tw).1.lo), .int .u64 ((overV t r.tw).1.w)]) 33, bx (γ1 2) (#[.int .u64 ((greatV ((lessV ((overV t r.tw).1) (boost * r.each)).1) ((raiseV (⟨0, 0, r.tw⟩ : Fq) t 268435456).1)).hi), .int .u64 ((greatV ((lessV ((overV t r.tw).1) (boost * r.each)).1) ((raiseV (⟨0, 0, r.tw⟩ : Fq) t 268435456).1)).lo), .int .u64 ((greatV ((lessV ((overV t r.tw).1) (boost * r.each)).1) ((raiseV (⟨0, 0, r.tw⟩ : Fq) t 268435456).1)).w)]) 33, bx (γ1 1) (#[.int .i64 r.id, .int .i64 r.each, .int .u64 r.th, .int .u64 r.tl, .int .u64 r.tw]) 35, bx (γ1 0) (#[.int .u64 t.hi, .int .u64 t.lo, .int .u64 t.w]) 33]) ?_ (fun hmx14 => ?_)
    rotate_left
    ·
     refine any_cutX (V := (Nat → Nat)) (fun γ110 => True) 2 #[true, true, true, true, true, true, false, false] (fun γ110 => [(6, .pointer (some ⟨γ1 2, 0, none⟩)), (7, .pointer (some ⟨γ1 3, 0, none⟩)), (8, .int .i64 ((raiseV (⟨0, 0, r.tw⟩ : Fq) t 268435456).2)), (58, .agg #[.int .u64 ((overV t r.tw).1.hi), .int .u64 ((overV t r.tw).1.lo), .int .u64 ((overV t r.tw).1.w)])]) (fun γ110 => [bx (γ110 0) (#[.int .u64 ((lessV ((overV t r.tw).1) (boost * r.each)).1.hi), .int .u64 ((lessV ((overV t r.tw).1) (boost * r.each)).1.lo), .int .u64 ((lessV ((overV t r.tw).1) (boost * r.each)).1.w), .int .u64 ((raiseV (⟨0, 0, r.tw⟩ : Fq) t 268435456).1.hi), .int .u64 ((raiseV (⟨0, 0, r.tw⟩ : Fq) t 268435456).1.lo), .int .u64 ((raiseV (⟨0, 0, r.tw⟩ : Fq) t 268435456).1.w)]) 33, bx (γ47 0) (#[.int .u64 ((raiseV (⟨0, 0, r.tw⟩ : Fq) t 268435456).1.hi), .int .u64 ((raiseV (⟨0, 0, r.tw⟩ : Fq) t 268435456).1.lo), .int .u64 ((raiseV (⟨0, 0, r.tw⟩ : Fq) t 268435456).1.w)]) 33, bx (γ25 0) (#[.int .u64 ((lessV ((overV t r.tw).1) (boost * r.each)).1.hi), .int .u64 ((lessV ((overV t r.tw).1) (boost * r.each)).1.lo), .int .u64 ((lessV ((overV t r.tw).1) (boost * r.each)).1.w)]) 33, bx (γ3 0) (#[.int .u64 ((overV t r.tw).1.hi), .int .u64 ((overV t r.tw).1.lo), .int .u64 ((overV t r.tw).1.w)]) 33, bx (γ1 3) (#[.int .u64 0, .int .u64 0, .int .u64 0]) 33, bx (γ1 2) (#[.int .u64 ((greatV ((lessV ((overV t r.tw).1) (boost * r.each)).1) ((raiseV (⟨0, 0, r.tw⟩ : Fq) t 268435456).1)).hi), .int .u64 ((greatV ((lessV ((overV t r.tw).1) (boost * r.each)).1) ((raiseV (⟨0, 0, r.tw⟩ : Fq) t 268435456).1)).lo), .int .u64 ((greatV ((lessV ((overV t r.tw).1) (boost * r.each)).1) ((raiseV (⟨0, 0, r.tw⟩ : Fq) t 268435456).1)).w)]) 33, bx (γ1 1) (#[.int .i64 r.id, .int .i64 r.each, .int .u64 r.th, .int .u64 r.tl, .int .u64 r.tw]) 35, bx (γ1 0) (#[.int .u64 t.hi, .int .u64 t.lo, .int .u64 t.w]) 33]) ?_ (fun hmx13 => ?_)
     ·
      rintro γ110 _
      refine a1 6 rfl ?_
      refine mo0 1 [(6, .go (owns 4 0 3))] [6, 7, 8] (fun _ => []) (fun _ L => (L.set 4 (bx (γ1 3) (#[.int .u64 ((overV t r.tw).1.hi), .int .u64 ((overV t r.tw).1.lo), .int .u64 ((overV t r.tw).1.w)]) 33))) (fun _ => ?_)
      refine od_ ?_
      refine tk (m := 0) [7] [] [6, 7] [(8, .int .i64 0)] ([]) #[true, true, true, true, true, true, true, true] al0 ?_
      exact wk (hmx14 γ110 trivial) [6, 7, 8] [[_], [_], [_], [_], [_], [_], [_], [_]] [0, 1, 2, 3, 4, 5, 6, 7] rfl rfl
     refine any_cutX (V := (Nat → Nat)) (fun γ110 => True) 3 #[true, true, true, true, false, true, false, false] (fun γ110 => [(6, .pointer (some ⟨γ1 2, 0, none⟩)), (7, .pointer (some ⟨γ1 3, 0, none⟩)), (8, .int .i64 ((raiseV (⟨0, 0, r.tw⟩ : Fq) t 268435456).2)), (9, .pointer (some ⟨γ3 0, 0, none⟩))]) (fun γ110 => [bx (γ110 0) (#[.int .u64 ((lessV ((overV t r.tw).1) (boost * r.each)).1.hi), .int .u64 ((lessV ((overV t r.tw).1) (boost * r.each)).1.lo), .int .u64 ((lessV ((overV t r.tw).1) (boost * r.each)).1.w), .int .u64 ((raiseV (⟨0, 0, r.tw⟩ : Fq) t 268435456).1.hi), .int .u64 ((raiseV (⟨0, 0, r.tw⟩ : Fq) t 268435456).1.lo), .int .u64 ((raiseV (⟨0, 0, r.tw⟩ : Fq) t 268435456).1.w)]) 33, bx (γ47 0) (#[.int .u64 ((raiseV (⟨0, 0, r.tw⟩ : Fq) t 268435456).1.hi), .int .u64 ((raiseV (⟨0, 0, r.tw⟩ : Fq) t 268435456).1.lo), .int .u64 ((raiseV (⟨0, 0, r.tw⟩ : Fq) t 268435456).1.w)]) 33, bx (γ25 0) (#[.int .u64 ((lessV ((overV t r.tw).1) (boost * r.each)).1.hi), .int .u64 ((lessV ((overV t r.tw).1) (boost * r.each)).1.lo), .int .u64 ((lessV ((overV t r.tw).1) (boost * r.each)).1.w)]) 33, bx (γ3 0) (#[.int .u64 ((overV t r.tw).1.hi), .int .u64 ((overV t r.tw).1.lo), .int .u64 ((overV t r.tw).1.w)]) 33, bx (γ1 3) (#[.int .u64 0, .int .u64 0, .int .u64 0]) 33, bx (γ1 2) (#[.int .u64 ((greatV ((lessV ((overV t r.tw).1) (boost * r.each)).1) ((raiseV (⟨0, 0, r.tw⟩ : Fq) t 268435456).1)).hi), .int .u64 ((greatV ((lessV ((overV t r.tw).1) (boost * r.each)).1) ((raiseV (⟨0, 0, r.tw⟩ : Fq) t 268435456).1)).lo), .int .u64 ((greatV ((lessV ((overV t r.tw).1) (boost * r.each)).1) ((raiseV (⟨0, 0, r.tw⟩ : Fq) t 268435456).1)).w)]) 33, bx (γ1 1) (#[.int .i64 r.id, .int .i64 r.each, .int .u64 r.th, .int .u64 r.tl, .int .u64 r.tw]) 35, bx (γ1 0) (#[.int .u64 t.hi, .int .u64 t.lo, .int .u64 t.w]) 33]) ?_ (fun hmx12 => ?_)
     ·
      rintro γ110 _
      refine a1 4 rfl ?_
      refine qo0 1 [(4, .go (owns 3 0 3))] [6, 7, 8] [(58, .agg #[.int .u64 ((overV t r.tw).1.hi), .int .u64 ((overV t r.tw).1.lo), .int .u64 ((overV t r.tw).1.w)])] ?_
      refine od_ ?_
      exact wk (hmx13 γ110 trivial) [6, 7, 8, 58] [[_], [_], [_], [_], [_], [_], [_], [_]] [0, 1, 2, 3, 4, 5, 6, 7] rfl rfl
     refine any_cutX (V := (Nat → Nat)) (fun γ110 => True) 3 #[true, true, true, true, true, false, false, false] (fun γ110 => [(6, .pointer (some ⟨γ1 2, 0, none⟩)), (7, .pointer (some ⟨γ1 3, 0, none⟩)), (8, .int .i64 ((raiseV (⟨0, 0, r.tw⟩ : Fq) t 268435456).2)), (57, .agg #[.int .u64 ((greatV ((lessV ((overV t r.tw).1) (boost * r.each)).1) ((raiseV (⟨0, 0, r.tw⟩ : Fq) t 268435456).1)).hi), .int .u64 ((greatV ((lessV ((overV t r.tw).1) (boost * r.each)).1) ((raiseV (⟨0, 0, r.tw⟩ : Fq) t 268435456).1)).lo), .int .u64 ((greatV ((lessV ((overV t r.tw).1) (boost * r.each)).1) ((raiseV (⟨0, 0, r.tw⟩ : Fq) t 268435456).1)).w)]), (58, .agg #[.int .u64 ((overV t r.tw).1.hi), .int .u64 ((overV t r.tw).1.lo), .int .u64 ((overV t r.tw).1.w)])]) (fun γ110 => [bx (γ110 0) (#[.int .u64 ((lessV ((overV t r.tw).1) (boost * r.each)).1.hi), .int .u64 ((lessV ((overV t r.tw).1) (boost * r.each)).1.lo), .int .u64 ((lessV ((overV t r.tw).1) (boost * r.each)).1.w), .int .u64 ((raiseV (⟨0, 0, r.tw⟩ : Fq) t 268435456).1.hi), .int .u64 ((raiseV (⟨0, 0, r.tw⟩ : Fq) t 268435456).1.lo), .int .u64 ((raiseV (⟨0, 0, r.tw⟩ : Fq) t 268435456).1.w)]) 33, bx (γ47 0) (#[.int .u64 ((raiseV (⟨0, 0, r.tw⟩ : Fq) t 268435456).1.hi), .int .u64 ((raiseV (⟨0, 0, r.tw⟩ : Fq) t 268435456).1.lo), .int .u64 ((raiseV (⟨0, 0, r.tw⟩ : Fq) t 268435456).1.w)]) 33, bx (γ25 0) (#[.int .u64 ((lessV ((overV t r.tw).1) (boost * r.each)).1.hi), .int .u64 ((lessV ((overV t r.tw).1) (boost * r.each)).1.lo), .int .u64 ((lessV ((overV t r.tw).1) (boost * r.each)).1.w)]) 33, bx (γ3 0) (#[.int .u64 ((overV t r.tw).1.hi), .int .u64 ((overV t r.tw).1.lo), .int .u64 ((overV t r.tw).1.w)]) 33, bx (γ1 3) (#[.int .u64 0, .int .u64 0, .int .u64 0]) 33, bx (γ1 2) (#[.int .u64 0, .int .u64 0, .int .u64 0]) 33, bx (γ1 1) (#[.int .i64 r.id, .int .i64 r.each, .int .u64 r.th, .int .u64 r.tl, .int .u64 r.tw]) 35, bx (γ1 0) (#[.int .u64 t.hi, .int .u64 t.lo, .int .u64 t.w]) 33]) ?_ (fun hmx11 => ?_)
     ·
      rintro γ110 _
      refine a1 5 rfl ?_
      refine mo0 1 [(5, .go (owns 5 0 3))] [6, 7, 8, 58] (fun _ => []) (fun _ L => (L.set 5 (bx (γ1 2) (#[.int .u64 ((greatV ((lessV ((overV t r.tw).1) (boost * r.each)).1) ((raiseV (⟨0, 0, r.tw⟩ : Fq) t 268435456).1)).hi), .int .u64 ((greatV ((lessV ((overV t r.tw).1) (boost * r.each)).1) ((raiseV (⟨0, 0, r.tw⟩ : Fq) t 268435456).1)).lo), .int .u64 ((greatV ((lessV ((overV t r.tw).1) (boost * r.each)).1) ((raiseV (⟨0, 0, r.tw⟩ : Fq) t 268435456).1)).w)]) 33))) (fun _ => ?_)
      refine od_ ?_
      exact wk (hmx13 γ110 trivial) [6, 7, 8, 58] [[_], [_], [_], [_], [_], [_], [_], [_]] [0, 1, 2, 3, 4, 5, 6, 7] rfl rfl
     refine any_cutX (V := (Nat → Nat)) (fun γ110 => True) 4 #[true, true, true, false, true, false, false, false] (fun γ110 => [(6, .pointer (some ⟨γ1 2, 0, none⟩)), (7, .pointer (some ⟨γ1 3, 0, none⟩)), (8, .int .i64 ((raiseV (⟨0, 0, r.tw⟩ : Fq) t 268435456).2)), (56, .slice (some ⟨γ110 0, 0, none⟩) 2 2), (58, .agg #[.int .u64 ((overV t r.tw).1.hi), .int .u64 ((overV t r.tw).1.lo), .int .u64 ((overV t r.tw).1.w)])]) (fun γ110 => [bx (γ110 0) (#[.int .u64 ((lessV ((overV t r.tw).1) (boost * r.each)).1.hi), .int .u64 ((lessV ((overV t r.tw).1) (boost * r.each)).1.lo), .int .u64 ((lessV ((overV t r.tw).1) (boost * r.each)).1.w), .int .u64 ((raiseV (⟨0, 0, r.tw⟩ : Fq) t 268435456).1.hi), .int .u64 ((raiseV (⟨0, 0, r.tw⟩ : Fq) t 268435456).1.lo), .int .u64 ((raiseV (⟨0, 0, r.tw⟩ : Fq) t 268435456).1.w)]) 33, bx (γ47 0) (#[.int .u64 ((raiseV (⟨0, 0, r.tw⟩ : Fq) t 268435456).1.hi), .int .u64 ((raiseV (⟨0, 0, r.tw⟩ : Fq) t 268435456).1.lo), .int .u64 ((raiseV (⟨0, 0, r.tw⟩ : Fq) t 268435456).1.w)]) 33, bx (γ25 0) (#[.int .u64 ((lessV ((overV t r.tw).1) (boost * r.each)).1.hi), .int .u64 ((lessV ((overV t r.tw).1) (boost * r.each)).1.lo), .int .u64 ((lessV ((overV t r.tw).1) (boost * r.each)).1.w)]) 33, bx (γ3 0) (#[.int .u64 ((overV t r.tw).1.hi), .int .u64 ((overV t r.tw).1.lo), .int .u64 ((overV t r.tw).1.w)]) 33, bx (γ1 3) (#[.int .u64 0, .int .u64 0, .int .u64 0]) 33, bx (γ1 2) (#[.int .u64 0, .int .u64 0, .int .u64 0]) 33, bx (γ1 1) (#[.int .i64 r.id, .int .i64 r.each, .int .u64 r.th, .int .u64 r.tl, .int .u64 r.tw]) 35, bx (γ1 0) (#[.int .u64 t.hi, .int .u64 t.lo, .int .u64 t.w]) 33]) ?_ (fun hmx10 => ?_)
     ·
      rintro γ110 _
      refine a1 3 rfl ?_
      refine cD (.agg #[.int .u64 ((greatV ((lessV ((overV t r.tw).1) (boost * r.each)).1) ((raiseV (⟨0, 0, r.tw⟩ : Fq) t 268435456).1)).hi), .int .u64 ((greatV ((lessV ((overV t r.tw).1) (boost * r.each)).1) ((raiseV (⟨0, 0, r.tw⟩ : Fq) t 268435456).1)).lo), .int .u64 ((greatV ((lessV ((overV t r.tw).1) (boost * r.each)).1) ((raiseV (⟨0, 0, r.tw⟩ : Fq) t 268435456).1)).w)]) Try.call62 (fun w hw => great_t (some ⟨γ110 0, 0, none⟩) 2 2 [(lessV ((overV t r.tw).1) (boost * r.each)).1, (raiseV (⟨0, 0, r.tw⟩ : Fq) t 268435456).1] w (sv_row (hw.row 0 rfl) rfl) rfl (by decide) (by decide) (two_U (less_U (over_U hU) (by omega)) (raise_U (w_U hr.t.w0 hr.t.w1) hU (by omega)))) ?_
      refine od_ ?_
      exact wk (hmx11 γ110 trivial) [6, 7, 8, 57, 58] [[_], [_], [_], [_], [_], [_], [_], [_]] [0, 1, 2, 3, 4, 5, 6, 7] rfl rfl
     refine any_cutX (V := (Nat → Nat)) (fun γ110 => True) 4 #[true, true, true, true, false, false, false, false] (fun γ110 => [(6, .pointer (some ⟨γ1 2, 0, none⟩)), (7, .pointer (some ⟨γ1 3, 0, none⟩)), (8, .int .i64 ((raiseV (⟨0, 0, r.tw⟩ : Fq) t 268435456).2)), (9, .pointer (some ⟨γ3 0, 0, none⟩)), (57, .agg #[.int .u64 ((greatV ((lessV ((overV t r.tw).1) (boost * r.each)).1) ((raiseV (⟨0, 0, r.tw⟩ : Fq) t 268435456).1)).hi), .int .u64 ((greatV ((lessV ((overV t r.tw).1) (boost * r.each)).1) ((raiseV (⟨0, 0, r.tw⟩ : Fq) t 268435456).1)).lo), .int .u64 ((greatV ((lessV ((overV t r.tw).1) (boost * r.each)).1) ((raiseV (⟨0, 0, r.tw⟩ : Fq) t 268435456).1)).w)])]) (fun γ110 => [bx (γ110 0) (#[.int .u64 ((lessV ((overV t r.tw).1) (boost * r.each)).1.hi), .int .u64 ((lessV ((overV t r.tw).1) (boost * r.each)).1.lo), .int .u64 ((lessV ((overV t r.tw).1) (boost * r.each)).1.w), .int .u64 ((raiseV (⟨0, 0, r.tw⟩ : Fq) t 268435456).1.hi), .int .u64 ((raiseV (⟨0, 0, r.tw⟩ : Fq) t 268435456).1.lo), .int .u64 ((raiseV (⟨0, 0, r.tw⟩ : Fq) t 268435456).1.w)]) 33, bx (γ47 0) (#[.int .u64 ((raiseV (⟨0, 0, r.tw⟩ : Fq) t 268435456).1.hi), .int .u64 ((raiseV (⟨0, 0, r.tw⟩ : Fq) t 268435456).1.lo), .int .u64 ((raiseV (⟨0, 0, r.tw⟩ : Fq) t 268435456).1.w)]) 33, bx (γ25 0) (#[.int .u64 ((lessV ((overV t r.tw).1) (boost * r.each)).1.hi), .int .u64 ((lessV ((overV t r.tw).1) (boost * r.each)).1.lo), .int .u64 ((lessV ((overV t r.tw).1) (boost * r.each)).1.w)]) 33, bx (γ3 0) (#[.int .u64 ((overV t r.tw).1.hi), .int .u64 ((overV t r.tw).1.lo), .int .u64 ((overV t r.tw).1.w)]) 33, bx (γ1 3) (#[.int .u64 0, .int .u64 0, .int .u64 0]) 33, bx (γ1 2) (#[.int .u64 0, .int .u64 0, .int .u64 0]) 33, bx (γ1 1) (#[.int .i64 r.id, .int .i64 r.each, .int .u64 r.th, .int .u64 r.tl, .int .u64 r.tw]) 35, bx (γ1 0) (#[.int .u64 t.hi, .int .u64 t.lo, .int .u64 t.w]) 33]) ?_ (fun hmx9 => ?_)
     ·
      rintro γ110 _
      refine any_fork [4, 5] (by kernel_rfl) (by simp) (each_cons _ rfl ?_ (each_cons _ rfl ?_ (each_nil)))
      ·
       refine qo0 1 [(4, .go (owns 3 0 3))] [6, 7, 8, 57] [(58, .agg #[.int .u64 ((overV t r.tw).1.hi), .int .u64 ((overV t r.tw).1.lo), .int .u64 ((overV t r.tw).1.w)])] ?_
       refine od_ ?_
       exact wk (hmx11 γ110 trivial) [6, 7, 8, 57, 58] [[_], [_], [_], [_], [_], [_], [_], [_]] [0, 1, 2, 3, 4, 5, 6, 7] rfl rfl
      ·
       refine mo0 1 [(5, .go (owns 5 0 3))] [6, 7, 8, 9] (fun _ => []) (fun _ L => (L.set 5 (bx (γ1 2) (#[.int .u64 ((greatV ((lessV ((overV t r.tw).1) (boost * r.each)).1) ((raiseV (⟨0, 0, r.tw⟩ : Fq) t 268435456).1)).hi), .int .u64 ((greatV ((lessV ((overV t r.tw).1) (boost * r.each)).1) ((raiseV (⟨0, 0, r.tw⟩ : Fq) t 268435456).1)).lo), .int .u64 ((greatV ((lessV ((overV t r.tw).1) (boost * r.each)).1) ((raiseV (⟨0, 0, r.tw⟩ : Fq) t 268435456).1)).w)]) 33))) (fun _ => ?_)
       refine od_ ?_
       exact wk (hmx12 γ110 trivial) [6, 7, 8, 9] [[_], [_], [_], [_], [_], [_], [_], [_]] [0, 1, 2, 3, 4, 5, 6, 7] rfl rfl
     refine any_cutX (V := Unit) (fun _ => True) 5 #[true, true, false, false, true, false, false, false] (fun _ => [(6, .pointer (some ⟨γ1 2, 0, none⟩)), (7, .pointer (some ⟨γ1 3, 0, none⟩)), (8, .int .i64 ((raiseV (⟨0, 0, r.tw⟩ : Fq) t 268435456).2)), (54, .agg #[.int .u64 ((lessV ((overV t r.tw).1) (boost * r.each)).1.hi), .int .u64 ((lessV ((overV t r.tw).1) (boost * r.each)).1.lo), .int .u64 ((lessV ((overV t r.tw).1) (boost * r.each)).1.w)]), (55, .agg #[.int .u64 ((raiseV (⟨0, 0, r.tw⟩ : Fq) t 268435456).1.hi), .int .u64 ((raiseV (⟨0, 0, r.tw⟩ : Fq) t 268435456).1.lo), .int .u64 ((raiseV (⟨0, 0, r.tw⟩ : Fq) t 268435456).1.w)]), (58, .agg #[.int .u64 ((overV t r.tw).1.hi), .int .u64 ((overV t r.tw).1.lo), .int .u64 ((overV t r.tw).1.w)])]) (fun _ => [bx (γ47 0) (#[.int .u64 ((raiseV (⟨0, 0, r.tw⟩ : Fq) t 268435456).1.hi), .int .u64 ((raiseV (⟨0, 0, r.tw⟩ : Fq) t 268435456).1.lo), .int .u64 ((raiseV (⟨0, 0, r.tw⟩ : Fq) t 268435456).1.w)]) 33, bx (γ25 0) (#[.int .u64 ((lessV ((overV t r.tw).1) (boost * r.each)).1.hi), .int .u64 ((lessV ((overV t r.tw).1) (boost * r.each)).1.lo), .int .u64 ((lessV ((overV t r.tw).1) (boost * r.each)).1.w)]) 33, bx (γ3 0) (#[.int .u64 ((overV t r.tw).1.hi), .int .u64 ((overV t r.tw).1.lo), .int .u64 ((overV t r.tw).1.w)]) 33, bx (γ1 3) (#[.int .u64 0, .int .u64 0, .int .u64 0]) 33, bx (γ1 2) (#[.int .u64 0, .int .u64 0, .int .u64 0]) 33, bx (γ1 1) (#[.int .i64 r.id, .int .i64 r.each, .int .u64 r.th, .int .u64 r.tl, .int .u64 r.tw]) 35, bx (γ1 0) (#[.int .u64 t.hi, .int .u64 t.lo, .int .u64 t.w]) 33]) ?_ (fun hmx8 => ?_)
     ·
      rintro _ _
      refine a1 2 rfl ?_
      refine mo0 1 [] [6, 7, 8, 58] (fun γ110 => [(56, .slice (some ⟨γ110 0, 0, none⟩) 2 2)]) (fun γ110 L => bx (γ110 0) (#[.int .u64 ((lessV ((overV t r.tw).1) (boost * r.each)).1.hi), .int .u64 ((lessV ((overV t r.tw).1) (boost * r.each)).1.lo), .int .u64 ((lessV ((overV t r.tw).1) (boost * r.each)).1.w), .int .u64 ((raiseV (⟨0, 0, r.tw⟩ : Fq) t 268435456).1.hi), .int .u64 ((raiseV (⟨0, 0, r.tw⟩ : Fq) t 268435456).1.lo), .int .u64 ((raiseV (⟨0, 0, r.tw⟩ : Fq) t 268435456).1.w)]) 33 :: L) (fun γ110 => ?_)
      refine od_ ?_
      exact wk (hmx10 γ110 trivial) [6, 7, 8, 56, 58] [[_], [_], [_], [_], [_], [_], [_], [_]] [0, 1, 2, 3, 4, 5, 6, 7] rfl rfl
     refine any_cutX (V := (Nat → Nat)) (fun γ110 => True) 5 #[true, true, true, false, false, false, false, false] (fun γ110 => [(6, .pointer (some ⟨γ1 2, 0, none⟩)), (7, .pointer (some ⟨γ1 3, 0, none⟩)), (8, .int .i64 ((raiseV (⟨0, 0, r.tw⟩ : Fq) t 268435456).2)), (9, .pointer (some ⟨γ3 0, 0, none⟩)), (56, .slice (some ⟨γ110 0, 0, none⟩) 2 2)]) (fun γ110 => [bx (γ110 0) (#[.int .u64 ((lessV ((overV t r.tw).1) (boost * r.each)).1.hi), .int .u64 ((lessV ((overV t r.tw).1) (boost * r.each)).1.lo), .int .u64 ((lessV ((overV t r.tw).1) (boost * r.each)).1.w), .int .u64 ((raiseV (⟨0, 0, r.tw⟩ : Fq) t 268435456).1.hi), .int .u64 ((raiseV (⟨0, 0, r.tw⟩ : Fq) t 268435456).1.lo), .int .u64 ((raiseV (⟨0, 0, r.tw⟩ : Fq) t 268435456).1.w)]) 33, bx (γ47 0) (#[.int .u64 ((raiseV (⟨0, 0, r.tw⟩ : Fq) t 268435456).1.hi), .int .u64 ((raiseV (⟨0, 0, r.tw⟩ : Fq) t 268435456).1.lo), .int .u64 ((raiseV (⟨0, 0, r.tw⟩ : Fq) t 268435456).1.w)]) 33, bx (γ25 0) (#[.int .u64 ((lessV ((overV t r.tw).1) (boost * r.each)).1.hi), .int .u64 ((lessV ((overV t r.tw).1) (boost * r.each)).1.lo), .int .u64 ((lessV ((overV t r.tw).1) (boost * r.each)).1.w)]) 33, bx (γ3 0) (#[.int .u64 ((overV t r.tw).1.hi), .int .u64 ((overV t r.tw).1.lo), .int .u64 ((overV t r.tw).1.w)]) 33, bx (γ1 3) (#[.int .u64 0, .int .u64 0, .int .u64 0]) 33, bx (γ1 2) (#[.int .u64 0, .int .u64 0, .int .u64 0]) 33, bx (γ1 1) (#[.int .i64 r.id, .int .i64 r.each, .int .u64 r.th, .int .u64 r.tl, .int .u64 r.tw]) 35, bx (γ1 0) (#[.int .u64 t.hi, .int .u64 t.lo, .int .u64 t.w]) 33]) ?_ (fun hmx7 => ?_)
     ·
      rintro γ110 _
      refine any_fork [3, 4] (by kernel_rfl) (by simp) (each_cons _ rfl ?_ (each_cons _ rfl ?_ (each_nil)))
      ·
       refine cD (.agg #[.int .u64 ((greatV ((lessV ((overV t r.tw).1) (boost * r.each)).1) ((raiseV (⟨0, 0, r.tw⟩ : Fq) t 268435456).1)).hi), .int .u64 ((greatV ((lessV ((overV t r.tw).1) (boost * r.each)).1) ((raiseV (⟨0, 0, r.tw⟩ : Fq) t 268435456).1)).lo), .int .u64 ((greatV ((lessV ((overV t r.tw).1) (boost * r.each)).1) ((raiseV (⟨0, 0, r.tw⟩ : Fq) t 268435456).1)).w)]) Try.call62 (fun w hw => great_t (some ⟨γ110 0, 0, none⟩) 2 2 [(lessV ((overV t r.tw).1) (boost * r.each)).1, (raiseV (⟨0, 0, r.tw⟩ : Fq) t 268435456).1] w (sv_row (hw.row 0 rfl) rfl) rfl (by decide) (by decide) (two_U (less_U (over_U hU) (by omega)) (raise_U (w_U hr.t.w0 hr.t.w1) hU (by omega)))) ?_
       refine od_ ?_
       exact wk (hmx9 γ110 trivial) [6, 7, 8, 9, 57] [[_], [_], [_], [_], [_], [_], [_], [_]] [0, 1, 2, 3, 4, 5, 6, 7] rfl rfl
      ·
       refine qo0 1 [(4, .go (owns 3 0 3))] [6, 7, 8, 56] [(58, .agg #[.int .u64 ((overV t r.tw).1.hi), .int .u64 ((overV t r.tw).1.lo), .int .u64 ((overV t r.tw).1.w)])] ?_
       refine od_ ?_
       exact wk (hmx10 γ110 trivial) [6, 7, 8, 56, 58] [[_], [_], [_], [_], [_], [_], [_], [_]] [0, 1, 2, 3, 4, 5, 6, 7] rfl rfl
     refine any_cutX (V := Unit) (fun _ => True) 6 #[false, true, false, false, true, false, false, false] (fun _ => [(6, .pointer (some ⟨γ1 2, 0, none⟩)), (7, .pointer (some ⟨γ1 3, 0, none⟩)), (8, .int .i64 ((raiseV (⟨0, 0, r.tw⟩ : Fq) t 268435456).2)), (10, .pointer (some ⟨γ25 0, 0, none⟩)), (55, .agg #[.int .u64 ((raiseV (⟨0, 0, r.tw⟩ : Fq) t 268435456).1.hi), .int .u64 ((raiseV (⟨0, 0, r.tw⟩ : Fq) t 268435456).1.lo), .int .u64 ((raiseV (⟨0, 0, r.tw⟩ : Fq) t 268435456).1.w)]), (58, .agg #[.int .u64 ((overV t r.tw).1.hi), .int .u64 ((overV t r.tw).1.lo), .int .u64 ((overV t r.tw).1.w)])]) (fun _ => [bx (γ47 0) (#[.int .u64 ((raiseV (⟨0, 0, r.tw⟩ : Fq) t 268435456).1.hi), .int .u64 ((raiseV (⟨0, 0, r.tw⟩ : Fq) t 268435456).1.lo), .int .u64 ((raiseV (⟨0, 0, r.tw⟩ : Fq) t 268435456).1.w)]) 33, bx (γ25 0) (#[.int .u64 ((lessV ((overV t r.tw).1) (boost * r.each)).1.hi), .int .u64 ((lessV ((overV t r.tw).1) (boost * r.each)).1.lo), .int .u64 ((lessV ((overV t r.tw).1) (boost * r.each)).1.w)]) 33, bx (γ3 0) (#[.int .u64 ((overV t r.tw).1.hi), .int .u64 ((overV t r.tw).1.lo), .int .u64 ((overV t r.tw).1.w)]) 33, bx (γ1 3) (#[.int .u64 0, .int .u64 0, .int .u64 0]) 33, bx (γ1 2) (#[.int .u64 0, .int .u64 0, .int .u64 0]) 33, bx (γ1 1) (#[.int .i64 r.id, .int .i64 r.each, .int .u64 r.th, .int .u64 r.tl, .int .u64 r.tw]) 35, bx (γ1 0) (#[.int .u64 t.hi, .int .u64 t.lo, .int .u64 t.w]) 33]) ?_ (fun hmx6 => ?_)
     ·
      rintro _ _
      refine a1 0 rfl ?_
      refine qo0 1 [(0, .go (owns 1 0 3))] [6, 7, 8, 55, 58] [(54, .agg #[.int .u64 ((lessV ((overV t r.tw).1) (boost * r.each)).1.hi), .int .u64 ((lessV ((overV t r.tw).1) (boost * r.each)).1.lo), .int .u64 ((lessV ((overV t r.tw).1) (boost * r.each)).1.w)])] ?_
      refine od_ ?_
      exact wk (hmx8 () trivial) [6, 7, 8, 54, 55, 58] [[_], [_], [_], [_], [_], [_], [_]] [0, 1, 2, 3, 4, 5, 6] rfl rfl
     refine any_cutX (V := Unit) (fun _ => True) 6 #[true, false, false, false, true, false, false, false] (fun _ => [(6, .pointer (some ⟨γ1 2, 0, none⟩)), (7, .pointer (some ⟨γ1 3, 0, none⟩)), (8, .int .i64 ((raiseV (⟨0, 0, r.tw⟩ : Fq) t 268435456).2)), (11, .pointer (some ⟨γ47 0, 0, none⟩)), (54, .agg #[.int .u64 ((lessV ((overV t r.tw).1) (boost * r.each)).1.hi), .int .u64 ((lessV ((overV t r.tw).1) (boost * r.each)).1.lo), .int .u64 ((lessV ((overV t r.tw).1) (boost * r.each)).1.w)]), (58, .agg #[.int .u64 ((overV t r.tw).1.hi), .int .u64 ((overV t r.tw).1.lo), .int .u64 ((overV t r.tw).1.w)])]) (fun _ => [bx (γ47 0) (#[.int .u64 ((raiseV (⟨0, 0, r.tw⟩ : Fq) t 268435456).1.hi), .int .u64 ((raiseV (⟨0, 0, r.tw⟩ : Fq) t 268435456).1.lo), .int .u64 ((raiseV (⟨0, 0, r.tw⟩ : Fq) t 268435456).1.w)]) 33, bx (γ25 0) (#[.int .u64 ((lessV ((overV t r.tw).1) (boost * r.each)).1.hi), .int .u64 ((lessV ((overV t r.tw).1) (boost * r.each)).1.lo), .int .u64 ((lessV ((overV t r.tw).1) (boost * r.each)).1.w)]) 33, bx (γ3 0) (#[.int .u64 ((overV t r.tw).1.hi), .int .u64 ((overV t r.tw).1.lo), .int .u64 ((overV t r.tw).1.w)]) 33, bx (γ1 3) (#[.int .u64 0, .int .u64 0, .int .u64 0]) 33, bx (γ1 2) (#[.int .u64 0, .int .u64 0, .int .u64 0]) 33, bx (γ1 1) (#[.int .i64 r.id, .int .i64 r.each, .int .u64 r.th, .int .u64 r.tl, .int .u64 r.tw]) 35, bx (γ1 0) (#[.int .u64 t.hi, .int .u64 t.lo, .int .u64 t.w]) 33]) ?_ (fun hmx5 => ?_)
     ·
      rintro _ _
      refine a1 1 rfl ?_
      refine qo0 1 [(1, .go (owns 0 0 3))] [6, 7, 8, 54, 58] [(55, .agg #[.int .u64 ((raiseV (⟨0, 0, r.tw⟩ : Fq) t 268435456).1.hi), .int .u64 ((raiseV (⟨0, 0, r.tw⟩ : Fq) t 268435456).1.lo), .int .u64 ((raiseV (⟨0, 0, r.tw⟩ : Fq) t 268435456).1.w)])] ?_
      refine od_ ?_
      exact wk (hmx8 () trivial) [6, 7, 8, 54, 55, 58] [[_], [_], [_], [_], [_], [_], [_]] [0, 1, 2, 3, 4, 5, 6] rfl rfl
     refine any_cutX (V := Unit) (fun _ => True) 6 #[true, true, false, false, false, false, false, false] (fun _ => [(6, .pointer (some ⟨γ1 2, 0, none⟩)), (7, .pointer (some ⟨γ1 3, 0, none⟩)), (8, .int .i64 ((raiseV (⟨0, 0, r.tw⟩ : Fq) t 268435456).2)), (9, .pointer (some ⟨γ3 0, 0, none⟩)), (54, .agg #[.int .u64 ((lessV ((overV t r.tw).1) (boost * r.each)).1.hi), .int .u64 ((lessV ((overV t r.tw).1) (boost * r.each)).1.lo), .int .u64 ((lessV ((overV t r.tw).1) (boost * r.each)).1.w)]), (55, .agg #[.int .u64 ((raiseV (⟨0, 0, r.tw⟩ : Fq) t 268435456).1.hi), .int .u64 ((raiseV (⟨0, 0, r.tw⟩ : Fq) t 268435456).1.lo), .int .u64 ((raiseV (⟨0, 0, r.tw⟩ : Fq) t 268435456).1.w)])]) (fun _ => [bx (γ47 0) (#[.int .u64 ((raiseV (⟨0, 0, r.tw⟩ : Fq) t 268435456).1.hi), .int .u64 ((raiseV (⟨0, 0, r.tw⟩ : Fq) t 268435456).1.lo), .int .u64 ((raiseV (⟨0, 0, r.tw⟩ : Fq) t 268435456).1.w)]) 33, bx (γ25 0) (#[.int .u64 ((lessV ((overV t r.tw).1) (boost * r.each)).1.hi), .int .u64 ((lessV ((overV t r.tw).1) (boost * r.each)).1.lo), .int .u64 ((lessV ((overV t r.tw).1) (boost * r.each)).1.w)]) 33, bx (γ3 0) (#[.int .u64 ((overV t r.tw).1.hi), .int .u64 ((overV t r.tw).1.lo), .int .u64 ((overV t r.tw).1.w)]) 33, bx (γ1 3) (#[.int .u64 0, .int .u64 0, .int .u64 0]) 33, bx (γ1 2) (#[.int .u64 0, .int .u64 0, .int .u64 0]) 33, bx (γ1 1) (#[.int .i64 r.id, .int .i64 r.each, .int .u64 r.th, .int .u64 r.tl, .int .u64 r.tw]) 35, bx (γ1 0) (#[.int .u64 t.hi, .int .u64 t.lo, .int .u64 t.w]) 33]) ?_ (fun hmx4 => ?_)
     ·
      rintro _ _
      refine any_fork [2, 4] (by kernel_rfl) (by simp) (each_cons _ rfl ?_ (each_cons _ rfl ?_ (each_nil)))
      ·
       refine mo0 1 [] [6, 7, 8, 9] (fun γ110 => [(56, .slice (some ⟨γ110 0, 0, none⟩) 2 2)]) (fun γ110 L => bx (γ110 0) (#[.int .u64 ((lessV ((overV t r.tw).1) (boost * r.each)).1.hi), .int .u64 ((lessV ((overV t r.tw).1) (boost * r.each)).1.lo), .int .u64 ((lessV ((overV t r.tw).1) (boost * r.each)).1.w), .int .u64 ((raiseV (⟨0, 0, r.tw⟩ : Fq) t 268435456).1.hi), .int .u64 ((raiseV (⟨0, 0, r.tw⟩ : Fq) t 268435456).1.lo), .int .u64 ((raiseV (⟨0, 0, r.tw⟩ : Fq) t 268435456).1.w)]) 33 :: L) (fun γ110 => ?_)
       refine od_ ?_
       exact wk (hmx7 γ110 trivial) [6, 7, 8, 9, 56] [[_], [_], [_], [_], [_], [_], [_], [_]] [0, 1, 2, 3, 4, 5, 6, 7] rfl rfl
      ·
       refine qo0 1 [(4, .go (owns 2 0 3))] [6, 7, 8, 54, 55] [(58, .agg #[.int .u64 ((overV t r.tw).1.hi), .int .u64 ((overV t r.tw).1.lo), .int .u64 ((overV t r.tw).1.w)])] ?_
       refine od_ ?_
       exact wk (hmx8 () trivial) [6, 7, 8, 54, 55, 58] [[_], [_], [_], [_], [_], [_], [_]] [0, 1, 2, 3, 4, 5, 6] rfl rfl
     refine any_cutX (V := Unit) (fun _ => True) 7 #[false, false, false, false, true, false, false, false] (fun _ => [(6, .pointer (some ⟨γ1 2, 0, none⟩)), (7, .pointer (some ⟨γ1 3, 0, none⟩)), (8, .int .i64 ((raiseV (⟨0, 0, r.tw⟩ : Fq) t 268435456).2)), (10, .pointer (some ⟨γ25 0, 0, none⟩)), (11, .pointer (some ⟨γ47 0, 0, none⟩)), (58, .agg #[.int .u64 ((overV t r.tw).1.hi), .int .u64 ((overV t r.tw).1.lo), .int .u64 ((overV t r.tw).1.w)])]) (fun _ => [bx (γ47 0) (#[.int .u64 ((raiseV (⟨0, 0, r.tw⟩ : Fq) t 268435456).1.hi), .int .u64 ((raiseV (⟨0, 0, r.tw⟩ : Fq) t 268435456).1.lo), .int .u64 ((raiseV (⟨0, 0, r.tw⟩ : Fq) t 268435456).1.w)]) 33, bx (γ25 0) (#[.int .u64 ((lessV ((overV t r.tw).1) (boost * r.each)).1.hi), .int .u64 ((lessV ((overV t r.tw).1) (boost * r.each)).1.lo), .int .u64 ((lessV ((overV t r.tw).1) (boost * r.each)).1.w)]) 33, bx (γ3 0) (#[.int .u64 ((overV t r.tw).1.hi), .int .u64 ((overV t r.tw).1.lo), .int .u64 ((overV t r.tw).1.w)]) 33, bx (γ1 3) (#[.int .u64 0, .int .u64 0, .int .u64 0]) 33, bx (γ1 2) (#[.int .u64 0, .int .u64 0, .int .u64 0]) 33, bx (γ1 1) (#[.int .i64 r.id, .int .i64 r.each, .int .u64 r.th, .int .u64 r.tl, .int .u64 r.tw]) 35, bx (γ1 0) (#[.int .u64 t.hi, .int .u64 t.lo, .int .u64 t.w]) 33]) ?_ (fun hmx3 => ?_)
     ·
      rintro _ _
      refine any_fork [0, 1] (by kernel_rfl) (by simp) (each_cons _ rfl ?_ (each_cons _ rfl ?_ (each_nil)))
      ·
       refine qo0 1 [(0, .go (owns 1 0 3))] [6, 7, 8, 11, 58] [(54, .agg #[.int .u64 ((lessV ((overV t r.tw).1) (boost * r.each)).1.hi), .int .u64 ((lessV ((overV t r.tw).1) (boost * r.each)).1.lo), .int .u64 ((lessV ((overV t r.tw).1) (boost * r.each)).1.w)])] ?_
       refine od_ ?_
       exact wk (hmx5 () trivial) [6, 7, 8, 11, 54, 58] [[_], [_], [_], [_], [_], [_], [_]] [0, 1, 2, 3, 4, 5, 6] rfl rfl
      ·
       refine qo0 1 [(1, .go (owns 0 0 3))] [6, 7, 8, 10, 58] [(55, .agg #[.int .u64 ((raiseV (⟨0, 0, r.tw⟩ : Fq) t 268435456).1.hi), .int .u64 ((raiseV (⟨0, 0, r.tw⟩ : Fq) t 268435456).1.lo), .int .u64 ((raiseV (⟨0, 0, r.tw⟩ : Fq) t 268435456).1.w)])] ?_
       refine od_ ?_
       exact wk (hmx6 () trivial) [6, 7, 8, 10, 55, 58] [[_], [_], [_], [_], [_], [_], [_]] [0, 1, 2, 3, 4, 5, 6] rfl rfl
     refine any_cutX (V := Unit) (fun _ => True) 7 #[false, true, false, false, false, false, false, false] (fun _ => [(6, .pointer (some ⟨γ1 2, 0, none⟩)), (7, .pointer (some ⟨γ1 3, 0, none⟩)), (8, .int .i64 ((raiseV (⟨0, 0, r.tw⟩ : Fq) t 268435456).2)), (9, .pointer (some ⟨γ3 0, 0, none⟩)), (10, .pointer (some ⟨γ25 0, 0, none⟩)), (55, .agg #[.int .u64 ((raiseV (⟨0, 0, r.tw⟩ : Fq) t 268435456).1.hi), .int .u64 ((raiseV (⟨0, 0, r.tw⟩ : Fq) t 268435456).1.lo), .int .u64 ((raiseV (⟨0, 0, r.tw⟩ : Fq) t 268435456).1.w)])]) (fun _ => [bx (γ47 0) (#[.int .u64 ((raiseV (⟨0, 0, r.tw⟩ : Fq) t 268435456).1.hi), .int .u64 ((raiseV (⟨0, 0, r.tw⟩ : Fq) t 268435456).1.lo), .int .u64 ((raiseV (⟨0, 0, r.tw⟩ : Fq) t 268435456).1.w)]) 33, bx (γ25 0) (#[.int .u64 ((lessV ((overV t r.tw).1) (boost * r.each)).1.hi), .int .u64 ((lessV ((overV t r.tw).1) (boost * r.each)).1.lo), .int .u64 ((lessV ((overV t r.tw).1) (boost * r.each)).1.w)]) 33, bx (γ3 0) (#[.int .u64 ((overV t r.tw).1.hi), .int .u64 ((overV t r.tw).1.lo), .int .u64 ((overV t r.tw).1.w)]) 33, bx (γ1 3) (#[.int .u64 0, .int .u64 0, .int .u64 0]) 33, bx (γ1 2) (#[.int .u64 0, .int .u64 0, .int .u64 0]) 33, bx (γ1 1) (#[.int .i64 r.id, .int .i64 r.each, .int .u64 r.th, .int .u64 r.tl, .int .u64 r.tw]) 35, bx (γ1 0) (#[.int .u64 t.hi, .int .u64 t.lo, .int .u64 t.w]) 33]) ?_ (fun hmx2 => ?_)
     ·
      rintro _ _
      refine any_fork [0, 4] (by kernel_rfl) (by simp) (each_cons _ rfl ?_ (each_cons _ rfl ?_ (each_nil)))
      ·
       refine qo0 1 [(0, .go (owns 1 0 3))] [6, 7, 8, 9, 55] [(54, .agg #[.int .u64 ((lessV ((overV t r.tw).1) (boost * r.each)).1.hi), .int .u64 ((lessV ((overV t r.tw).1) (boost * r.each)).1.lo), .int .u64 ((lessV ((overV t r.tw).1) (boost * r.each)).1.w)])] ?_
       refine od_ ?_
       exact wk (hmx4 () trivial) [6, 7, 8, 9, 54, 55] [[_], [_], [_], [_], [_], [_], [_]] [0, 1, 2, 3, 4, 5, 6] rfl rfl
      ·
       refine qo0 1 [(4, .go (owns 2 0 3))] [6, 7, 8, 10, 55] [(58, .agg #[.int .u64 ((overV t r.tw).1.hi), .int .u64 ((overV t r.tw).1.lo), .int .u64 ((overV t r.tw).1.w)])] ?_
       refine od_ ?_
       exact wk (hmx6 () trivial) [6, 7, 8, 10, 55, 58] [[_], [_], [_], [_], [_], [_], [_]] [0, 1, 2, 3, 4, 5, 6] rfl rfl
     refine any_cutX (V := Unit) (fun _ => True) 7 #[true, false, false, false, false, false, false, false] (fun _ => [(6, .pointer (some ⟨γ1 2, 0, none⟩)), (7, .pointer (some ⟨γ1 3, 0, none⟩)), (8, .int .i64 ((raiseV (⟨0, 0, r.tw⟩ : Fq) t 268435456).2)), (9, .pointer (some ⟨γ3 0, 0, none⟩)), (11, .pointer (some ⟨γ47 0, 0, none⟩)), (54, .agg #[.int .u64 ((lessV ((overV t r.tw).1) (boost * r.each)).1.hi), .int .u64 ((lessV ((overV t r.tw).1) (boost * r.each)).1.lo), .int .u64 ((lessV ((overV t r.tw).1) (boost * r.each)).1.w)])]) (fun _ => [bx (γ47 0) (#[.int .u64 ((raiseV (⟨0, 0, r.tw⟩ : Fq) t 268435456).1.hi), .int .u64 ((raiseV (⟨0, 0, r.tw⟩ : Fq) t 268435456).1.lo), .int .u64 ((raiseV (⟨0, 0, r.tw⟩ : Fq) t 268435456).1.w)]) 33, bx (γ25 0) (#[.int .u64 ((lessV ((overV t r.tw).1) (boost * r.each)).1.hi), .int .u64 ((lessV ((overV t r.tw).1) (boost * r.each)).1.lo), .int .u64 ((lessV ((overV t r.tw).1) (boost * r.each)).1.w)]) 33, bx (γ3 0) (#[.int .u64 ((overV t r.tw).1.hi), .int .u64 ((overV t r.tw).1.lo), .int .u64 ((overV t r.tw).1.w)]) 33, bx (γ1 3) (#[.int .u64 0, .int .u64 0, .int .u64 0]) 33, bx (γ1 2) (#[.int .u64 0, .int .u64 0, .int .u64 0]) 33, bx (γ1 1) (#[.int .i64 r.id, .int .i64 r.each, .int .u64 r.th, .int .u64 r.tl, .int .u64 r.tw]) 35, bx (γ1 0) (#[.int .u64 t.hi, .int .u64 t.lo, .int .u64 t.w]) 33]) ?_ (fun hmx1 => ?_)
     ·
      rintro _ _
      refine any_fork [1, 4] (by kernel_rfl) (by simp) (each_cons _ rfl ?_ (each_cons _ rfl ?_ (each_nil)))
      ·
       refine qo0 1 [(1, .go (owns 0 0 3))] [6, 7, 8, 9, 54] [(55, .agg #[.int .u64 ((raiseV (⟨0, 0, r.tw⟩ : Fq) t 268435456).1.hi), .int .u64 ((raiseV (⟨0, 0, r.tw⟩ : Fq) t 268435456).1.lo), .int .u64 ((raiseV (⟨0, 0, r.tw⟩ : Fq) t 268435456).1.w)])] ?_
       refine od_ ?_
       exact wk (hmx4 () trivial) [6, 7, 8, 9, 54, 55] [[_], [_], [_], [_], [_], [_], [_]] [0, 1, 2, 3, 4, 5, 6] rfl rfl
      ·
       refine qo0 1 [(4, .go (owns 2 0 3))] [6, 7, 8, 11, 54] [(58, .agg #[.int .u64 ((overV t r.tw).1.hi), .int .u64 ((overV t r.tw).1.lo), .int .u64 ((overV t r.tw).1.w)])] ?_
       refine od_ ?_
       exact wk (hmx5 () trivial) [6, 7, 8, 11, 54, 58] [[_], [_], [_], [_], [_], [_], [_]] [0, 1, 2, 3, 4, 5, 6] rfl rfl
     refine any_fork [0, 1, 4] (by kernel_rfl) (by simp) (each_cons _ rfl ?_ (each_cons _ rfl ?_ (each_cons _ rfl ?_ (each_nil))))
     ·
      refine qo0 1 [(0, .go (owns 1 0 3))] [6, 7, 8, 9, 11] [(54, .agg #[.int .u64 ((lessV ((overV t r.tw).1) (boost * r.each)).1.hi), .int .u64 ((lessV ((overV t r.tw).1) (boost * r.each)).1.lo), .int .u64 ((lessV ((overV t r.tw).1) (boost * r.each)).1.w)])] ?_
      refine od_ ?_
      exact wk (hmx1 () trivial) [6, 7, 8, 9, 11, 54] [[_], [_], [_], [_], [_], [_], [_]] [0, 1, 2, 3, 4, 5, 6] rfl rfl
     ·
      refine qo0 1 [(1, .go (owns 0 0 3))] [6, 7, 8, 9, 10] [(55, .agg #[.int .u64 ((raiseV (⟨0, 0, r.tw⟩ : Fq) t 268435456).1.hi), .int .u64 ((raiseV (⟨0, 0, r.tw⟩ : Fq) t 268435456).1.lo), .int .u64 ((raiseV (⟨0, 0, r.tw⟩ : Fq) t 268435456).1.w)])] ?_
      refine od_ ?_
      exact wk (hmx2 () trivial) [6, 7, 8, 9, 10, 55] [[_], [_], [_], [_], [_], [_], [_]] [0, 1, 2, 3, 4, 5, 6] rfl rfl
     ·
      refine qo0 1 [(4, .go (owns 2 0 3))] [6, 7, 8, 10, 11] [(58, .agg #[.int .u64 ((overV t r.tw).1.hi), .int .u64 ((overV t r.tw).1.lo), .int .u64 ((overV t r.tw).1.w)])] ?_
      refine od_ ?_
      exact wk (hmx3 () trivial) [6, 7, 8, 10, 11, 58] [[_], [_], [_], [_], [_], [_], [_]] [0, 1, 2, 3, 4, 5, 6] rfl rfl
    rintro γ110 _
    refine any_nil (by kernel_rfl) ?_
    refine ds_ (rt (owns 5 0 3 ++ owns 4 0 3) (.tuple #[.agg #[.int .u64 ((greatV ((lessV ((overV t r.tw).1) (boost * r.each)).1) ((raiseV (⟨0, 0, r.tw⟩ : Fq) t 268435456).1)).hi), .int .u64 ((greatV ((lessV ((overV t r.tw).1) (boost * r.each)).1) ((raiseV (⟨0, 0, r.tw⟩ : Fq) t 268435456).1)).lo), .int .u64 ((greatV ((lessV ((overV t r.tw).1) (boost * r.each)).1) ((raiseV (⟨0, 0, r.tw⟩ : Fq) t 268435456).1)).w)], .agg #[.int .u64 ((overV t r.tw).1.hi), .int .u64 ((overV t r.tw).1.lo), .int .u64 ((overV t r.tw).1.w)], .int .i64 0]) ?_)
    exact fun w' hw => ⟨by rw [bounds_4 q5 q27 q49], hw.below⟩
end Go.Proofs.Ytnhkecfapohlgaa

/-! Who is lifted; plain. -/
namespace Go.Proofs.Ytnhkecfapohlgaa
open Go Go.RowKit

theorem rd_row {w : World} {g k : Nat} {cs : Array Value} {T : TypeId} {f : Nat × Nat} (h : w.heap[g]? = some (.cells cs T f)) : Rd w g (0 + 0 * k) cs.toList := fun j u hj => by
  rw [show (⟨g, 0 + 0 * k + j, none⟩ : Addr) = ⟨g, j, none⟩ from by congr 1; omega, cell_own h]
  simpa using hj
def clR (tp : Fq) (r : Rn) : Rn := ⟨r.id, r.each, (raiseV r.t tp 268435456).1.hi, (raiseV r.t tp 268435456).1.lo, (raiseV r.t tp 268435456).1.w⟩
def clE (tp : Fq) (r : Rn) : Int := (raiseV r.t tp 268435456).2
def chg (tp : Fq) (r : Rn) : Bool := decide (¬ (raiseV r.t tp 268435456).1 = r.t)
def errL (g : Rn → Int) : List Rn → Int
  | [] => 0
  | r :: l => if g r ≠ 0 then g r else errL g l
def mapTo (g : Rn → Rn) (ts : List Rn) (j : Nat) : List Rn := (ts.take j).map g ++ ts.drop j
def outTo (p : Rn → Bool) (ts : List Rn) (j : Nat) : List Int := ((ts.take j).filter p).map Rn.id
def clipV (ts : List Rn) : List Rn × List Int × Int :=
  if chkQ ts = true then (if errL (clE (topV ts).1) ts ≠ 0 then ([], [], errL (clE (topV ts).1) ts) else (ts.map (clR (topV ts).1), (ts.filter (chg (topV ts).1)).map Rn.id, 0)) else ([], [], 200)
section
variable {tp : Fq} {r x : Rn} {ts : List Rn} {g : Rn → Rn} {e : Rn → Int} {p : Rn → Bool} {j : Nat}
theorem outTo_yes (hx : ts[j]? = some x) (h : p x = true) : outTo p ts (j + 1) = outTo p ts j ++ [x.id] := by unfold outTo; rw [List.take_add_one, hx, List.filter_append, List.map_append]; simp [h]
theorem outTo_no (hx : ts[j]? = some x) (h : p x = false) : outTo p ts (j + 1) = outTo p ts j := by unfold outTo; rw [List.take_add_one, hx, List.filter_append, List.map_append]; simp [h]
theorem outTo_all (h : ts.length ≤ j) : outTo p ts j = (ts.filter p).map Rn.id := by unfold outTo; rw [List.take_of_length_le h]
end
end Go.Proofs.Ytnhkecfapohlgaa
