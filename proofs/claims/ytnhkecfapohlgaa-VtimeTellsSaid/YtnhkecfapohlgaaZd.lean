/- Texts of this proof, one behind the other. -/
import Derived.Test.YtnhkecfapohlgaaZc
import Derived.Test.YtnhkecfapohlgaaZb
/-! The greatest of times; between which one is held. -/
namespace Go.Proofs.Ytnhkecfapohlgaa
open Go Go.RowKit

set_option maxRecDepth 100000 in
theorem maxf_t (p : Option Addr) (n cap : Nat) (l : List Fq) (w : World)
 (hsl : Sv w p l) (hn : n = l.length) (hb : n ≤ 1000)
 (h1 : 1 ≤ n) (hU : ∀ x ∈ l, x.U)
 : Calls Try.prog 81 #[.slice p n cap, .func (.func 13) #[] #[]] w fun e w' => e = .returned (.agg #[.int .u64 (maxL l).hi, .int .u64 (maxL l).lo, .int .u64 (maxL l).w]) ∧ Below w.heap.size w w' := by
 refine enter (Hs.start w) Try.func81 rfl Try.ntmps81 rfl (sq_ (ma0 [] [0, 1] (fun γ1 => [(4, .pointer (some ⟨γ1 0, 0, none⟩))]) (fun γ1 L => bx (γ1 0) (#[.int .u64 0, .int .u64 0, .int .u64 0]) 33 :: L) (fun γ1 => ds_ (sq_ (sq_ (qa [(2, .no)] [0, 1, 4] [(9, .bool false)] ([¬ (((n : Nat) : Int) < (1 : Int))]) (al1 (by omega)) (ds_ (f_ (at_skip (ds_ (sq_ ?_)))))))))))
 obtain ⟨b4, o4, rfl⟩ := hsl.pos (i := 0) (by omega)
 obtain ⟨x6, hx6⟩ := get_some (l := l) (m := 0) (by omega)
 have hUx6 := hU x6 (List.mem_of_getElem? hx6)
 refine ma [(1, .at b4 o4 0), (2, .go (outs b4 (o4 + 0 * 3) [.int .u64 x6.hi, .int .u64 x6.lo, .int .u64 x6.w])), (4, .go (owns 0 0 3))] [0, 1, 4] (fun γ7 => [(5, .pointer (some ⟨γ7 0, 0, none⟩))]) (fun γ7 L => bx (γ7 0) (#[.int .u64 x6.hi, .int .u64 x6.lo, .int .u64 x6.w]) 33 :: L) (fun γ7 => [(some ⟨b4, o4, none⟩ : Option Addr) = some ⟨b4, o4, none⟩, 0 = ((0 : Nat) : Int), 0 < n] ++ (cellsP w b4 (o4 + 0 * 3) [.int .u64 x6.hi, .int .u64 x6.lo, .int .u64 x6.w])) (fun γ7 => (alA (al2 rfl (al2 rfl (al1 (by omega)))) (rd_pre (hsl.get hx6) _ rfl))) (fun γ7 => ds_ (sq_ (sq_ (qa0 [] [0, 1, 4, 5] [(6, .int .i64 1)] (ds_ (at_block (at_loop (α := Nat × Fq) [0, 1, 4, 5, 6] (fun ⟨j, m⟩ => [(0, .slice (some ⟨b4, o4, none⟩) n cap), (1, .func (.func 13) #[] #[]), (4, .pointer (some ⟨γ1 0, 0, none⟩)), (5, .pointer (some ⟨γ7 0, 0, none⟩)), (6, .int .i64 (j : Nat))]) (fun ⟨j, m⟩ => [bx (γ7 0) (#[.int .u64 m.hi, .int .u64 m.lo, .int .u64 m.w]) 33, bx (γ1 0) (#[.int .u64 0, .int .u64 0, .int .u64 0]) 33]) (fun ⟨j, m⟩ => 1 ≤ j ∧ j ≤ n ∧ maxL (l.take j) = m ∧ m.U) (fun ⟨j, m⟩ => n - j) (1, x6) (by kernel_rfl) rfl ⟨Nat.le_refl _, h1, max_start hx6, hUx6⟩ ?_)))))))
 rintro ⟨j, m⟩
 rintro ⟨h1, hj, hm, hUm⟩
 refine sq_ (sq_ ?_)
 by_cases q10 : ((j : Nat) : Int) < ((n : Nat) : Int)
 ·
  refine qa [(3, .yes)] [0, 1, 4, 5, 6] [(17, .bool true)] ([((j : Nat) : Int) < ((n : Nat) : Int)]) (al1 q10) (ds_ (t_ (at_skip (ds_ (sq_ (at_block (sq_ ?_)))))))
  obtain ⟨x13, hx13⟩ := get_some (l := l) (m := j) (by omega)
  have hUx13 := hU x13 (List.mem_of_getElem? hx13)
  refine at_calm rfl (by kernel_rfl) (by kernel_rfl) ?_
  refine cm 6 [(3, .at b4 o4 j), (4, .go (outs b4 (o4 + j * 3) [.int .u64 x13.hi, .int .u64 x13.lo, .int .u64 x13.w])), (5, .go (owns 0 0 3))] [0, 1, 4, 5, 6] [(20, .func (.func 13) #[] #[]), (24, .agg #[.int .u64 x13.hi, .int .u64 x13.lo, .int .u64 x13.w]), (25, .agg #[.int .u64 m.hi, .int .u64 m.lo, .int .u64 m.w])] ([(some ⟨b4, o4, none⟩ : Option Addr) = some ⟨b4, o4, none⟩, (j : Nat) = ((j : Nat) : Int), j < n] ++ (cellsP w b4 (o4 + j * 3) [.int .u64 x13.hi, .int .u64 x13.lo, .int .u64 x13.w])) (by kernel_rfl) rfl (alA (al2 rfl (al2 rfl (al1 (by omega)))) (rd_pre (hsl.get hx13) _ rfl)) ?_
  refine cK (.int .i64 (cmpF x13 m)) Try.call13 (fun w hw => fcmp_t x13 m w hUx13 hUm) ?_
  by_cases q16 : ((cmpF x13 m) : Int) > (0 : Int)
  ·
   refine cm 1 [(7, .yes)] [0, 1, 4, 5, 6] [(27, .bool true)] ([((cmpF x13 m) : Int) > (0 : Int)]) (by kernel_rfl) rfl (al1 q16) ?_
   refine calm_nil' ?_
   refine ds_ (t_ (ma [(2, .at b4 o4 j), (3, .go (outs b4 (o4 + j * 3) [.int .u64 x13.hi, .int .u64 x13.lo, .int .u64 x13.w])), (4, .go (owns 0 0 3))] [0, 1, 4, 5, 6] (fun _ => []) (fun _ L => (L.set 0 (bx (γ7 0) (#[.int .u64 x13.hi, .int .u64 x13.lo, .int .u64 x13.w]) 33))) (fun _ => [(some ⟨b4, o4, none⟩ : Option Addr) = some ⟨b4, o4, none⟩, (j : Nat) = ((j : Nat) : Int), j < n] ++ (cellsP w b4 (o4 + j * 3) [.int .u64 x13.hi, .int .u64 x13.lo, .int .u64 x13.w])) (fun _ => (alA (al2 rfl (al2 rfl (al1 (by omega)))) (rd_pre (hsl.get hx13) _ rfl))) (fun _ => done_block (ds_ (qa [(1, .fit)] [0, 1, 4, 5] [(6, .int .i64 (j + 1 : Nat))] ([Fit .i64 ((j + 1 : Nat))]) (al1 (fit64 (by omega) (by omega))) ?_)))))
   exact dr [0, 1, 4, 5, 6] (j + 1, x13) ⟨by omega, by omega, by rw [max_on hm h1 hx13, maxS_yes (by omega)], hUx13⟩
  ·
   refine cm 1 [(7, .no)] [0, 1, 4, 5, 6] [(27, .bool false)] ([¬ (((cmpF x13 m) : Int) > (0 : Int))]) (by kernel_rfl) rfl (al1 q16) ?_
   refine calm_nil' ?_
   refine ds_ (f_ (at_skip (done_block (ds_ (qa [(1, .fit)] [0, 1, 4, 5] [(6, .int .i64 (j + 1 : Nat))] ([Fit .i64 ((j + 1 : Nat))]) (al1 (fit64 (by omega) (by omega))) ?_)))))
   exact dr [0, 1, 4, 5, 6] (j + 1, m) ⟨by omega, by omega, by rw [max_on hm h1 hx13, maxS_no (by omega)], hUm⟩
 ·
  refine qa [(3, .no)] [0, 1, 4, 5, 6] [(17, .bool false)] ([¬ (((j : Nat) : Int) < ((n : Nat) : Int))]) (al1 q10) (ds_ (f_ (at_leave _ rfl (ds_ (sq_ (ma0 [(0, .go (owns 0 0 3)), (1, .go (owns 1 0 3))] [4] (fun _ => []) (fun _ L => (L.set 1 (bx (γ1 0) (#[.int .u64 m.hi, .int .u64 m.lo, .int .u64 m.w]) 33))) (fun _ => ds_ (rt (owns 1 0 3) (.agg #[.int .u64 m.hi, .int .u64 m.lo, .int .u64 m.w]) ?_))))))))
  exact fun w' hw => ⟨by rw [← max_end (l := l) (j := j) (by omega), hm], hw.below⟩

set_option maxRecDepth 100000 in
theorem great_t (p : Option Addr) (n cap : Nat) (l : List Fq) (w : World)
 (hsl : Sv w p l) (hn : n = l.length) (hb : n ≤ 1000)
 (h1 : 1 ≤ n) (hU : ∀ x ∈ l, x.U)
 : Calls Try.prog 62 #[.slice p n cap] w fun e w' => e = .returned (.agg #[.int .u64 (maxL l).hi, .int .u64 (maxL l).lo, .int .u64 (maxL l).w]) ∧ Below w.heap.size w w' := by
 refine enter (Hs.start w) Try.func62 rfl Try.ntmps62 rfl (sq_ (ma0 [] [0] (fun γ1 => [(2, .pointer (some ⟨γ1 0, 0, none⟩))]) (fun γ1 L => bx (γ1 0) (#[.int .u64 0, .int .u64 0, .int .u64 0]) 33 :: L) (fun γ1 => ds_ (sq_ (ao_ (qo0 1 [] [2] [(3, .slice p n cap)] (cD (.agg #[.int .u64 ((maxL l).hi), .int .u64 ((maxL l).lo), .int .u64 ((maxL l).w)]) Try.call81 (fun w hw => maxf_t p n cap l w (hsl.kept hw.below) hn hb h1 hU) (mo0 1 [(2, .go (owns 0 0 3))] [2] (fun _ => []) (fun _ L => (L.set 0 (bx (γ1 0) (#[.int .u64 ((maxL l).hi), .int .u64 ((maxL l).lo), .int .u64 ((maxL l).w)]) 33))) (fun _ => on_ (ds_ (rt (owns 0 0 3) (.agg #[.int .u64 ((maxL l).hi), .int .u64 ((maxL l).lo), .int .u64 ((maxL l).w)]) ?_)))))))))))
 exact fun w' hw => ⟨rfl, hw.below⟩

set_option maxRecDepth 100000 in
theorem bounds_t (t : Fq) (r : Rn) (boost : Int) (w : World)
 (hU : t.U) (hr : r.U) (he0 : 0 ≤ r.each) (he1 : r.each ≤ 8) (hm0 : 0 ≤ boost * r.each) (hm1 : boost * r.each ≤ 80000000)
 : Calls Try.prog 61 #[.agg #[.int .u64 t.hi, .int .u64 t.lo, .int .u64 t.w], .agg #[.int .i64 r.id, .int .i64 r.each, .int .u64 r.th, .int .u64 r.tl, .int .u64 r.tw], .int .u64 boost] w fun e w' => e = .returned (.tuple #[.agg #[.int .u64 (boundsV t r boost).1.hi, .int .u64 (boundsV t r boost).1.lo, .int .u64 (boundsV t r boost).1.w], .agg #[.int .u64 (boundsV t r boost).2.1.hi, .int .u64 (boundsV t r boost).2.1.lo, .int .u64 (boundsV t r boost).2.1.w], .int .i64 (boundsV t r boost).2.2]) ∧ Below w.heap.size w w' := by
 refine enter (Hs.start w) Try.func61 rfl Try.ntmps61 rfl (sq_ (ma0 [] [2] (fun γ1 => [(3, .pointer (some ⟨γ1 0, 0, none⟩)), (4, .pointer (some ⟨γ1 1, 0, none⟩)), (6, .pointer (some ⟨γ1 2, 0, none⟩)), (7, .pointer (some ⟨γ1 3, 0, none⟩))]) (fun γ1 L => bx (γ1 3) (#[.int .u64 0, .int .u64 0, .int .u64 0]) 33 :: bx (γ1 2) (#[.int .u64 0, .int .u64 0, .int .u64 0]) 33 :: bx (γ1 1) (#[.int .i64 r.id, .int .i64 r.each, .int .u64 r.th, .int .u64 r.tl, .int .u64 r.tw]) 35 :: bx (γ1 0) (#[.int .u64 t.hi, .int .u64 t.lo, .int .u64 t.w]) 33 :: L) (fun γ1 => ds_ (sq_ (ao_ (qo0 4 [(0, .go (owns 3 0 3)), (3, .go (owns 2 4 1))] [2, 3, 4, 6, 7] [(13, .agg #[.int .u64 t.hi, .int .u64 t.lo, .int .u64 t.w]), (16, .int .u64 r.tw)] (cD (.tuple #[.agg #[.int .u64 ((overV t r.tw).1.hi), .int .u64 ((overV t r.tw).1.lo), .int .u64 ((overV t r.tw).1.w)], .int .i64 ((overV t r.tw).2)]) Try.call38 (fun w hw => fover_t t r.tw w hU) (mo0 6 [(9, .go (owns 0 0 3))] [2, 3, 4, 6, 7] (fun γ3 => [(8, .int .i64 ((overV t r.tw).2)), (9, .pointer (some ⟨γ3 0, 0, none⟩))]) (fun γ3 L => bx (γ3 0) (#[.int .u64 ((overV t r.tw).1.hi), .int .u64 ((overV t r.tw).1.lo), .int .u64 ((overV t r.tw).1.w)]) 33 :: L) (fun γ3 => on_ (ds_ (sq_ (sq_ ?_))))))))))))
 by_cases q5 : ((overV t r.tw).2 : Int) ≠ (0 : Int)
 ·
  refine qa [(1, .yes)] [2, 3, 4, 6, 7, 8, 9] [(21, .bool true)] ([((overV t r.tw).2 : Int) ≠ (0 : Int)]) (al1 q5) (ds_ (t_ (sq_ ?_)))
  refine at_any (by kernel_rfl) ?_
  refine tk (m := 5) [2] [] [6, 7, 8] [(24, .int .i64 ((overV t r.tw).2))] ([]) #[false, false, true, false, false, false] al0 ?_
  refine any_cut 2 #[true, true, true, true, false, false] ([(6, .pointer (some ⟨γ1 2, 0, none⟩)), (7, .pointer (some ⟨γ1 3, 0, none⟩)), (8, .int .i64 ((overV t r.tw).2)), (23, .agg #[.int .u64 0, .int .u64 0, .int .u64 0]), (24, .int .i64 ((overV t r.tw).2))]) ([bx (γ3 0) (#[.int .u64 ((overV t r.tw).1.hi), .int .u64 ((overV t r.tw).1.lo), .int .u64 ((overV t r.tw).1.w)]) 33, bx (γ1 3) (#[.int .u64 0, .int .u64 0, .int .u64 0]) 33, bx (γ1 2) (#[.int .u64 0, .int .u64 0, .int .u64 0]) 33, bx (γ1 1) (#[.int .i64 r.id, .int .i64 r.each, .int .u64 r.th, .int .u64 r.tl, .int .u64 r.tw]) 35, bx (γ1 0) (#[.int .u64 t.hi, .int .u64 t.lo, .int .u64 t.w]) 33]) ?_ (fun hm => ?_)
  rotate_left
  ·
   refine any_fork [0, 1] (by kernel_rfl) (by simp) (each_cons _ rfl ?_ (each_cons _ rfl ?_ (each_nil)))
   ·
    refine qo0 1 [(0, .go (owns 2 0 3))] [6, 7, 8, 24] [(22, .agg #[.int .u64 0, .int .u64 0, .int .u64 0])] ?_
    refine od_ ?_
    refine any_fork [1, 3] (by kernel_rfl) (by simp) (each_cons _ rfl ?_ (each_cons _ rfl ?_ (each_nil)))
    ·
     refine qo0 1 [(1, .go (owns 1 0 3))] [6, 7, 8, 22, 24] [(23, .agg #[.int .u64 0, .int .u64 0, .int .u64 0])] ?_
     refine od_ ?_
     refine a1 3 rfl ?_
     refine qo0 1 [(3, .go (owns 2 0 3))] [6, 7, 8, 23, 24] [] ?_
     refine od_ ?_
     exact any_weak hm [6, 7, 8, 23, 24] (by kernel_rfl) rfl rfl rfl
    ·
     refine qo0 1 [(3, .go (owns 2 0 3))] [6, 7, 8, 24] [] ?_
     refine od_ ?_
     refine a1 1 rfl ?_
     refine qo0 1 [(1, .go (owns 1 0 3))] [6, 7, 8, 24] [(23, .agg #[.int .u64 0, .int .u64 0, .int .u64 0])] ?_
     refine od_ ?_
     exact any_weak hm [6, 7, 8, 23, 24] (by kernel_rfl) rfl rfl rfl
   ·
    refine qo0 1 [(1, .go (owns 1 0 3))] [6, 7, 8, 24] [(23, .agg #[.int .u64 0, .int .u64 0, .int .u64 0])] ?_
    refine od_ ?_
    refine a1 0 rfl ?_
    refine qo0 1 [(0, .go (owns 2 0 3))] [6, 7, 8, 23, 24] [(22, .agg #[.int .u64 0, .int .u64 0, .int .u64 0])] ?_
    refine od_ ?_
    refine a1 3 rfl ?_
    refine qo0 1 [(3, .go (owns 2 0 3))] [6, 7, 8, 23, 24] [] ?_
    refine od_ ?_
    exact any_weak hm [6, 7, 8, 23, 24] (by kernel_rfl) rfl rfl rfl
  refine a1 4 rfl ?_
  refine qo0 1 [(4, .go (owns 1 0 3))] [6, 7, 8, 24] [] ?_
  refine od_ ?_
  refine tk (m := 0) [5] [] [6, 7] [(8, .int .i64 ((overV t r.tw).2))] ([]) #[true, true, true, true, true, true] al0 ?_
  refine any_nil (by kernel_rfl) ?_
  refine ds_ (rt (owns 2 0 3 ++ owns 1 0 3) (.tuple #[.agg #[.int .u64 0, .int .u64 0, .int .u64 0], .agg #[.int .u64 0, .int .u64 0, .int .u64 0], .int .i64 ((overV t r.tw).2)]) ?_)
  exact fun w' hw => ⟨by rw [bounds_1 q5], hw.below⟩
 ·
  refine qa [(1, .no)] [2, 3, 4, 6, 7, 8, 9] [(21, .bool false)] ([¬ (((overV t r.tw).2 : Int) ≠ (0 : Int))]) (al1 q5) (ds_ (f_ (at_skip (ds_ (sq_ (ao_ (qo 6 [(0, .go (owns 0 0 3)), (3, .go (owns 3 1 1)), (4, .fit), (5, .fit)] [3, 4, 6, 7, 9] [(26, .agg #[.int .u64 ((overV t r.tw).1.hi), .int .u64 ((overV t r.tw).1.lo), .int .u64 ((overV t r.tw).1.w)]), (31, .int .u64 (boost * r.each))] ([Fit .u64 (r.each)] ++ ([Fit .u64 (boost * r.each)])) (alA (al1 (fitU (by omega) (by omega))) (al1 (fitU (by omega) (by omega)))) (cD (.tuple #[.agg #[.int .u64 ((lessV ((overV t r.tw).1) (boost * r.each)).1.hi), .int .u64 ((lessV ((overV t r.tw).1) (boost * r.each)).1.lo), .int .u64 ((lessV ((overV t r.tw).1) (boost * r.each)).1.w)], .int .i64 ((lessV ((overV t r.tw).1) (boost * r.each)).2)]) Try.call14 (fun w hw => fless_t ((overV t r.tw).1) (boost * r.each) w (over_U hU) (by omega) (by omega)) (mo0 6 [(11, .go (owns 0 0 3))] [3, 4, 6, 7, 9] (fun γ25 => [(8, .int .i64 ((lessV ((overV t r.tw).1) (boost * r.each)).2)), (10, .pointer (some ⟨γ25 0, 0, none⟩))]) (fun γ25 L => bx (γ25 0) (#[.int .u64 ((lessV ((overV t r.tw).1) (boost * r.each)).1.hi), .int .u64 ((lessV ((overV t r.tw).1) (boost * r.each)).1.lo), .int .u64 ((lessV ((overV t r.tw).1) (boost * r.each)).1.w)]) 33 :: L) (fun γ25 => on_ (ds_ (sq_ (sq_ ?_)))))))))))))
  by_cases q27 : ((lessV ((overV t r.tw).1) (boost * r.each)).2 : Int) ≠ (0 : Int)
  ·
   refine qa [(1, .yes)] [3, 4, 6, 7, 8, 9, 10] [(36, .bool true)] ([((lessV ((overV t r.tw).1) (boost * r.each)).2 : Int) ≠ (0 : Int)]) (al1 q27) (ds_ (t_ (sq_ ?_)))
   refine at_any (by kernel_rfl) ?_
   refine tk (m := 5) [2] [] [6, 7, 8] [(39, .int .i64 ((lessV ((overV t r.tw).1) (boost * r.each)).2))] ([]) #[false, false, true, false, false, false] al0 ?_
   refine any_cut 2 #[true, true, true, true, false, false] ([(6, .pointer (some ⟨γ1 2, 0, none⟩)), (7, .pointer (some ⟨γ1 3, 0, none⟩)), (8, .int .i64 ((lessV ((overV t r.tw).1) (boost * r.each)).2)), (38, .agg #[.int .u64 0, .int .u64 0, .int .u64 0]), (39, .int .i64 ((lessV ((overV t r.tw).1) (boost * r.each)).2))]) ([bx (γ25 0) (#[.int .u64 ((lessV ((overV t r.tw).1) (boost * r.each)).1.hi), .int .u64 ((lessV ((overV t r.tw).1) (boost * r.each)).1.lo), .int .u64 ((lessV ((overV t r.tw).1) (boost * r.each)).1.w)]) 33, bx (γ3 0) (#[.int .u64 ((overV t r.tw).1.hi), .int .u64 ((overV t r.tw).1.lo), .int .u64 ((overV t r.tw).1.w)]) 33, bx (γ1 3) (#[.int .u64 0, .int .u64 0, .int .u64 0]) 33, bx (γ1 2) (#[.int .u64 0, .int .u64 0, .int .u64 0]) 33, bx (γ1 1) (#[.int .i64 r.id, .int .i64 r.each, .int .u64 r.th, .int .u64 r.tl, .int .u64 r.tw]) 35, bx (γ1 0) (#[.int .u64 t.hi, .int .u64 t.lo, .int .u64 t.w]) 33]) ?_ (fun hm => ?_)
   rotate_left
   ·
    refine any_fork [0, 1] (by kernel_rfl) (by simp) (each_cons _ rfl ?_ (each_cons _ rfl ?_ (each_nil)))
    ·
     refine qo0 1 [(0, .go (owns 3 0 3))] [6, 7, 8, 39] [(37, .agg #[.int .u64 0, .int .u64 0, .int .u64 0])] ?_
     refine od_ ?_
     refine any_fork [1, 3] (by kernel_rfl) (by simp) (each_cons _ rfl ?_ (each_cons _ rfl ?_ (each_nil)))
     ·
      refine qo0 1 [(1, .go (owns 2 0 3))] [6, 7, 8, 37, 39] [(38, .agg #[.int .u64 0, .int .u64 0, .int .u64 0])] ?_
      refine od_ ?_
      refine a1 3 rfl ?_
      refine qo0 1 [(3, .go (owns 3 0 3))] [6, 7, 8, 38, 39] [] ?_
      refine od_ ?_
      exact any_weak hm [6, 7, 8, 38, 39] (by kernel_rfl) rfl rfl rfl
     ·
      refine qo0 1 [(3, .go (owns 3 0 3))] [6, 7, 8, 39] [] ?_
      refine od_ ?_
      refine a1 1 rfl ?_
      refine qo0 1 [(1, .go (owns 2 0 3))] [6, 7, 8, 39] [(38, .agg #[.int .u64 0, .int .u64 0, .int .u64 0])] ?_
      refine od_ ?_
      exact any_weak hm [6, 7, 8, 38, 39] (by kernel_rfl) rfl rfl rfl
    ·
     refine qo0 1 [(1, .go (owns 2 0 3))] [6, 7, 8, 39] [(38, .agg #[.int .u64 0, .int .u64 0, .int .u64 0])] ?_
     refine od_ ?_
     refine a1 0 rfl ?_
     refine qo0 1 [(0, .go (owns 3 0 3))] [6, 7, 8, 38, 39] [(37, .agg #[.int .u64 0, .int .u64 0, .int .u64 0])] ?_
     refine od_ ?_
     refine a1 3 rfl ?_
     refine qo0 1 [(3, .go (owns 3 0 3))] [6, 7, 8, 38, 39] [] ?_
     refine od_ ?_
     exact any_weak hm [6, 7, 8, 38, 39] (by kernel_rfl) rfl rfl rfl
   refine a1 4 rfl ?_
   refine qo0 1 [(4, .go (owns 2 0 3))] [6, 7, 8, 39] [] ?_
   refine od_ ?_
   refine tk (m := 0) [5] [] [6, 7] [(8, .int .i64 ((lessV ((overV t r.tw).1) (boost * r.each)).2))] ([]) #[true, true, true, true, true, true] al0 ?_
   refine any_nil (by kernel_rfl) ?_
   refine ds_ (rt (owns 3 0 3 ++ owns 2 0 3) (.tuple #[.agg #[.int .u64 0, .int .u64 0, .int .u64 0], .agg #[.int .u64 0, .int .u64 0, .int .u64 0], .int .i64 ((lessV ((overV t r.tw).1) (boost * r.each)).2)]) ?_)
   exact fun w' hw => ⟨by rw [bounds_2 q5 q27], hw.below⟩
  ·
   refine qa [(1, .no)] [3, 4, 6, 7, 8, 9, 10] [(36, .bool false)] ([¬ (((lessV ((overV t r.tw).1) (boost * r.each)).2 : Int) ≠ (0 : Int))]) (al1 q27) (ds_ (f_ (at_skip (ds_ (sq_ (ao_ (qo0 5 [(2, .go (owns 4 4 1)), (4, .go (owns 5 0 3))] [6, 7, 9, 10] [(44, .agg #[.int .u64 0, .int .u64 0, .int .u64 r.tw]), (45, .agg #[.int .u64 t.hi, .int .u64 t.lo, .int .u64 t.w])] (cD (.tuple #[.agg #[.int .u64 ((raiseV (⟨0, 0, r.tw⟩ : Fq) t 268435456).1.hi), .int .u64 ((raiseV (⟨0, 0, r.tw⟩ : Fq) t 268435456).1.lo), .int .u64 ((raiseV (⟨0, 0, r.tw⟩ : Fq) t 268435456).1.w)], .int .i64 ((raiseV (⟨0, 0, r.tw⟩ : Fq) t 268435456).2)]) Try.call64 (fun w hw => fraise_t (⟨0, 0, r.tw⟩ : Fq) t 268435456 w (w_U hr.t.w0 hr.t.w1) hU (by omega) (by omega)) (mo0 6 [(10, .go (owns 0 0 3))] [6, 7, 9, 10] (fun γ47 => [(8, .int .i64 ((raiseV (⟨0, 0, r.tw⟩ : Fq) t 268435456).2)), (11, .pointer (some ⟨γ47 0, 0, none⟩))]) (fun γ47 L => bx (γ47 0) (#[.int .u64 ((raiseV (⟨0, 0, r.tw⟩ : Fq) t 268435456).1.hi), .int .u64 ((raiseV (⟨0, 0, r.tw⟩ : Fq) t 268435456).1.lo), .int .u64 ((raiseV (⟨0, 0, r.tw⟩ : Fq) t 268435456).1.w)]) 33 :: L) (fun γ47 => on_ (ds_ (sq_ (sq_ ?_)))))))))))))
   by_cases q49 : ((raiseV (⟨0, 0, r.tw⟩ : Fq) t 268435456).2 : Int) ≠ (0 : Int)
   ·
    refine qa [(1, .yes)] [6, 7, 8, 9, 10, 11] [(50, .bool true)] ([((raiseV (⟨0, 0, r.tw⟩ : Fq) t 268435456).2 : Int) ≠ (0 : Int)]) (al1 q49) (ds_ (t_ (sq_ ?_)))
    refine at_any (by kernel_rfl) ?_
    refine tk (m := 5) [2] [] [6, 7, 8] [(53, .int .i64 ((raiseV (⟨0, 0, r.tw⟩ : Fq) t 268435456).2))] ([]) #[false, false, true, false, false, false] al0 ?_
    refine any_cut 2 #[true, true, true, true, false, false] ([(6, .pointer (some ⟨γ1 2, 0, none⟩)), (7, .pointer (some ⟨γ1 3, 0, none⟩)), (8, .int .i64 ((raiseV (⟨0, 0, r.tw⟩ : Fq) t 268435456).2)), (52, .agg #[.int .u64 0, .int .u64 0, .int .u64 0]), (53, .int .i64 ((raiseV (⟨0, 0, r.tw⟩ : Fq) t 268435456).2))]) ([bx (γ47 0) (#[.int .u64 ((raiseV (⟨0, 0, r.tw⟩ : Fq) t 268435456).1.hi), .int .u64 ((raiseV (⟨0, 0, r.tw⟩ : Fq) t 268435456).1.lo), .int .u64 ((raiseV (⟨0, 0, r.tw⟩ : Fq) t 268435456).1.w)]) 33, bx (γ25 0) (#[.int .u64 ((lessV ((overV t r.tw).1) (boost * r.each)).1.hi), .int .u64 ((lessV ((overV t r.tw).1) (boost * r.each)).1.lo), .int .u64 ((lessV ((overV t r.tw).1) (boost * r.each)).1.w)]) 33, bx (γ3 0) (#[.int .u64 ((overV t r.tw).1.hi), .int .u64 ((overV t r.tw).1.lo), .int .u64 ((overV t r.tw).1.w)]) 33, bx (γ1 3) (#[.int .u64 0, .int .u64 0, .int .u64 0]) 33, bx (γ1 2) (#[.int .u64 0, .int .u64 0, .int .u64 0]) 33, bx (γ1 1) (#[.int .i64 r.id, .int .i64 r.each, .int .u64 r.th, .int .u64 r.tl, .int .u64 r.tw]) 35, bx (γ1 0) (#[.int .u64 t.hi, .int .u64 t.lo, .int .u64 t.w]) 33]) ?_ (fun hm => ?_)
    rotate_left
    ·
     refine any_fork [0, 1] (by kernel_rfl) (by simp) (each_cons _ rfl ?_ (each_cons _ rfl ?_ (each_nil)))
     ·
      refine qo0 1 [(0, .go (owns 4 0 3))] [6, 7, 8, 53] [(51, .agg #[.int .u64 0, .int .u64 0, .int .u64 0])] ?_
      refine od_ ?_
      refine any_fork [1, 3] (by kernel_rfl) (by simp) (each_cons _ rfl ?_ (each_cons _ rfl ?_ (each_nil)))
      ·
       refine qo0 1 [(1, .go (owns 3 0 3))] [6, 7, 8, 51, 53] [(52, .agg #[.int .u64 0, .int .u64 0, .int .u64 0])] ?_
       refine od_ ?_
       refine a1 3 rfl ?_
       refine qo0 1 [(3, .go (owns 4 0 3))] [6, 7, 8, 52, 53] [] ?_
       refine od_ ?_
       exact any_weak hm [6, 7, 8, 52, 53] (by kernel_rfl) rfl rfl rfl
      ·
       refine qo0 1 [(3, .go (owns 4 0 3))] [6, 7, 8, 53] [] ?_
       refine od_ ?_
       refine a1 1 rfl ?_
       refine qo0 1 [(1, .go (owns 3 0 3))] [6, 7, 8, 53] [(52, .agg #[.int .u64 0, .int .u64 0, .int .u64 0])] ?_
       refine od_ ?_
       exact any_weak hm [6, 7, 8, 52, 53] (by kernel_rfl) rfl rfl rfl
     ·
      refine qo0 1 [(1, .go (owns 3 0 3))] [6, 7, 8, 53] [(52, .agg #[.int .u64 0, .int .u64 0, .int .u64 0])] ?_
      refine od_ ?_
      refine a1 0 rfl ?_
      refine qo0 1 [(0, .go (owns 4 0 3))] [6, 7, 8, 52, 53] [(51, .agg #[.int .u64 0, .int .u64 0, .int .u64 0])] ?_
      refine od_ ?_
      refine a1 3 rfl ?_
      refine qo0 1 [(3, .go (owns 4 0 3))] [6, 7, 8, 52, 53] [] ?_
      refine od_ ?_
      exact any_weak hm [6, 7, 8, 52, 53] (by kernel_rfl) rfl rfl rfl
    refine a1 4 rfl ?_
    refine qo0 1 [(4, .go (owns 3 0 3))] [6, 7, 8, 53] [] ?_
    refine od_ ?_
    refine tk (m := 0) [5] [] [6, 7] [(8, .int .i64 ((raiseV (⟨0, 0, r.tw⟩ : Fq) t 268435456).2))] ([]) #[true, true, true, true, true, true] al0 ?_
    refine any_nil (by kernel_rfl) ?_
    refine ds_ (rt (owns 4 0 3 ++ owns 3 0 3) (.tuple #[.agg #[.int .u64 0, .int .u64 0, .int .u64 0], .agg #[.int .u64 0, .int .u64 0, .int .u64 0], .int .i64 ((raiseV (⟨0, 0, r.tw⟩ : Fq) t 268435456).2)]) ?_)
    exact fun w' hw => ⟨by rw [bounds_3 q5 q27 q49], hw.below⟩
   ·
    refine qa [(1, .no)] [6, 7, 8, 9, 10, 11] [(50, .bool false)] ([¬ (((raiseV (⟨0, 0, r.tw⟩ : Fq) t 268435456).2 : Int) ≠ (0 : Int))]) (al1 q49) (ds_ (f_ (at_skip (ds_ (sq_ ?_)))))
    refine at_any (by kernel_rfl) ?_
    refine any_cutX (V := (Nat → Nat)) (fun γ110 => True) 0 #[true, true, true, true, true, true, true, true] (fun γ110 => [(6, .pointer (some ⟨γ1 2, 0, none⟩)), (7, .pointer (some ⟨γ1 3, 0, none⟩)), (8, .int .i64 0)]) (fun γ110 => [bx (γ110 0) (#[.int .u64 ((lessV ((overV t r.tw).1) (boost * r.each)).1.hi), .int .u64 ((lessV ((overV t r.tw).1) (boost * r.each)).1.lo), .int .u64 ((lessV ((overV t r.tw).1) (boost * r.each)).1.w), .int .u64 ((raiseV (⟨0, 0, r.tw⟩ : Fq) t 268435456).1.hi), .int .u64 ((raiseV (⟨0, 0, r.tw⟩ : Fq) t 268435456).1.lo), .int .u64 ((raiseV (⟨0, 0, r.tw⟩ : Fq) t 268435456).1.w)]) 33, bx (γ47 0) (#[.int .u64 ((raiseV (⟨0, 0, r.tw⟩ : Fq) t 268435456).1.hi), .int .u64 ((raiseV (⟨0, 0, r.tw⟩ : Fq) t 268435456).1.lo), .int .u64 ((raiseV (⟨0, 0, r.tw⟩ : Fq) t 268435456).1.w)]) 33, bx (γ25 0) (#[.int .u64 ((lessV ((overV t r.tw).1) (boost * r.each)).1.hi), .int .u64 ((lessV ((overV t r.tw).1) (boost * r.each)).1.lo), .int .u64 ((lessV ((overV t r.tw).1) (boost * r.each)).1.w)]) 33, bx (γ3 0) (#[.int .u64 ((overV t r.tw).1.hi), .int .u64 ((overV t r.tw).1.lo), .int .u64 ((overV t r.tw).1.w)]) 33, bx (γ1 3) (#[.int .u64 ((overV t r.tw).1.hi), .int .u64 ((overV t r.tw).1.lo), .int .u64 ((overV t r.tw).1.w)]) 33, bx (γ1 2) (#[.int .u64 ((greatV ((lessV ((overV t r.tw).1) (boost * r.each)).1) ((raiseV (⟨0, 0, r.tw⟩ : Fq) t 268435456).1)).hi), .int .u64 ((greatV ((lessV ((overV t r.tw).1) (boost * r.each)).1) ((raiseV (⟨0, 0, r.tw⟩ : Fq) t 268435456).1)).lo), .int .u64 ((greatV ((lessV ((overV t r.tw).1) (boost * r.each)).1) ((raiseV (⟨0, 0, r.tw⟩ : Fq) t 268435456).1)).w)]) 33, bx (γ1 1) (#[.int .i64 r.id, .int .i64 r.each, .int .u64 r.th, .int .u64 r.tl, .int .u64 r.tw]) 35, bx (γ1 0) (#[.int .u64 t.hi, .int .u64 t.lo, .int .u64 t.w]) 33]) ?_ (fun hmx14 => ?_)
    rotate_left
    ·
     refine any_cutX (V := (Nat → Nat)) (fun γ110 => True) 2 #[true, true, true, true, true, true, false, false] (fun γ110 => [(6, .pointer (some ⟨γ1 2, 0, none⟩)), (7, .pointer (some ⟨γ1 3, 0, none⟩)), (8, .int .i64 ((raiseV (⟨0, 0, r.tw⟩ : Fq) t 268435456).2)), (58, .agg #[.int .u64 ((overV t r.tw).1.hi), .int .u64 ((overV t r.tw).1.lo), .int .u64 ((overV t r.tw).1.w)])]) (fun γ110 => [bx (γ110 0) (#[.int .u64 ((lessV ((overV t r.tw).1) (boost * r.each)).1.hi), .int .u64 ((lessV ((overV t r.tw).1) (boost * r.each)).1.lo), .int .u64 ((lessV ((overV t r.tw).1) (boost * r.each)).1.w), .int .u64 ((raiseV (⟨0, 0, r.tw⟩ : Fq) t 268435456).1.hi), .int .u64 ((raiseV (⟨0, 0, r.tw⟩ : Fq) t 268435456).1.lo), .int .u64 ((raiseV (⟨0, 0, r.tw⟩ : Fq) t 268435456).1.w)]) 33, bx (γ47 0) (#[.int .u64 ((raiseV (⟨0, 0, r.tw⟩ : Fq) t 268435456).1.hi), .int .u64 ((raiseV (⟨0, 0, r.tw⟩ : Fq) t 268435456).1.lo), .int .u64 ((raiseV (⟨0, 0, r.tw⟩ : Fq) t 268435456).1.w)]) 33, bx (γ25 0) (#[.int .u64 ((lessV ((overV t r.tw).1) (boost * r.each)).1.hi), .int .u64 ((lessV ((overV t r.tw).1) (boost * r.each)).1.lo), .int .u64 ((lessV ((overV t r.tw).1) (boost * r.each)).1.w)]) 33, bx (γ3 0) (#[.int .u64 ((overV t r.tw).1.hi), .int .u64 ((overV t r.tw).1.lo), .int .u64 ((overV t r.tw).1.w)]) 33, bx (γ1 3) (#[.int .u64 0, .int .u64 0, .int .u64 0]) 33, bx (γ1 2) (#[.int .u64 ((greatV ((lessV ((overV t r.tw).1) (boost * r.each)).1) ((raiseV (⟨0, 0, r.tw⟩ : Fq) t 268435456).1)).hi), .int .u64 ((greatV ((lessV ((overV t r.tw).1) (boost * r.each)).1) ((raiseV (⟨0, 0, r.tw⟩ : Fq) t 268435456).1)).lo), .int .u64 ((greatV ((lessV ((overV t r.tw).1) (boost * r.each)).1) ((raiseV (⟨0, 0, r.tw⟩ : Fq) t 268435456).1)).w)]) 33, bx (γ1 1) (#[.int .i64 r.id, .int .i64 r.each, .int .u64 r.th, .int .u64 r.tl, .int .u64 r.tw]) 35, bx (γ1 0) (#[.int .u64 t.hi, .int .u64 t.lo, .int .u64 t.w]) 33]) ?_ (fun hmx13 => ?_)
     ·
      rintro γ110 _
      refine a1 6 rfl ?_
      refine mo0 1 [(6, .go (owns 4 0 3))] [6, 7, 8] (fun _ => []) (fun _ L => (L.set 4 (bx (γ1 3) (#[.int .u64 ((overV t r.tw).1.hi), .int .u64 ((overV t r.tw).1.lo), .int .u64 ((overV t r.tw).1.w)]) 33))) (fun _ => ?_)
      refine od_ ?_
      refine tk (m := 0) [7] [] [6, 7] [(8, .int .i64 0)] ([]) #[true, true, true, true, true, true, true, true] al0 ?_
      exact wk (hmx14 γ110 trivial) [6, 7, 8] [[_], [_], [_], [_], [_], [_], [_], [_]] [0, 1, 2, 3, 4, 5, 6, 7] rfl rfl
     refine any_cutX (V := (Nat → Nat)) (fun γ110 => True) 3 #[true, true, true, true, false, true, false, false] (fun γ110 => [(6, .pointer (some ⟨γ1 2, 0, none⟩)), (7, .pointer (some ⟨γ1 3, 0, none⟩)), (8, .int .i64 ((raiseV (⟨0, 0, r.tw⟩ : Fq) t 268435456).2)), (9, .pointer (some ⟨γ3 0, 0, none⟩))]) (fun γ110 => [bx (γ110 0) (#[.int .u64 ((lessV ((overV t r.tw).1) (boost * r.each)).1.hi), .int .u64 ((lessV ((overV t r.tw).1) (boost * r.each)).1.lo), .int .u64 ((lessV ((overV t r.tw).1) (boost * r.each)).1.w), .int .u64 ((raiseV (⟨0, 0, r.tw⟩ : Fq) t 268435456).1.hi), .int .u64 ((raiseV (⟨0, 0, r.tw⟩ : Fq) t 268435456).1.lo), .int .u64 ((raiseV (⟨0, 0, r.tw⟩ : Fq) t 268435456).1.w)]) 33, bx (γ47 0) (#[.int .u64 ((raiseV (⟨0, 0, r.tw⟩ : Fq) t 268435456).1.hi), .int .u64 ((raiseV (⟨0, 0, r.tw⟩ : Fq) t 268435456).1.lo), .int .u64 ((raiseV (⟨0, 0, r.tw⟩ : Fq) t 268435456).1.w)]) 33, bx (γ25 0) (#[.int .u64 ((lessV ((overV t r.tw).1) (boost * r.each)).1.hi), .int .u64 ((lessV ((overV t r.tw).1) (boost * r.each)).1.lo), .int .u64 ((lessV ((overV t r.tw).1) (boost * r.each)).1.w)]) 33, bx (γ3 0) (#[.int .u64 ((overV t r.tw).1.hi), .int .u64 ((overV t r.tw).1.lo), .int .u64 ((overV t r.tw).1.w)]) 33, bx (γ1 3) (#[.int .u64 0, .int .u64 0, .int .u64 0]) 33, bx (γ1 2) (#[.int .u64 ((greatV ((lessV ((overV t r.tw).1) (boost * r.each)).1) ((raiseV (⟨0, 0, r.tw⟩ : Fq) t 268435456).1)).hi), .int .u64 ((greatV ((lessV ((overV t r.tw).1) (boost * r.each)).1) ((raiseV (⟨0, 0, r.tw⟩ : Fq) t 268435456).1)).lo), .int .u64 ((greatV ((lessV ((overV t r.tw).1) (boost * r.each)).1) ((raiseV (⟨0, 0, r.tw⟩ : Fq) t 268435456).1)).w)]) 33, bx (γ1 1) (#[.int .i64 r.id, .int .i64 r.each, .int .u64 r.th, .int .u64 r.tl, .int .u64 r.tw]) 35, bx (γ1 0) (#[.int .u64 t.hi, .int .u64 t.lo, .int .u64 t.w]) 33]) ?_ (fun hmx12 => ?_)
     ·
      rintro γ110 _
      refine a1 4 rfl ?_
      refine qo0 1 [(4, .go (owns 3 0 3))] [6, 7, 8] [(58, .agg #[.int .u64 ((overV t r.tw).1.hi), .int .u64 ((overV t r.tw).1.lo), .int .u64 ((overV t r.tw).1.w)])] ?_
      refine od_ ?_
      exact wk (hmx13 γ110 trivial) [6, 7, 8, 58] [[_], [_], [_], [_], [_], [_], [_], [_]] [0, 1, 2, 3, 4, 5, 6, 7] rfl rfl
     refine any_cutX (V := (Nat → Nat)) (fun γ110 => True) 3 #[true, true, true, true, true, false, false, false] (fun γ110 => [(6, .pointer (some ⟨γ1 2, 0, none⟩)), (7, .pointer (some ⟨γ1 3, 0, none⟩)), (8, .int .i64 ((raiseV (⟨0, 0, r.tw⟩ : Fq) t 268435456).2)), (57, .agg #[.int .u64 ((greatV ((lessV ((overV t r.tw).1) (boost * r.each)).1) ((raiseV (⟨0, 0, r.tw⟩ : Fq) t 268435456).1)).hi), .int .u64 ((greatV ((lessV ((overV t r.tw).1) (boost * r.each)).1) ((raiseV (⟨0, 0, r.tw⟩ : Fq) t 268435456).1)).lo), .int .u64 ((greatV ((lessV ((overV t r.tw).1) (boost * r.each)).1) ((raiseV (⟨0, 0, r.tw⟩ : Fq) t 268435456).1)).w)]), (58, .agg #[.int .u64 ((overV t r.tw).1.hi), .int .u64 ((overV t r.tw).1.lo), .int .u64 ((overV t r.tw).1.w)])]) (fun γ110 => [bx (γ110 0) (#[.int .u64 ((lessV ((overV t r.tw).1) (boost * r.each)).1.hi), .int .u64 ((lessV ((overV t r.tw).1) (boost * r.each)).1.lo), .int .u64 ((lessV ((overV t r.tw).1) (boost * r.each)).1.w), .int .u64 ((raiseV (⟨0, 0, r.tw⟩ : Fq) t 268435456).1.hi), .int .u64 ((raiseV (⟨0, 0, r.tw⟩ : Fq) t 268435456).1.lo), .int .u64 ((raiseV (⟨0, 0, r.tw⟩ : Fq) t 268435456).1.w)]) 33, bx (γ47 0) (#[.int .u64 ((raiseV (⟨0, 0, r.tw⟩ : Fq) t 268435456).1.hi), .int .u64 ((raiseV (⟨0, 0, r.tw⟩ : Fq) t 268435456).1.lo), .int .u64 ((raiseV (⟨0, 0, r.tw⟩ : Fq) t 268435456).1.w)]) 33, bx (γ25 0) (#[.int .u64 ((lessV ((overV t r.tw).1) (boost * r.each)).1.hi), .int .u64 ((lessV ((overV t r.tw).1) (boost * r.each)).1.lo), .int .u64 ((lessV ((overV t r.tw).1) (boost * r.each)).1.w)]) 33, bx (γ3 0) (#[.int .u64 ((overV t r.tw).1.hi), .int .u64 ((overV t r.tw).1.lo), .int .u64 ((overV t r.tw).1.w)]) 33, bx (γ1 3) (#[.int .u64 0, .int .u64 0, .int .u64 0]) 33, bx (γ1 2) (#[.int .u64 0, .int .u64 0, .int .u64 0]) 33, bx (γ1 1) (#[.int .i64 r.id, .int .i64 r.each, .int .u64 r.th, .int .u64 r.tl, .int .u64 r.tw]) 35, bx (γ1 0) (#[.int .u64 t.hi, .int .u64 t.lo, .int .u64 t.w]) 33]) ?_ (fun hmx11 => ?_)
     ·
      rintro γ110 _
      refine a1 5 rfl ?_
      refine mo0 1 [(5, .go (owns 5 0 3))] [6, 7, 8, 58] (fun _ => []) (fun _ L => (L.set 5 (bx (γ1 2) (#[.int .u64 ((greatV ((lessV ((overV t r.tw).1) (boost * r.each)).1) ((raiseV (⟨0, 0, r.tw⟩ : Fq) t 268435456).1)).hi), .int .u64 ((greatV ((lessV ((overV t r.tw).1) (boost * r.each)).1) ((raiseV (⟨0, 0, r.tw⟩ : Fq) t 268435456).1)).lo), .int .u64 ((greatV ((lessV ((overV t r.tw).1) (boost * r.each)).1) ((raiseV (⟨0, 0, r.tw⟩ : Fq) t 268435456).1)).w)]) 33))) (fun _ => ?_)
      refine od_ ?_
      exact wk (hmx13 γ110 trivial) [6, 7, 8, 58] [[_], [_], [_], [_], [_], [_], [_], [_]] [0, 1, 2, 3, 4, 5, 6, 7] rfl rfl
     refine any_cutX (V := (Nat → Nat)) (fun γ110 => True) 4 #[true, true, true, false, true, false, false, false] (fun γ110 => [(6, .pointer (some ⟨γ1 2, 0, none⟩)), (7, .pointer (some ⟨γ1 3, 0, none⟩)), (8, .int .i64 ((raiseV (⟨0, 0, r.tw⟩ : Fq) t 268435456).2)), (56, .slice (some ⟨γ110 0, 0, none⟩) 2 2), (58, .agg #[.int .u64 ((overV t r.tw).1.hi), .int .u64 ((overV t r.tw).1.lo), .int .u64 ((overV t r.tw).1.w)])]) (fun γ110 => [bx (γ110 0) (#[.int .u64 ((lessV ((overV t r.tw).1) (boost * r.each)).1.hi), .int .u64 ((lessV ((overV t r.tw).1) (boost * r.each)).1.lo), .int .u64 ((lessV ((overV t r.tw).1) (boost * r.each)).1.w), .int .u64 ((raiseV (⟨0, 0, r.tw⟩ : Fq) t 268435456).1.hi), .int .u64 ((raiseV (⟨0, 0, r.tw⟩ : Fq) t 268435456).1.lo), .int .u64 ((raiseV (⟨0, 0, r.tw⟩ : Fq) t 268435456).1.w)]) 33, bx (γ47 0) (#[.int .u64 ((raiseV (⟨0, 0, r.tw⟩ : Fq) t 268435456).1.hi), .int .u64 ((raiseV (⟨0, 0, r.tw⟩ : Fq) t 268435456).1.lo), .int .u64 ((raiseV (⟨0, 0, r.tw⟩ : Fq) t 268435456).1.w)]) 33, bx (γ25 0) (#[.int .u64 ((lessV ((overV t r.tw).1) (boost * r.each)).1.hi), .int .u64 ((lessV ((overV t r.tw).1) (boost * r.each)).1.lo), .int .u64 ((lessV ((overV t r.tw).1) (boost * r.each)).1.w)]) 33, bx (γ3 0) (#[.int .u64 ((overV t r.tw).1.hi), .int .u64 ((overV t r.tw).1.lo), .int .u64 ((overV t r.tw).1.w)]) 33, bx (γ1 3) (#[.int .u64 0, .int .u64 0, .int .u64 0]) 33, bx (γ1 2) (#[.int .u64 0, .int .u64 0, .int .u64 0]) 33, bx (γ1 1) (#[.int .i64 r.id, .int .i64 r.each, .int .u64 r.th, .int .u64 r.tl, .int .u64 r.tw]) 35, bx (γ1 0) (#[.int .u64 t.hi, .int .u64 t.lo, .int .u64 t.w]) 33]) ?_ (fun hmx10 => ?_)
     ·
      rintro γ110 _
      refine a1 3 rfl ?_
      refine cD (.agg #[.int .u64 ((greatV ((lessV ((overV t r.tw).1) (boost * r.each)).1) ((raiseV (⟨0, 0, r.tw⟩ : Fq) t 268435456).1)).hi), .int .u64 ((greatV ((lessV ((overV t r.tw).1) (boost * r.each)).1) ((raiseV (⟨0, 0, r.tw⟩ : Fq) t 268435456).1)).lo), .int .u64 ((greatV ((lessV ((overV t r.tw).1) (boost * r.each)).1) ((raiseV (⟨0, 0, r.tw⟩ : Fq) t 268435456).1)).w)]) Try.call62 (fun w hw => great_t (some ⟨γ110 0, 0, none⟩) 2 2 [(lessV ((overV t r.tw).1) (boost * r.each)).1, (raiseV (⟨0, 0, r.tw⟩ : Fq) t 268435456).1] w (sv_row (hw.row 0 rfl) rfl) rfl (by decide) (by decide) (two_U (less_U (over_U hU) (by omega)) (raise_U (w_U hr.t.w0 hr.t.w1) hU (by omega)))) ?_
      refine od_ ?_
      exact wk (hmx11 γ110 trivial) [6, 7, 8, 57, 58] [[_], [_], [_], [_], [_], [_], [_], [_]] [0, 1, 2, 3, 4, 5, 6, 7] rfl rfl
     refine any_cutX (V := (Nat → Nat)) (fun γ110 => True) 4 #[true, true, true, true, false, false, false, false] (fun γ110 => [(6, .pointer (some ⟨γ1 2, 0, none⟩)), (7, .pointer (some ⟨γ1 3, 0, none⟩)), (8, .int .i64 ((raiseV (⟨0, 0, r.tw⟩ : Fq) t 268435456).2)), (9, .pointer (some ⟨γ3 0, 0, none⟩)), (57, .agg #[.int .u64 ((greatV ((lessV ((overV t r.tw).1) (boost * r.each)).1) ((raiseV (⟨0, 0, r.tw⟩ : Fq) t 268435456).1)).hi), .int .u64 ((greatV ((lessV ((overV t r.tw).1) (boost * r.each)).1) ((raiseV (⟨0, 0, r.tw⟩ : Fq) t 268435456).1)).lo), .int .u64 ((greatV ((lessV ((overV t r.tw).1) (boost * r.each)).1) ((raiseV (⟨0, 0, r.tw⟩ : Fq) t 268435456).1)).w)])]) (fun γ110 => [bx (γ110 0) (#[.int .u64 ((lessV ((overV t r.tw).1) (boost * r.each)).1.hi), .int .u64 ((lessV ((overV t r.tw).1) (boost * r.each)).1.lo), .int .u64 ((lessV ((overV t r.tw).1) (boost * r.each)).1.w), .int .u64 ((raiseV (⟨0, 0, r.tw⟩ : Fq) t 268435456).1.hi), .int .u64 ((raiseV (⟨0, 0, r.tw⟩ : Fq) t 268435456).1.lo), .int .u64 ((raiseV (⟨0, 0, r.tw⟩ : Fq) t 268435456).1.w)]) 33, bx (γ47 0) (#[.int .u64 ((raiseV (⟨0, 0, r.tw⟩ : Fq) t 268435456).1.hi), .int .u64 ((raiseV (⟨0, 0, r.tw⟩ : Fq) t 268435456).1.lo), .int .u64 ((raiseV (⟨0, 0, r.tw⟩ : Fq) t 268435456).1.w)]) 33, bx (γ25 0) (#[.int .u64 ((lessV ((overV t r.tw).1) (boost * r.each)).1.hi), .int .u64 ((lessV ((overV t r.tw).1) (boost * r.each)).1.lo), .int .u64 ((lessV ((overV t r.tw).1) (boost * r.each)).1.w)]) 33, bx (γ3 0) (#[.int .u64 ((overV t r.tw).1.hi), .int .u64 ((overV t r.tw).1.lo), .int .u64 ((overV t r.tw).1.w)]) 33, bx (γ1 3) (#[.int .u64 0, .int .u64 0, .int .u64 0]) 33, bx (γ1 2) (#[.int .u64 0, .int .u64 0, .int .u64 0]) 33, bx (γ1 1) (#[.int .i64 r.id, .int .i64 r.each, .int .u64 r.th, .int .u64 r.tl, .int .u64 r.tw]) 35, bx (γ1 0) (#[.int .u64 t.hi, .int .u64 t.lo, .int .u64 t.w]) 33]) ?_ (fun hmx9 => ?_)
     ·
      rintro γ110 _
      refine any_fork [4, 5] (by kernel_rfl) (by simp) (each_cons _ rfl ?_ (each_cons _ rfl ?_ (each_nil)))
      ·
       refine qo0 1 [(4, .go (owns 3 0 3))] [6, 7, 8, 57] [(58, .agg #[.int .u64 ((overV t r.tw).1.hi), .int .u64 ((overV t r.tw).1.lo), .int .u64 ((overV t r.tw).1.w)])] ?_
       refine od_ ?_
       exact wk (hmx11 γ110 trivial) [6, 7, 8, 57, 58] [[_], [_], [_], [_], [_], [_], [_], [_]] [0, 1, 2, 3, 4, 5, 6, 7] rfl rfl
      ·
       refine mo0 1 [(5, .go (owns 5 0 3))] [6, 7, 8, 9] (fun _ => []) (fun _ L => (L.set 5 (bx (γ1 2) (#[.int .u64 ((greatV ((lessV ((overV t r.tw).1) (boost * r.each)).1) ((raiseV (⟨0, 0, r.tw⟩ : Fq) t 268435456).1)).hi), .int .u64 ((greatV ((lessV ((overV t r.tw).1) (boost * r.each)).1) ((raiseV (⟨0, 0, r.tw⟩ : Fq) t 268435456).1)).lo), .int .u64 ((greatV ((lessV ((overV t r.tw).1) (boost * r.each)).1) ((raiseV (⟨0, 0, r.tw⟩ : Fq) t 268435456).1)).w)]) 33))) (fun _ => ?_)
       refine od_ ?_
       exact wk (hmx12 γ110 trivial) [6, 7, 8, 9] [[_], [_], [_], [_], [_], [_], [_], [_]] [0, 1, 2, 3, 4, 5, 6, 7] rfl rfl
     refine any_cutX (V := Unit) (fun _ => True) 5 #[true, true, false, false, true, false, false, false] (fun _ => [(6, .pointer (some ⟨γ1 2, 0, none⟩)), (7, .pointer (some ⟨γ1 3, 0, none⟩)), (8, .int .i64 ((raiseV (⟨0, 0, r.tw⟩ : Fq) t 268435456).2)), (54, .agg #[.int .u64 ((lessV ((overV t r.tw).1) (boost * r.each)).1.hi), .int .u64 ((lessV ((overV t r.tw).1) (boost * r.each)).1.lo), .int .u64 ((lessV ((overV t r.tw).1) (boost * r.each)).1.w)]), (55, .agg #[.int .u64 ((raiseV (⟨0, 0, r.tw⟩ : Fq) t 268435456).1.hi), .int .u64 ((raiseV (⟨0, 0, r.tw⟩ : Fq) t 268435456).1.lo), .int .u64 ((raiseV (⟨0, 0, r.tw⟩ : Fq) t 268435456).1.w)]), (58, .agg #[.int .u64 ((overV t r.tw).1.hi), .int .u64 ((overV t r.tw).1.lo), .int .u64 ((overV t r.tw).1.w)])]) (fun _ => [bx (γ47 0) (#[.int .u64 ((raiseV (⟨0, 0, r.tw⟩ : Fq) t 268435456).1.hi), .int .u64 ((raiseV (⟨0, 0, r.tw⟩ : Fq) t 268435456).1.lo), .int .u64 ((raiseV (⟨0, 0, r.tw⟩ : Fq) t 268435456).1.w)]) 33, bx (γ25 0) (#[.int .u64 ((lessV ((overV t r.tw).1) (boost * r.each)).1.hi), .int .u64 ((lessV ((overV t r.tw).1) (boost * r.each)).1.lo), .int .u64 ((lessV ((overV t r.tw).1) (boost * r.each)).1.w)]) 33, bx (γ3 0) (#[.int .u64 ((overV t r.tw).1.hi), .int .u64 ((overV t r.tw).1.lo), .int .u64 ((overV t r.tw).1.w)]) 33, bx (γ1 3) (#[.int .u64 0, .int .u64 0, .int .u64 0]) 33, bx (γ1 2) (#[.int .u64 0, .int .u64 0, .int .u64 0]) 33, bx (γ1 1) (#[.int .i64 r.id, .int .i64 r.each, .int .u64 r.th, .int .u64 r.tl, .int .u64 r.tw]) 35, bx (γ1 0) (#[.int .u64 t.hi, .int .u64 t.lo, .int .u64 t.w]) 33]) ?_ (fun hmx8 => ?_)
     ·
      rintro _ _
      refine a1 2 rfl ?_
      refine mo0 1 [] [6, 7, 8, 58] (fun γ110 => [(56, .slice (some ⟨γ110 0, 0, none⟩) 2 2)]) (fun γ110 L => bx (γ110 0) (#[.int .u64 ((lessV ((overV t r.tw).1) (boost * r.each)).1.hi), .int .u64 ((lessV ((overV t r.tw).1) (boost * r.each)).1.lo), .int .u64 ((lessV ((overV t r.tw).1) (boost * r.each)).1.w), .int .u64 ((raiseV (⟨0, 0, r.tw⟩ : Fq) t 268435456).1.hi), .int .u64 ((raiseV (⟨0, 0, r.tw⟩ : Fq) t 268435456).1.lo), .int .u64 ((raiseV (⟨0, 0, r.tw⟩ : Fq) t 268435456).1.w)]) 33 :: L) (fun γ110 => ?_)
      refine od_ ?_
      exact wk (hmx10 γ110 trivial) [6, 7, 8, 56, 58] [[_], [_], [_], [_], [_], [_], [_], [_]] [0, 1, 2, 3, 4, 5, 6, 7] rfl rfl
     refine any_cutX (V := (Nat → Nat)) (fun γ110 => True) 5 #[true, true, true, false, false, false, false, false] (fun γ110 => [(6, .pointer (some ⟨γ1 2, 0, none⟩)), (7, .pointer (some ⟨γ1 3, 0, none⟩)), (8, .int .i64 ((raiseV (⟨0, 0, r.tw⟩ : Fq) t 268435456).2)), (9, .pointer (some ⟨γ3 0, 0, none⟩)), (56, .slice (some ⟨γ110 0, 0, none⟩) 2 2)]) (fun γ110 => [bx (γ110 0) (#[.int .u64 ((lessV ((overV t r.tw).1) (boost * r.each)).1.hi), .int .u64 ((lessV ((overV t r.tw).1) (boost * r.each)).1.lo), .int .u64 ((lessV ((overV t r.tw).1) (boost * r.each)).1.w), .int .u64 ((raiseV (⟨0, 0, r.tw⟩ : Fq) t 268435456).1.hi), .int .u64 ((raiseV (⟨0, 0, r.tw⟩ : Fq) t 268435456).1.lo), .int .u64 ((raiseV (⟨0, 0, r.tw⟩ : Fq) t 268435456).1.w)]) 33, bx (γ47 0) (#[.int .u64 ((raiseV (⟨0, 0, r.tw⟩ : Fq) t 268435456).1.hi), .int .u64 ((raiseV (⟨0, 0, r.tw⟩ : Fq) t 268435456).1.lo), .int .u64 ((raiseV (⟨0, 0, r.tw⟩ : Fq) t 268435456).1.w)]) 33, bx (γ25 0) (#[.int .u64 ((lessV ((overV t r.tw).1) (boost * r.each)).1.hi), .int .u64 ((lessV ((overV t r.tw).1) (boost * r.each)).1.lo), .int .u64 ((lessV ((overV t r.tw).1) (boost * r.each)).1.w)]) 33, bx (γ3 0) (#[.int .u64 ((overV t r.tw).1.hi), .int .u64 ((overV t r.tw).1.lo), .int .u64 ((overV t r.tw).1.w)]) 33, bx (γ1 3) (#[.int .u64 0, .int .u64 0, .int .u64 0]) 33, bx (γ1 2) (#[.int .u64 0, .int .u64 0, .int .u64 0]) 33, bx (γ1 1) (#[.int .i64 r.id, .int .i64 r.each, .int .u64 r.th, .int .u64 r.tl, .int .u64 r.tw]) 35, bx (γ1 0) (#[.int .u64 t.hi, .int .u64 t.lo, .int .u64 t.w]) 33]) ?_ (fun hmx7 => ?_)
     ·
      rintro γ110 _
      refine any_fork [3, 4] (by kernel_rfl) (by simp) (each_cons _ rfl ?_ (each_cons _ rfl ?_ (each_nil)))
      ·
       refine cD (.agg #[.int .u64 ((greatV ((lessV ((overV t r.tw).1) (boost * r.each)).1) ((raiseV (⟨0, 0, r.tw⟩ : Fq) t 268435456).1)).hi), .int .u64 ((greatV ((lessV ((overV t r.tw).1) (boost * r.each)).1) ((raiseV (⟨0, 0, r.tw⟩ : Fq) t 268435456).1)).lo), .int .u64 ((greatV ((lessV ((overV t r.tw).1) (boost * r.each)).1) ((raiseV (⟨0, 0, r.tw⟩ : Fq) t 268435456).1)).w)]) Try.call62 (fun w hw => great_t (some ⟨γ110 0, 0, none⟩) 2 2 [(lessV ((overV t r.tw).1) (boost * r.each)).1, (raiseV (⟨0, 0, r.tw⟩ : Fq) t 268435456).1] w (sv_row (hw.row 0 rfl) rfl) rfl (by decide) (by decide) (two_U (less_U (over_U hU) (by omega)) (raise_U (w_U hr.t.w0 hr.t.w1) hU (by omega)))) ?_
       refine od_ ?_
       exact wk (hmx9 γ110 trivial) [6, 7, 8, 9, 57] [[_], [_], [_], [_], [_], [_], [_], [_]] [0, 1, 2, 3, 4, 5, 6, 7] rfl rfl
      ·
       refine qo0 1 [(4, .go (owns 3 0 3))] [6, 7, 8, 56] [(58, .agg #[.int .u64 ((overV t r.tw).1.hi), .int .u64 ((overV t r.tw).1.lo), .int .u64 ((overV t r.tw).1.w)])] ?_
       refine od_ ?_
       exact wk (hmx10 γ110 trivial) [6, 7, 8, 56, 58] [[_], [_], [_], [_], [_], [_], [_], [_]] [0, 1, 2, 3, 4, 5, 6, 7] rfl rfl
     refine any_cutX (V := Unit) (fun _ => True) 6 #[false, true, false, false, true, false, false, false] (fun _ => [(6, .pointer (some ⟨γ1 2, 0, none⟩)), (7, .pointer (some ⟨γ1 3, 0, none⟩)), (8, .int .i64 ((raiseV (⟨0, 0, r.tw⟩ : Fq) t 268435456).2)), (10, .pointer (some ⟨γ25 0, 0, none⟩)), (55, .agg #[.int .u64 ((raiseV (⟨0, 0, r.tw⟩ : Fq) t 268435456).1.hi), .int .u64 ((raiseV (⟨0, 0, r.tw⟩ : Fq) t 268435456).1.lo), .int .u64 ((raiseV (⟨0, 0, r.tw⟩ : Fq) t 268435456).1.w)]), (58, .agg #[.int .u64 ((overV t r.tw).1.hi), .int .u64 ((overV t r.tw).1.lo), .int .u64 ((overV t r.tw).1.w)])]) (fun _ => [bx (γ47 0) (#[.int .u64 ((raiseV (⟨0, 0, r.tw⟩ : Fq) t 268435456).1.hi), .int .u64 ((raiseV (⟨0, 0, r.tw⟩ : Fq) t 268435456).1.lo), .int .u64 ((raiseV (⟨0, 0, r.tw⟩ : Fq) t 268435456).1.w)]) 33, bx (γ25 0) (#[.int .u64 ((lessV ((overV t r.tw).1) (boost * r.each)).1.hi), .int .u64 ((lessV ((overV t r.tw).1) (boost * r.each)).1.lo), .int .u64 ((lessV ((overV t r.tw).1) (boost * r.each)).1.w)]) 33, bx (γ3 0) (#[.int .u64 ((overV t r.tw).1.hi), .int .u64 ((overV t r.tw).1.lo), .int .u64 ((overV t r.tw).1.w)]) 33, bx (γ1 3) (#[.int .u64 0, .int .u64 0, .int .u64 0]) 33, bx (γ1 2) (#[.int .u64 0, .int .u64 0, .int .u64 0]) 33, bx (γ1 1) (#[.int .i64 r.id, .int .i64 r.each, .int .u64 r.th, .int .u64 r.tl, .int .u64 r.tw]) 35, bx (γ1 0) (#[.int .u64 t.hi, .int .u64 t.lo, .int .u64 t.w]) 33]) ?_ (fun hmx6 => ?_)
     ·
      rintro _ _
      refine a1 0 rfl ?_
      refine qo0 1 [(0, .go (owns 1 0 3))] [6, 7, 8, 55, 58] [(54, .agg #[.int .u64 ((lessV ((overV t r.tw).1) (boost * r.each)).1.hi), .int .u64 ((lessV ((overV t r.tw).1) (boost * r.each)).1.lo), .int .u64 ((lessV ((overV t r.tw).1) (boost * r.each)).1.w)])] ?_
      refine od_ ?_
      exact wk (hmx8 () trivial) [6, 7, 8, 54, 55, 58] [[_], [_], [_], [_], [_], [_], [_]] [0, 1, 2, 3, 4, 5, 6] rfl rfl
     refine any_cutX (V := Unit) (fun _ => True) 6 #[true, false, false, false, true, false, false, false] (fun _ => [(6, .pointer (some ⟨γ1 2, 0, none⟩)), (7, .pointer (some ⟨γ1 3, 0, none⟩)), (8, .int .i64 ((raiseV (⟨0, 0, r.tw⟩ : Fq) t 268435456).2)), (11, .pointer (some ⟨γ47 0, 0, none⟩)), (54, .agg #[.int .u64 ((lessV ((overV t r.tw).1) (boost * r.each)).1.hi), .int .u64 ((lessV ((overV t r.tw).1) (boost * r.each)).1.lo), .int .u64 ((lessV ((overV t r.tw).1) (boost * r.each)).1.w)]), (58, .agg #[.int .u64 ((overV t r.tw).1.hi), .int .u64 ((overV t r.tw).1.lo), .int .u64 ((overV t r.tw).1.w)])]) (fun _ => [bx (γ47 0) (#[.int .u64 ((raiseV (⟨0, 0, r.tw⟩ : Fq) t 268435456).1.hi), .int .u64 ((raiseV (⟨0, 0, r.tw⟩ : Fq) t 268435456).1.lo), .int .u64 ((raiseV (⟨0, 0, r.tw⟩ : Fq) t 268435456).1.w)]) 33, bx (γ25 0) (#[.int .u64 ((lessV ((overV t r.tw).1) (boost * r.each)).1.hi), .int .u64 ((lessV ((overV t r.tw).1) (boost * r.each)).1.lo), .int .u64 ((lessV ((overV t r.tw).1) (boost * r.each)).1.w)]) 33, bx (γ3 0) (#[.int .u64 ((overV t r.tw).1.hi), .int .u64 ((overV t r.tw).1.lo), .int .u64 ((overV t r.tw).1.w)]) 33, bx (γ1 3) (#[.int .u64 0, .int .u64 0, .int .u64 0]) 33, bx (γ1 2) (#[.int .u64 0, .int .u64 0, .int .u64 0]) 33, bx (γ1 1) (#[.int .i64 r.id, .int .i64 r.each, .int .u64 r.th, .int .u64 r.tl, .int .u64 r.tw]) 35, bx (γ1 0) (#[.int .u64 t.hi, .int .u64 t.lo, .int .u64 t.w]) 33]) ?_ (fun hmx5 => ?_)
     ·
      rintro _ _
      refine a1 1 rfl ?_
      refine qo0 1 [(1, .go (owns 0 0 3))] [6, 7, 8, 54, 58] [(55, .agg #[.int .u64 ((raiseV (⟨0, 0, r.tw⟩ : Fq) t 268435456).1.hi), .int .u64 ((raiseV (⟨0, 0, r.tw⟩ : Fq) t 268435456).1.lo), .int .u64 ((raiseV (⟨0, 0, r.tw⟩ : Fq) t 268435456).1.w)])] ?_
      refine od_ ?_
      exact wk (hmx8 () trivial) [6, 7, 8, 54, 55, 58] [[_], [_], [_], [_], [_], [_], [_]] [0, 1, 2, 3, 4, 5, 6] rfl rfl
     refine any_cutX (V := Unit) (fun _ => True) 6 #[true, true, false, false, false, false, false, false] (fun _ => [(6, .pointer (some ⟨γ1 2, 0, none⟩)), (7, .pointer (some ⟨γ1 3, 0, none⟩)), (8, .int .i64 ((raiseV (⟨0, 0, r.tw⟩ : Fq) t 268435456).2)), (9, .pointer (some ⟨γ3 0, 0, none⟩)), (54, .agg #[.int .u64 ((lessV ((overV t r.tw).1) (boost * r.each)).1.hi), .int .u64 ((lessV ((overV t r.tw).1) (boost * r.each)).1.lo), .int .u64 ((lessV ((overV t r.tw).1) (boost * r.each)).1.w)]), (55, .agg #[.int .u64 ((raiseV (⟨0, 0, r.tw⟩ : Fq) t 268435456).1.hi), .int .u64 ((raiseV (⟨0, 0, r.tw⟩ : Fq) t 268435456).1.lo), .int .u64 ((raiseV (⟨0, 0, r.tw⟩ : Fq) t 268435456).1.w)])]) (fun _ => [bx (γ47 0) (#[.int .u64 ((raiseV (⟨0, 0, r.tw⟩ : Fq) t 268435456).1.hi), .int .u64 ((raiseV (⟨0, 0, r.tw⟩ : Fq) t 268435456).1.lo), .int .u64 ((raiseV (⟨0, 0, r.tw⟩ : Fq) t 268435456).1.w)]) 33, bx (γ25 0) (#[.int .u64 ((lessV ((overV t r.tw).1) (boost * r.each)).1.hi), .int .u64 ((lessV ((overV t r.tw).1) (boost * r.each)).1.lo), .int .u64 ((lessV ((overV t r.tw).1) (boost * r.each)).1.w)]) 33, bx (γ3 0) (#[.int .u64 ((overV t r.tw).1.hi), .int .u64 ((overV t r.tw).1.lo), .int .u64 ((overV t r.tw).1.w)]) 33, bx (γ1 3) (#[.int .u64 0, .int .u64 0, .int .u64 0]) 33, bx (γ1 2) (#[.int .u64 0, .int .u64 0, .int .u64 0]) 33, bx (γ1 1) (#[.int .i64 r.id, .int .i64 r.each, .int .u64 r.th, .int .u64 r.tl, .int .u64 r.tw]) 35, bx (γ1 0) (#[.int .u64 t.hi, .int .u64 t.lo, .int .u64 t.w]) 33]) ?_ (fun hmx4 => ?_)
     ·
      rintro _ _
      refine any_fork [2, 4] (by kernel_rfl) (by simp) (each_cons _ rfl ?_ (each_cons _ rfl ?_ (each_nil)))
      ·
       refine mo0 1 [] [6, 7, 8, 9] (fun γ110 => [(56, .slice (some ⟨γ110 0, 0, none⟩) 2 2)]) (fun γ110 L => bx (γ110 0) (#[.int .u64 ((lessV ((overV t r.tw).1) (boost * r.each)).1.hi), .int .u64 ((lessV ((overV t r.tw).1) (boost * r.each)).1.lo), .int .u64 ((lessV ((overV t r.tw).1) (boost * r.each)).1.w), .int .u64 ((raiseV (⟨0, 0, r.tw⟩ : Fq) t 268435456).1.hi), .int .u64 ((raiseV (⟨0, 0, r.tw⟩ : Fq) t 268435456).1.lo), .int .u64 ((raiseV (⟨0, 0, r.tw⟩ : Fq) t 268435456).1.w)]) 33 :: L) (fun γ110 => ?_)
       refine od_ ?_
       exact wk (hmx7 γ110 trivial) [6, 7, 8, 9, 56] [[_], [_], [_], [_], [_], [_], [_], [_]] [0, 1, 2, 3, 4, 5, 6, 7] rfl rfl
      ·
       refine qo0 1 [(4, .go (owns 2 0 3))] [6, 7, 8, 54, 55] [(58, .agg #[.int .u64 ((overV t r.tw).1.hi), .int .u64 ((overV t r.tw).1.lo), .int .u64 ((overV t r.tw).1.w)])] ?_
       refine od_ ?_
       exact wk (hmx8 () trivial) [6, 7, 8, 54, 55, 58] [[_], [_], [_], [_], [_], [_], [_]] [0, 1, 2, 3, 4, 5, 6] rfl rfl
     refine any_cutX (V := Unit) (fun _ => True) 7 #[false, false, false, false, true, false, false, false] (fun _ => [(6, .pointer (some ⟨γ1 2, 0, none⟩)), (7, .pointer (some ⟨γ1 3, 0, none⟩)), (8, .int .i64 ((raiseV (⟨0, 0, r.tw⟩ : Fq) t 268435456).2)), (10, .pointer (some ⟨γ25 0, 0, none⟩)), (11, .pointer (some ⟨γ47 0, 0, none⟩)), (58, .agg #[.int .u64 ((overV t r.tw).1.hi), .int .u64 ((overV t r.tw).1.lo), .int .u64 ((overV t r.tw).1.w)])]) (fun _ => [bx (γ47 0) (#[.int .u64 ((raiseV (⟨0, 0, r.tw⟩ : Fq) t 268435456).1.hi), .int .u64 ((raiseV (⟨0, 0, r.tw⟩ : Fq) t 268435456).1.lo), .int .u64 ((raiseV (⟨0, 0, r.tw⟩ : Fq) t 268435456).1.w)]) 33, bx (γ25 0) (#[.int .u64 ((lessV ((overV t r.tw).1) (boost * r.each)).1.hi), .int .u64 ((lessV ((overV t r.tw).1) (boost * r.each)).1.lo), .int .u64 ((lessV ((overV t r.tw).1) (boost * r.each)).1.w)]) 33, bx (γ3 0) (#[.int .u64 ((overV t r.tw).1.hi), .int .u64 ((overV t r.tw).1.lo), .int .u64 ((overV t r.tw).1.w)]) 33, bx (γ1 3) (#[.int .u64 0, .int .u64 0, .int .u64 0]) 33, bx (γ1 2) (#[.int .u64 0, .int .u64 0, .int .u64 0]) 33, bx (γ1 1) (#[.int .i64 r.id, .int .i64 r.each, .int .u64 r.th, .int .u64 r.tl, .int .u64 r.tw]) 35, bx (γ1 0) (#[.int .u64 t.hi, .int .u64 t.lo, .int .u64 t.w]) 33]) ?_ (fun hmx3 => ?_)
     ·
      rintro _ _
      refine any_fork [0, 1] (by kernel_rfl) (by simp) (each_cons _ rfl ?_ (each_cons _ rfl ?_ (each_nil)))
      ·
       refine qo0 1 [(0, .go (owns 1 0 3))] [6, 7, 8, 11, 58] [(54, .agg #[.int .u64 ((lessV ((overV t r.tw).1) (boost * r.each)).1.hi), .int .u64 ((lessV ((overV t r.tw).1) (boost * r.each)).1.lo), .int .u64 ((lessV ((overV t r.tw).1) (boost * r.each)).1.w)])] ?_
       refine od_ ?_
       exact wk (hmx5 () trivial) [6, 7, 8, 11, 54, 58] [[_], [_], [_], [_], [_], [_], [_]] [0, 1, 2, 3, 4, 5, 6] rfl rfl
      ·
       refine qo0 1 [(1, .go (owns 0 0 3))] [6, 7, 8, 10, 58] [(55, .agg #[.int .u64 ((raiseV (⟨0, 0, r.tw⟩ : Fq) t 268435456).1.hi), .int .u64 ((raiseV (⟨0, 0, r.tw⟩ : Fq) t 268435456).1.lo), .int .u64 ((raiseV (⟨0, 0, r.tw⟩ : Fq) t 268435456).1.w)])] ?_
       refine od_ ?_
       exact wk (hmx6 () trivial) [6, 7, 8, 10, 55, 58] [[_], [_], [_], [_], [_], [_], [_]] [0, 1, 2, 3, 4, 5, 6] rfl rfl
     refine any_cutX (V := Unit) (fun _ => True) 7 #[false, true, false, false, false, false, false, false] (fun _ => [(6, .pointer (some ⟨γ1 2, 0, none⟩)), (7, .pointer (some ⟨γ1 3, 0, none⟩)), (8, .int .i64 ((raiseV (⟨0, 0, r.tw⟩ : Fq) t 268435456).2)), (9, .pointer (some ⟨γ3 0, 0, none⟩)), (10, .pointer (some ⟨γ25 0, 0, none⟩)), (55, .agg #[.int .u64 ((raiseV (⟨0, 0, r.tw⟩ : Fq) t 268435456).1.hi), .int .u64 ((raiseV (⟨0, 0, r.tw⟩ : Fq) t 268435456).1.lo), .int .u64 ((raiseV (⟨0, 0, r.tw⟩ : Fq) t 268435456).1.w)])]) (fun _ => [bx (γ47 0) (#[.int .u64 ((raiseV (⟨0, 0, r.tw⟩ : Fq) t 268435456).1.hi), .int .u64 ((raiseV (⟨0, 0, r.tw⟩ : Fq) t 268435456).1.lo), .int .u64 ((raiseV (⟨0, 0, r.tw⟩ : Fq) t 268435456).1.w)]) 33, bx (γ25 0) (#[.int .u64 ((lessV ((overV t r.tw).1) (boost * r.each)).1.hi), .int .u64 ((lessV ((overV t r.tw).1) (boost * r.each)).1.lo), .int .u64 ((lessV ((overV t r.tw).1) (boost * r.each)).1.w)]) 33, bx (γ3 0) (#[.int .u64 ((overV t r.tw).1.hi), .int .u64 ((overV t r.tw).1.lo), .int .u64 ((overV t r.tw).1.w)]) 33, bx (γ1 3) (#[.int .u64 0, .int .u64 0, .int .u64 0]) 33, bx (γ1 2) (#[.int .u64 0, .int .u64 0, .int .u64 0]) 33, bx (γ1 1) (#[.int .i64 r.id, .int .i64 r.each, .int .u64 r.th, .int .u64 r.tl, .int .u64 r.tw]) 35, bx (γ1 0) (#[.int .u64 t.hi, .int .u64 t.lo, .int .u64 t.w]) 33]) ?_ (fun hmx2 => ?_)
     ·
      rintro _ _
      refine any_fork [0, 4] (by kernel_rfl) (by simp) (each_cons _ rfl ?_ (each_cons _ rfl ?_ (each_nil)))
      ·
       refine qo0 1 [(0, .go (owns 1 0 3))] [6, 7, 8, 9, 55] [(54, .agg #[.int .u64 ((lessV ((overV t r.tw).1) (boost * r.each)).1.hi), .int .u64 ((lessV ((overV t r.tw).1) (boost * r.each)).1.lo), .int .u64 ((lessV ((overV t r.tw).1) (boost * r.each)).1.w)])] ?_
       refine od_ ?_
       exact wk (hmx4 () trivial) [6, 7, 8, 9, 54, 55] [[_], [_], [_], [_], [_], [_], [_]] [0, 1, 2, 3, 4, 5, 6] rfl rfl
      ·
       refine qo0 1 [(4, .go (owns 2 0 3))] [6, 7, 8, 10, 55] [(58, .agg #[.int .u64 ((overV t r.tw).1.hi), .int .u64 ((overV t r.tw).1.lo), .int .u64 ((overV t r.tw).1.w)])] ?_
       refine od_ ?_
       exact wk (hmx6 () trivial) [6, 7, 8, 10, 55, 58] [[_], [_], [_], [_], [_], [_], [_]] [0, 1, 2, 3, 4, 5, 6] rfl rfl
     refine any_cutX (V := Unit) (fun _ => True) 7 #[true, false, false, false, false, false, false, false] (fun _ => [(6, .pointer (some ⟨γ1 2, 0, none⟩)), (7, .pointer (some ⟨γ1 3, 0, none⟩)), (8, .int .i64 ((raiseV (⟨0, 0, r.tw⟩ : Fq) t 268435456).2)), (9, .pointer (some ⟨γ3 0, 0, none⟩)), (11, .pointer (some ⟨γ47 0, 0, none⟩)), (54, .agg #[.int .u64 ((lessV ((overV t r.tw).1) (boost * r.each)).1.hi), .int .u64 ((lessV ((overV t r.tw).1) (boost * r.each)).1.lo), .int .u64 ((lessV ((overV t r.tw).1) (boost * r.each)).1.w)])]) (fun _ => [bx (γ47 0) (#[.int .u64 ((raiseV (⟨0, 0, r.tw⟩ : Fq) t 268435456).1.hi), .int .u64 ((raiseV (⟨0, 0, r.tw⟩ : Fq) t 268435456).1.lo), .int .u64 ((raiseV (⟨0, 0, r.tw⟩ : Fq) t 268435456).1.w)]) 33, bx (γ25 0) (#[.int .u64 ((lessV ((overV t r.tw).1) (boost * r.each)).1.hi), .int .u64 ((lessV ((overV t r.tw).1) (boost * r.each)).1.lo), .int .u64 ((lessV ((overV t r.tw).1) (boost * r.each)).1.w)]) 33, bx (γ3 0) (#[.int .u64 ((overV t r.tw).1.hi), .int .u64 ((overV t r.tw).1.lo), .int .u64 ((overV t r.tw).1.w)]) 33, bx (γ1 3) (#[.int .u64 0, .int .u64 0, .int .u64 0]) 33, bx (γ1 2) (#[.int .u64 0, .int .u64 0, .int .u64 0]) 33, bx (γ1 1) (#[.int .i64 r.id, .int .i64 r.each, .int .u64 r.th, .int .u64 r.tl, .int .u64 r.tw]) 35, bx (γ1 0) (#[.int .u64 t.hi, .int .u64 t.lo, .int .u64 t.w]) 33]) ?_ (fun hmx1 => ?_)
     ·
      rintro _ _
      refine any_fork [1, 4] (by kernel_rfl) (by simp) (each_cons _ rfl ?_ (each_cons _ rfl ?_ (each_nil)))
      ·
       refine qo0 1 [(1, .go (owns 0 0 3))] [6, 7, 8, 9, 54] [(55, .agg #[.int .u64 ((raiseV (⟨0, 0, r.tw⟩ : Fq) t 268435456).1.hi), .int .u64 ((raiseV (⟨0, 0, r.tw⟩ : Fq) t 268435456).1.lo), .int .u64 ((raiseV (⟨0, 0, r.tw⟩ : Fq) t 268435456).1.w)])] ?_
       refine od_ ?_
       exact wk (hmx4 () trivial) [6, 7, 8, 9, 54, 55] [[_], [_], [_], [_], [_], [_], [_]] [0, 1, 2, 3, 4, 5, 6] rfl rfl
      ·
       refine qo0 1 [(4, .go (owns 2 0 3))] [6, 7, 8, 11, 54] [(58, .agg #[.int .u64 ((overV t r.tw).1.hi), .int .u64 ((overV t r.tw).1.lo), .int .u64 ((overV t r.tw).1.w)])] ?_
       refine od_ ?_
       exact wk (hmx5 () trivial) [6, 7, 8, 11, 54, 58] [[_], [_], [_], [_], [_], [_], [_]] [0, 1, 2, 3, 4, 5, 6] rfl rfl
     refine any_fork [0, 1, 4] (by kernel_rfl) (by simp) (each_cons _ rfl ?_ (each_cons _ rfl ?_ (each_cons _ rfl ?_ (each_nil))))
     ·
      refine qo0 1 [(0, .go (owns 1 0 3))] [6, 7, 8, 9, 11] [(54, .agg #[.int .u64 ((lessV ((overV t r.tw).1) (boost * r.each)).1.hi), .int .u64 ((lessV ((overV t r.tw).1) (boost * r.each)).1.lo), .int .u64 ((lessV ((overV t r.tw).1) (boost * r.each)).1.w)])] ?_
      refine od_ ?_
      exact wk (hmx1 () trivial) [6, 7, 8, 9, 11, 54] [[_], [_], [_], [_], [_], [_], [_]] [0, 1, 2, 3, 4, 5, 6] rfl rfl
     ·
      refine qo0 1 [(1, .go (owns 0 0 3))] [6, 7, 8, 9, 10] [(55, .agg #[.int .u64 ((raiseV (⟨0, 0, r.tw⟩ : Fq) t 268435456).1.hi), .int .u64 ((raiseV (⟨0, 0, r.tw⟩ : Fq) t 268435456).1.lo), .int .u64 ((raiseV (⟨0, 0, r.tw⟩ : Fq) t 268435456).1.w)])] ?_
      refine od_ ?_
      exact wk (hmx2 () trivial) [6, 7, 8, 9, 10, 55] [[_], [_], [_], [_], [_], [_], [_]] [0, 1, 2, 3, 4, 5, 6] rfl rfl
     ·
      refine qo0 1 [(4, .go (owns 2 0 3))] [6, 7, 8, 10, 11] [(58, .agg #[.int .u64 ((overV t r.tw).1.hi), .int .u64 ((overV t r.tw).1.lo), .int .u64 ((overV t r.tw).1.w)])] ?_
      refine od_ ?_
      exact wk (hmx3 () trivial) [6, 7, 8, 10, 11, 58] [[_], [_], [_], [_], [_], [_], [_]] [0, 1, 2, 3, 4, 5, 6] rfl rfl
    rintro γ110 _
    refine any_nil (by kernel_rfl) ?_
    refine ds_ (rt (owns 5 0 3 ++ owns 4 0 3) (.tuple #[.agg #[.int .u64 ((greatV ((lessV ((overV t r.tw).1) (boost * r.each)).1) ((raiseV (⟨0, 0, r.tw⟩ : Fq) t 268435456).1)).hi), .int .u64 ((greatV ((lessV ((overV t r.tw).1) (boost * r.each)).1) ((raiseV (⟨0, 0, r.tw⟩ : Fq) t 268435456).1)).lo), .int .u64 ((greatV ((lessV ((overV t r.tw).1) (boost * r.each)).1) ((raiseV (⟨0, 0, r.tw⟩ : Fq) t 268435456).1)).w)], .agg #[.int .u64 ((overV t r.tw).1.hi), .int .u64 ((overV t r.tw).1.lo), .int .u64 ((overV t r.tw).1.w)], .int .i64 0]) ?_)
    exact fun w' hw => ⟨by rw [bounds_4 q5 q27 q49], hw.below⟩
end Go.Proofs.Ytnhkecfapohlgaa

/-! Queues: Join. -/
namespace Go.Proofs.Ytnhkecfapohlgaa
open Go Go.RowKit

set_option maxRecDepth 100000 in
theorem join1_t (t : Fq) (an : Bool) (r : Rn) (boost : Int) (g4 g5 : Nat) (w : World)
 (h4 : Rd w g4 (0 + 0 * 5) [.int .i64 r.id, .int .i64 r.each, .int .u64 r.th, .int .u64 r.tl, .int .u64 r.tw]) (h5 : Rd w g5 (0 + 0 * 1) [.int .u64 boost])
 (hU : t.U) (hr : r.U) (he0 : 1 ≤ r.each) (he1 : r.each ≤ 8) (hb0 : 0 ≤ boost) (hb1 : boost ≤ 10000000)
 : Calls Try.prog 60 #[.agg #[.int .u64 t.hi, .int .u64 t.lo, .int .u64 t.w], .bool an, .pointer (some ⟨g4, 0 + 0 * 5, none⟩), .pointer (some ⟨g5, 0 + 0 * 1, none⟩)] w fun e w' => e = .returned (.tuple #[.agg #[.int .u64 (timeV (t, an) r boost).1.hi, .int .u64 (timeV (t, an) r boost).1.lo, .int .u64 (timeV (t, an) r boost).1.w], .int .i64 (timeV (t, an) r boost).2]) ∧ Below w.heap.size w w' := by
 refine enter (Hs.start w) Try.func60 rfl Try.ntmps60 rfl (sq_ (ma0 [] [1, 2, 3] (fun γ1 => [(4, .pointer (some ⟨γ1 0, 0, none⟩)), (6, .pointer (some ⟨γ1 1, 0, none⟩))]) (fun γ1 L => bx (γ1 1) (#[.int .u64 0, .int .u64 0, .int .u64 0]) 33 :: bx (γ1 0) (#[.int .u64 t.hi, .int .u64 t.lo, .int .u64 t.w]) 33 :: L) (fun γ1 => ds_ (sq_ (sq_ ?_)))))
 rcases q3 : an with _ | _
 ·
  refine qa0 [] [2, 3, 4, 6] [(13, .bool true)] (ds_ (t_ (sq_ (ma [(1, .go (outs g4 (0 + 0 * 5 + 2) [.int .u64 r.th, .int .u64 r.tl, .int .u64 r.tw])), (2, .go (owns 0 0 3))] [6] (fun _ => [(7, .int .i64 0)]) (fun _ L => (L.set 0 (bx (γ1 1) (#[.int .u64 r.th, .int .u64 r.tl, .int .u64 r.tw]) 33))) (fun _ => cellsP w g4 (0 + 0 * 5 + 2) [.int .u64 r.th, .int .u64 r.tl, .int .u64 r.tw]) (fun _ => (rd_part h4 2 _ rfl)) (fun _ => ds_ (rt (owns 0 0 3) (.tuple #[.agg #[.int .u64 r.th, .int .u64 r.tl, .int .u64 r.tw], .int .i64 0]) ?_))))))
  exact fun w' hw => ⟨by rw [time_none rfl]; rfl, hw.below⟩
 ·
  refine qa0 [] [2, 3, 4, 6] [(13, .bool false)] (ds_ (f_ (at_skip (ds_ (sq_ ?_)))))
  have hmb := mul_each he0 he1 hb0 hb1
  rw [Int.mul_comm] at hmb
  refine ao_ (qo 3 [(0, .go (owns 1 0 3)), (1, .go (outs g4 (0 + 0 * 5) [.int .i64 r.id, .int .i64 r.each, .int .u64 r.th, .int .u64 r.tl, .int .u64 r.tw])), (2, .go (outs g5 (0 + 0 * 1) [.int .u64 boost]))] [2, 6] [(17, .agg #[.int .u64 t.hi, .int .u64 t.lo, .int .u64 t.w]), (18, .agg #[.int .i64 r.id, .int .i64 r.each, .int .u64 r.th, .int .u64 r.tl, .int .u64 r.tw]), (19, .int .u64 boost)] (cellsP w g4 (0 + 0 * 5) [.int .i64 r.id, .int .i64 r.each, .int .u64 r.th, .int .u64 r.tl, .int .u64 r.tw] ++ (cellsP w g5 (0 + 0 * 1) [.int .u64 boost])) (alA (rd_pre h4 _ rfl) (rd_pre h5 _ rfl)) (cD (.tuple #[.agg #[.int .u64 ((boundsV t r boost).1.hi), .int .u64 ((boundsV t r boost).1.lo), .int .u64 ((boundsV t r boost).1.w)], .agg #[.int .u64 ((boundsV t r boost).2.1.hi), .int .u64 ((boundsV t r boost).2.1.lo), .int .u64 ((boundsV t r boost).2.1.w)], .int .i64 ((boundsV t r boost).2.2)]) Try.call61 (fun w hw => bounds_t t r boost w hU hr (by omega) he1 hmb.1 hmb.2) (mo0 9 [(10, .go (owns 1 0 3)), (11, .go (owns 0 0 3))] [2, 6] (fun γ8 => [(8, .pointer (some ⟨γ8 0, 0, none⟩)), (9, .pointer (some ⟨γ8 1, 0, none⟩)), (10, .int .i64 ((boundsV t r boost).2.2))]) (fun γ8 L => bx (γ8 1) (#[.int .u64 ((boundsV t r boost).2.1.hi), .int .u64 ((boundsV t r boost).2.1.lo), .int .u64 ((boundsV t r boost).2.1.w)]) 33 :: bx (γ8 0) (#[.int .u64 ((boundsV t r boost).1.hi), .int .u64 ((boundsV t r boost).1.lo), .int .u64 ((boundsV t r boost).1.w)]) 33 :: L) (fun γ8 => on_ (ds_ (sq_ (ao_ (mo 4 [(0, .go (owns 1 0 3)), (2, .go (outs g4 (0 + 0 * 5 + 2) [.int .u64 r.th, .int .u64 r.tl, .int .u64 r.tw]))] [6, 9, 10] (fun γ9 => [(27, .slice (some ⟨γ9 0, 0, none⟩) 2 2)]) (fun γ9 L => bx (γ9 0) (#[.int .u64 ((boundsV t r boost).1.hi), .int .u64 ((boundsV t r boost).1.lo), .int .u64 ((boundsV t r boost).1.w), .int .u64 r.th, .int .u64 r.tl, .int .u64 r.tw]) 33 :: L) (fun γ9 => cellsP w g4 (0 + 0 * 5 + 2) [.int .u64 r.th, .int .u64 r.tl, .int .u64 r.tw]) (fun γ9 => (rd_part h4 2 _ rfl)) (fun γ9 => cD (.agg #[.int .u64 ((greatV ((boundsV t r boost).1) r.t).hi), .int .u64 ((greatV ((boundsV t r boost).1) r.t).lo), .int .u64 ((greatV ((boundsV t r boost).1) r.t).w)]) Try.call62 (fun w hw => great_t (some ⟨γ9 0, 0, none⟩) 2 2 [(boundsV t r boost).1, r.t] w (sv_row (hw.row 0 rfl) rfl) rfl (by decide) (by decide) (two_U (bounds_U hU hr hmb.1).1 hr.t)) (mo0 2 [(6, .go (owns 0 0 3))] [6, 9, 10] (fun γ10 => [(11, .pointer (some ⟨γ10 0, 0, none⟩))]) (fun γ10 L => bx (γ10 0) (#[.int .u64 ((greatV ((boundsV t r boost).1) r.t).hi), .int .u64 ((greatV ((boundsV t r boost).1) r.t).lo), .int .u64 ((greatV ((boundsV t r boost).1) r.t).w)]) 33 :: L) (fun γ10 => ?_)))))))))))
  refine on_ (ds_ (sq_ (sq_ (ao_ (qo0 2 [(0, .go (owns 0 0 3)), (1, .go (owns 2 0 3))] [6, 9, 10, 11] [(29, .agg #[.int .u64 ((greatV ((boundsV t r boost).1) r.t).hi), .int .u64 ((greatV ((boundsV t r boost).1) r.t).lo), .int .u64 ((greatV ((boundsV t r boost).1) r.t).w)]), (30, .agg #[.int .u64 ((boundsV t r boost).2.1.hi), .int .u64 ((boundsV t r boost).2.1.lo), .int .u64 ((boundsV t r boost).2.1.w)])] (cD (.int .i64 (cmpF (greatV ((boundsV t r boost).1) r.t) ((boundsV t r boost).2.1))) Try.call13 (fun w hw => fcmp_t (greatV ((boundsV t r boost).1) r.t) ((boundsV t r boost).2.1) w (maxS_U (bounds_U hU hr hmb.1).1 hr.t) (bounds_U hU hr hmb.1).2) ?_))))))
  by_cases q13 : ((cmpF (greatV ((boundsV t r boost).1) r.t) ((boundsV t r boost).2.1)) : Int) > (0 : Int)
  ·
   refine qo 1 [(3, .yes)] [6, 9, 10, 11] [(32, .bool true)] ([((cmpF (greatV ((boundsV t r boost).1) r.t) ((boundsV t r boost).2.1)) : Int) > (0 : Int)]) (al1 q13) (on_ (ds_ (t_ (ma0 [(0, .go (owns 2 0 3)), (1, .go (owns 0 0 3))] [6, 10, 11] (fun _ => []) (fun _ L => (L.set 0 (bx (γ10 0) (#[.int .u64 ((boundsV t r boost).2.1.hi), .int .u64 ((boundsV t r boost).2.1.lo), .int .u64 ((boundsV t r boost).2.1.w)]) 33))) (fun _ => ds_ (sq_ (ma0 [(0, .go (owns 0 0 3)), (2, .go (owns 4 0 3))] [6] (fun _ => [(7, .int .i64 ((boundsV t r boost).2.2))]) (fun _ L => (L.set 4 (bx (γ1 1) (#[.int .u64 ((boundsV t r boost).2.1.hi), .int .u64 ((boundsV t r boost).2.1.lo), .int .u64 ((boundsV t r boost).2.1.w)]) 33))) (fun _ => ds_ (rt (owns 4 0 3) (.tuple #[.agg #[.int .u64 ((boundsV t r boost).2.1.hi), .int .u64 ((boundsV t r boost).2.1.lo), .int .u64 ((boundsV t r boost).2.1.w)], .int .i64 ((boundsV t r boost).2.2)]) ?_)))))))))
   exact fun w' hw => ⟨by rw [time_hi rfl (by omega)], hw.below⟩
  ·
   refine qo 1 [(3, .no)] [6, 9, 10, 11] [(32, .bool false)] ([¬ (((cmpF (greatV ((boundsV t r boost).1) r.t) ((boundsV t r boost).2.1)) : Int) > (0 : Int))]) (al1 q13) (on_ (ds_ (f_ (at_skip (ds_ (sq_ (ma0 [(0, .go (owns 0 0 3)), (2, .go (owns 4 0 3))] [6] (fun _ => [(7, .int .i64 ((boundsV t r boost).2.2))]) (fun _ L => (L.set 4 (bx (γ1 1) (#[.int .u64 ((greatV ((boundsV t r boost).1) r.t).hi), .int .u64 ((greatV ((boundsV t r boost).1) r.t).lo), .int .u64 ((greatV ((boundsV t r boost).1) r.t).w)]) 33))) (fun _ => ds_ (rt (owns 4 0 3) (.tuple #[.agg #[.int .u64 ((greatV ((boundsV t r boost).1) r.t).hi), .int .u64 ((greatV ((boundsV t r boost).1) r.t).lo), .int .u64 ((greatV ((boundsV t r boost).1) r.t).w)], .int .i64 ((boundsV t r boost).2.2)]) ?_)))))))))
   exact fun w' hw => ⟨by rw [time_lo rfl (by omega)], hw.below⟩

set_option maxRecDepth 100000 in
theorem join_t (p : Option Addr) (n cap : Nat) (ts : List Rn) (r : Rn) (boost : Int) (w : World)
 (hts : Sv w p ts) (hn : n = ts.length) (hb : n ≤ 1000)
 (hU : ∀ r ∈ ts, r.U)
 (hr : r.U) (hbo0 : 0 ≤ boost)
 : Calls Try.prog 28 #[.agg #[.slice p n cap], .agg #[.int .i64 r.id, .int .i64 r.each, .int .u64 r.th, .int .u64 r.tl, .int .u64 r.tw], .int .u64 boost] w fun e w' => ∃ q' n' c' Y, e = .returned (.tuple #[.agg #[.slice q' n' c'], .int .i64 (joinV ts r boost).2]) ∧ SlO 35 Y q' n' c' (joinV ts r boost).1 ∧ Below w.heap.size w w' ∧ Hs w Y w' := by
 refine enter (Hs.start w) Try.func28 rfl Try.ntmps28 rfl (sq_ (ma0 [] [] (fun γ1 => [(3, .pointer (some ⟨γ1 0, 0, none⟩)), (4, .pointer (some ⟨γ1 1, 0, none⟩)), (5, .pointer (some ⟨γ1 2, 0, none⟩)), (6, .pointer (some ⟨γ1 3, 0, none⟩))]) (fun γ1 L => bx (γ1 3) (#[.slice none 0 0]) 24 :: bx (γ1 2) (#[.int .u64 boost]) 25 :: bx (γ1 1) (#[.int .i64 r.id, .int .i64 r.each, .int .u64 r.th, .int .u64 r.tl, .int .u64 r.tw]) 35 :: bx (γ1 0) (#[.slice p n cap]) 24 :: L) (fun γ1 => ds_ (sq_ (sq_ ?_)))))
 by_cases q3 : (boost : Int) > (10000000 : Int)
 ·
  refine qa [(0, .go (owns 1 0 1)), (1, .yes)] [3, 4, 5, 6] [(10, .bool true)] ([(boost : Int) > (10000000 : Int)]) (al1 q3) (ds_ (t_ (sq_ (ao_ (qo0 1 [(0, .go (owns 3 0 1))] [6] [(11, .agg #[.slice p n cap])] ?_)))))
  rcases q6 : chkQ ts with _ | _
  ·
   refine cD (.int .i64 200) Try.call20 (fun w hw => by have := qcheck_t p n cap ts w (hts.kept hw.below) hn (by omega); rw [q6] at this; exact this) (qo0 1 [] [6] [(8, .int .i64 200)] (on_ (ds_ (sq_ (sq_ (qa0 [] [6, 8] [(14, .bool false)] (ds_ (f_ (at_skip (ds_ (sq_ (qa0 [(2, .go (owns 0 0 1))] [6] [(7, .int .i64 200)] (ds_ (rt (owns 0 0 1) (.tuple #[.agg #[.slice none 0 0], .int .i64 200]) ?_))))))))))))))
   exact fun w' hw => by rw [join_big q3, if_neg (by rw [q6]; decide)]; exact ⟨none, 0, 0, [], rfl, SlO.nil, hw.below, hw.sub (List.nil_sublist _)⟩
  ·
   refine cD (.int .i64 0) Try.call20 (fun w hw => by have := qcheck_t p n cap ts w (hts.kept hw.below) hn (by omega); rw [q6] at this; exact this) (qo0 1 [] [6] [(8, .int .i64 0)] (on_ (ds_ (sq_ (sq_ (qa0 [] [6, 8] [(14, .bool true)] (ds_ (t_ (qa0 [] [6] [(8, .int .i64 2)] (ds_ (sq_ (qa0 [(2, .go (owns 0 0 1))] [6] [(7, .int .i64 2)] (ds_ (rt (owns 0 0 1) (.tuple #[.agg #[.slice none 0 0], .int .i64 2]) ?_))))))))))))))
   exact fun w' hw => by rw [join_big q3, if_pos q6]; exact ⟨none, 0, 0, [], rfl, SlO.nil, hw.below, hw.sub (List.nil_sublist _)⟩
 ·
  refine qa [(0, .go (owns 1 0 1)), (1, .no)] [3, 4, 5, 6] [(10, .bool false)] ([¬ ((boost : Int) > (10000000 : Int))]) (al1 q3) (ds_ (f_ (at_skip (ds_ (sq_ (ao_ (qo0 3 [(0, .go (owns 3 0 1)), (1, .go (owns 2 0 5))] [6] [(17, .agg #[.slice p n cap]), (18, .agg #[.int .i64 r.id, .int .i64 r.each, .int .u64 r.th, .int .u64 r.tl, .int .u64 r.tw]), (19, .func (.func 60) #[] #[.pointer (some ⟨γ1 1, 0, none⟩), .pointer (some ⟨γ1 2, 0, none⟩)])] (ops_inline (g := 59) (args := #[.agg #[.slice p n cap], .agg #[.int .i64 r.id, .int .i64 r.each, .int .u64 r.th, .int .u64 r.tl, .int .u64 r.tw], .func (.func 60) #[] #[.pointer (some ⟨γ1 1, 0, none⟩), .pointer (some ⟨γ1 2, 0, none⟩)]]) (by kernel_rfl) (by kernel_rfl) (by kernel_rfl) (fun args w => Try.call59 args w) Try.func59 rfl Try.ntmps59 rfl (sq_ (ma0 [] [] (fun γ16 => [(3, .pointer (some ⟨γ16 0, 0, none⟩)), (4, .pointer (some ⟨γ16 1, 0, none⟩)), (5, .pointer (some ⟨γ16 2, 0, none⟩)), (6, .pointer (some ⟨γ16 3, 0, none⟩))]) (fun γ16 L => bx (γ16 3) (#[.slice none 0 0]) 24 :: bx (γ16 2) (#[.func (.func 60) #[] #[.pointer (some ⟨γ1 1, 0, none⟩), .pointer (some ⟨γ1 2, 0, none⟩)]]) 98 :: bx (γ16 1) (#[.int .i64 r.id, .int .i64 r.each, .int .u64 r.th, .int .u64 r.tl, .int .u64 r.tw]) 35 :: bx (γ16 0) (#[.slice p n cap]) 24 :: L) (fun γ16 => ds_ (sq_ (ao_ (qo0 2 [(0, .go (owns 3 0 1))] [6] [(8, .agg #[.slice p n cap]), (9, .func (.func 79) #[] #[.pointer (some ⟨γ16 1, 0, none⟩), .pointer (some ⟨γ16 2, 0, none⟩)])] (ops_inline (g := 56) (args := #[.agg #[.slice p n cap], .func (.func 79) #[] #[.pointer (some ⟨γ16 1, 0, none⟩), .pointer (some ⟨γ16 2, 0, none⟩)]]) (by kernel_rfl) (by kernel_rfl) (by kernel_rfl) (fun args w => Try.call56 args w) Try.func56 rfl Try.ntmps56 rfl (sq_ (ma0 [] [1] (fun γ18 => [(2, .pointer (some ⟨γ18 0, 0, none⟩)), (4, .pointer (some ⟨γ18 1, 0, none⟩))]) (fun γ18 L => bx (γ18 1) (#[.slice none 0 0]) 24 :: bx (γ18 0) (#[.slice p n cap]) 24 :: L) (fun γ18 => ds_ (sq_ (sq_ (ao_ (qo0 1 [(0, .go (owns 1 0 1))] [1, 2, 4] [(9, .agg #[.slice p n cap])] ?_))))))))))))))))))))))
  rcases q20 : chkQ ts with _ | _
  ·
   refine cD (.int .i64 200) Try.call20 (fun w hw => by have := qcheck_t p n cap ts w (hts.kept hw.below) hn (by omega); rw [q20] at this; exact this) (qo0 1 [] [1, 2, 4] [(6, .int .i64 200)] (on_ (ds_ (sq_ (qa0 [] [1, 2, 4, 6] [(12, .bool true)] (ds_ (t_ (sq_ (qa0 [(2, .go (owns 0 0 1))] [4] [(5, .int .i64 200)] (ds_ (bk (owns 0 0 1) (.tuple #[.agg #[.slice none 0 0], .int .i64 200]) (qo0 4 [(5, .go (owns 2 0 1))] [6] [(7, .int .i64 200)] (on_ (ds_ (bk (owns 2 0 1) (.tuple #[.agg #[.slice none 0 0], .int .i64 200]) (qo0 4 [(6, .go (owns 6 0 1))] [6] [(7, .int .i64 200)] (on_ (ds_ (rt (owns 6 0 1) (.tuple #[.agg #[.slice none 0 0], .int .i64 200]) ?_)))))))))))))))))))
   exact fun w' hw => by rw [join_bad (by omega) q20]; exact ⟨none, 0, 0, [], rfl, SlO.nil, hw.below, hw.sub (List.nil_sublist _)⟩
  ·
   refine cD (.int .i64 0) Try.call20 (fun w hw => by have := qcheck_t p n cap ts w (hts.kept hw.below) hn (by omega); rw [q20] at this; exact this) (qo0 1 [] [1, 2, 4] [(6, .int .i64 0)] (on_ (ds_ (sq_ (qa0 [] [1, 2, 4, 6] [(12, .bool false)] (ds_ (f_ (at_skip (ds_ (sq_ ?_))))))))))
   have hgq := chk_iff.1 q20
   have hlq := hgq.len
   refine ao_ (qo0 2 [(1, .go (owns 1 0 1))] [1, 4] [(16, .slice p n cap)] (cP (fun v L' => ∃ q_ c_ Y_, v = .slice q_ n c_ ∧ L' = List.take 10 ([bx (γ18 1) (#[.slice none 0 0]) 24, bx (γ18 0) (#[.slice p n cap]) 24, bx (γ16 3) (#[.slice none 0 0]) 24, bx (γ16 2) (#[.func (.func 60) #[] #[.pointer (some ⟨γ1 1, 0, none⟩), .pointer (some ⟨γ1 2, 0, none⟩)]]) 98, bx (γ16 1) (#[.int .i64 r.id, .int .i64 r.each, .int .u64 r.th, .int .u64 r.tl, .int .u64 r.tw]) 35, bx (γ16 0) (#[.slice p n cap]) 24, bx (γ1 3) (#[.slice none 0 0]) 24, bx (γ1 2) (#[.int .u64 boost]) 25, bx (γ1 1) (#[.int .i64 r.id, .int .i64 r.each, .int .u64 r.th, .int .u64 r.tl, .int .u64 r.tw]) 35, bx (γ1 0) (#[.slice p n cap]) 24]) ++ (Y_ ++ List.drop 10 ([bx (γ18 1) (#[.slice none 0 0]) 24, bx (γ18 0) (#[.slice p n cap]) 24, bx (γ16 3) (#[.slice none 0 0]) 24, bx (γ16 2) (#[.func (.func 60) #[] #[.pointer (some ⟨γ1 1, 0, none⟩), .pointer (some ⟨γ1 2, 0, none⟩)]]) 98, bx (γ16 1) (#[.int .i64 r.id, .int .i64 r.each, .int .u64 r.th, .int .u64 r.tl, .int .u64 r.tw]) 35, bx (γ16 0) (#[.slice p n cap]) 24, bx (γ1 3) (#[.slice none 0 0]) 24, bx (γ1 2) (#[.int .u64 boost]) 25, bx (γ1 1) (#[.int .i64 r.id, .int .i64 r.each, .int .u64 r.th, .int .u64 r.tl, .int .u64 r.tw]) 35, bx (γ1 0) (#[.slice p n cap]) 24])) ∧ SlO 35 Y_ q_ n c_ ts) Try.call78 (fun w hw => (qclone_t p n cap ts w (hts.kept hw.below) hn (by omega)).mono fun e w' ⟨q_, c_, Y_, he, hO, hb, hY⟩ => ⟨_, _, he, ⟨q_, c_, Y_, rfl, rfl, hO⟩, hw.join hb hY 10⟩) ?_))
   rintro v29 L29 ⟨q29, cq29, Y29, rfl, rfl, hO29⟩
   refine mo0 3 [(5, .go (owns 0 0 1))] [1, 4] (fun γ30 => [(7, .pointer (some ⟨γ30 0, 0, none⟩))]) (fun γ30 L => bx (γ30 0) (#[.slice q29 n cq29]) 24 :: L) (fun γ30 => on_ (ds_ (sq_ (sq_ (ao_ (qo0 1 [] [4, 7] [(19, .func (.func 79) #[] #[.pointer (some ⟨γ16 1, 0, none⟩), .pointer (some ⟨γ16 2, 0, none⟩)])] (ops_inline (g := 79) (args := #[.pointer (some ⟨γ30 0, 0, none⟩), .pointer (some ⟨γ16 1, 0, none⟩), .pointer (some ⟨γ16 2, 0, none⟩)]) (by kernel_rfl) (by kernel_rfl) (by kernel_rfl) (fun args w => Try.call79 args w) Try.func79 rfl Try.ntmps79 rfl (sq_ (qa0 [] [0, 1, 2] [] (ds_ (sq_ (sq_ (ao_ (qo0 1 [(0, .go (owns 5 0 5))] [0, 1, 2] [(10, .agg #[.int .i64 r.id, .int .i64 r.each, .int .u64 r.th, .int .u64 r.tl, .int .u64 r.tw])] ?_))))))))))))))
   rcases q34 : rnB r with _ | _
   ·
    refine cD (.int .i64 2) Try.call25 (fun w hw => by have := crun_t r w; rw [q34] at this; exact this) (qo0 1 [] [0, 1, 2] [(5, .int .i64 2)] (on_ (ds_ (sq_ (qa0 [] [0, 1, 2, 5] [(13, .bool true)] (ds_ (t_ (sq_ (qa0 [] [] [(4, .int .i64 2)] (ds_ (bk ([]) (.int .i64 2) (qo0 1 [] [4, 7] [(8, .int .i64 2)] (on_ (ds_ (sq_ (qa0 [] [4, 7, 8] [(22, .bool true)] (ds_ (t_ (sq_ (qa0 [(2, .go (owns 1 0 1))] [4] [(5, .int .i64 2)] (ds_ (bk (owns 1 0 1) (.tuple #[.agg #[.slice none 0 0], .int .i64 2]) (qo0 4 [(5, .go (owns 3 0 1))] [6] [(7, .int .i64 2)] (on_ (ds_ (bk (owns 3 0 1) (.tuple #[.agg #[.slice none 0 0], .int .i64 2]) (qo0 4 [(6, .go (owns 7 0 1))] [6] [(7, .int .i64 2)] (on_ (ds_ (rt (owns 7 0 1) (.tuple #[.agg #[.slice none 0 0], .int .i64 2]) ?_))))))))))))))))))))))))))))))
    exact fun w' hw => by rw [join_arg (by omega) q20 q34]; exact ⟨none, 0, 0, [], rfl, SlO.nil, hw.below, hw.sub (List.nil_sublist _)⟩
   ·
    refine cD (.int .i64 0) Try.call25 (fun w hw => by have := crun_t r w; rw [q34] at this; exact this) (qo0 1 [] [0, 1, 2] [(5, .int .i64 0)] (on_ (ds_ (sq_ (qa0 [] [0, 1, 2, 5] [(13, .bool false)] (ds_ (f_ (at_skip (ds_ (sq_ ?_))))))))))
    have hrb := rnB_iff.1 q34
    have hidr : idV r.id = true := idV_iff.2 hrb.1
    refine at_calm rfl (by kernel_rfl) (by kernel_rfl) ?_
    refine cm 6 [(3, .go (owns 0 0 1)), (5, .go (owns 5 0 1))] [0, 1, 2] [(19, .slice q29 n cq29), (21, .int .i64 r.id)] ([]) (by kernel_rfl) rfl al0 ?_
    rcases hg46 : getK Rn.id ts r.id with _ | y46
    ·
     have hpl46 := (pos_cut (k := r.id) hgq.rs).2.2
     refine cK (.tuple #[.int .i64 (posK Rn.id ts r.id : Nat), .bool false]) Try.call34 (fun w hw => by have := at_t q29 n cq29 ts r.id w (hO29.atN (A := [_, _, _, _, _, _, _, _, _, _, _]) hw) hO29.len (by omega) hgq hidr; rw [hasK_none hg46] at this; exact this) ?_
     refine cm 5 [] [0, 1, 2] [(6, .int .i64 (posK Rn.id ts r.id : Nat)), (7, .bool false)] ([]) (by kernel_rfl) rfl al0 ?_
     refine calm_nil' ?_
     refine ds_ (sq_ (sq_ (qa0 [] [0, 1, 2, 6] [(25, .bool false)] (ds_ (f_ (at_skip (ds_ (sq_ ?_))))))))
     refine at_any (by kernel_rfl) ?_
     refine tk (m := 12) [1, 2] [] [0, 1, 2, 6] [(29, .pointer (some ⟨γ30 0, 0, none⟩))] ([]) #[false, true, true, false, false, false, false, false, false, false, false, false, false, false] al0 ?_
     refine any_cutX (V := (Nat → Nat)) (fun γ272 => True) 0 #[true, true, true, true, true, true, true, true, true, true, true, true, true, true] (fun γ272 => [(0, .pointer (some ⟨γ30 0, 0, none⟩)), (1, .pointer (some ⟨γ16 1, 0, none⟩)), (6, .int .i64 (posK Rn.id ts r.id : Nat)), (8, .pointer (some ⟨γ272 0, 0, none⟩)), (9, .int .i64 ((timeV (topV ts) r boost).2))]) (fun γ272 => bx (γ272 0) (#[.int .u64 ((timeV (topV ts) r boost).1.hi), .int .u64 ((timeV (topV ts) r boost).1.lo), .int .u64 ((timeV (topV ts) r boost).1.w)]) 33 :: bx (γ30 0) (#[.slice q29 n cq29]) 24 :: bx (γ18 1) (#[.slice none 0 0]) 24 :: bx (γ18 0) (#[.slice p n cap]) 24 :: bx (γ16 3) (#[.slice none 0 0]) 24 :: bx (γ16 2) (#[.func (.func 60) #[] #[.pointer (some ⟨γ1 1, 0, none⟩), .pointer (some ⟨γ1 2, 0, none⟩)]]) 98 :: bx (γ16 1) (#[.int .i64 r.id, .int .i64 r.each, .int .u64 r.th, .int .u64 r.tl, .int .u64 r.tw]) 35 :: bx (γ16 0) (#[.slice p n cap]) 24 :: bx (γ1 3) (#[.slice none 0 0]) 24 :: bx (γ1 2) (#[.int .u64 boost]) 25 :: bx (γ1 1) (#[.int .i64 r.id, .int .i64 r.each, .int .u64 r.th, .int .u64 r.tl, .int .u64 r.tw]) 35 :: bx (γ1 0) (#[.slice p n cap]) 24 :: (Y29 ++ [])) ?_ (fun hmx14 => ?_)
     rotate_left
     ·
      refine any_cutX (V := (Nat → Nat)) (fun γ272 => True) 2 #[true, true, true, true, true, true, true, true, true, true, true, true, false, false] (fun γ272 => [(0, .pointer (some ⟨γ30 0, 0, none⟩)), (1, .pointer (some ⟨γ16 1, 0, none⟩)), (6, .int .i64 (posK Rn.id ts r.id : Nat)), (8, .pointer (some ⟨γ272 0, 0, none⟩)), (35, .agg #[.int .u64 ((timeV (topV ts) r boost).1.hi), .int .u64 ((timeV (topV ts) r boost).1.lo), .int .u64 ((timeV (topV ts) r boost).1.w)]), (36, .int .i64 ((timeV (topV ts) r boost).2))]) (fun γ272 => bx (γ272 0) (#[.int .u64 0, .int .u64 0, .int .u64 0]) 33 :: bx (γ30 0) (#[.slice q29 n cq29]) 24 :: bx (γ18 1) (#[.slice none 0 0]) 24 :: bx (γ18 0) (#[.slice p n cap]) 24 :: bx (γ16 3) (#[.slice none 0 0]) 24 :: bx (γ16 2) (#[.func (.func 60) #[] #[.pointer (some ⟨γ1 1, 0, none⟩), .pointer (some ⟨γ1 2, 0, none⟩)]]) 98 :: bx (γ16 1) (#[.int .i64 r.id, .int .i64 r.each, .int .u64 r.th, .int .u64 r.tl, .int .u64 r.tw]) 35 :: bx (γ16 0) (#[.slice p n cap]) 24 :: bx (γ1 3) (#[.slice none 0 0]) 24 :: bx (γ1 2) (#[.int .u64 boost]) 25 :: bx (γ1 1) (#[.int .i64 r.id, .int .i64 r.each, .int .u64 r.th, .int .u64 r.tl, .int .u64 r.tw]) 35 :: bx (γ1 0) (#[.slice p n cap]) 24 :: (Y29 ++ [])) ?_ (fun hmx13 => ?_)
      ·
       rintro γ272 _
       refine a1 12 rfl ?_
       refine mo0 1 [(12, .go (owns 0 0 3))] [0, 1, 6, 8, 36] (fun _ => []) (fun _ L => (L.set 0 (bx (γ272 0) (#[.int .u64 ((timeV (topV ts) r boost).1.hi), .int .u64 ((timeV (topV ts) r boost).1.lo), .int .u64 ((timeV (topV ts) r boost).1.w)]) 33))) (fun _ => ?_)
       refine od_ ?_
       refine tk (m := 0) [13] [] [0, 1, 6, 8] [(9, .int .i64 ((timeV (topV ts) r boost).2))] ([]) #[true, true, true, true, true, true, true, true, true, true, true, true, true, true] al0 ?_
       exact wk (hmx14 γ272 trivial) [0, 1, 6, 8, 9] [[_], [_], [_], [_], [_], [_], [_], [_], [_], [_], [_], [_], _] [0, 1, 2, 3, 4, 5, 6, 7, 8, 9, 10, 11, 12] rfl rfl
      refine any_cutX (V := Unit) (fun _ => True) 3 #[true, true, true, true, true, true, true, true, true, true, true, false, false, false] (fun _ => [(0, .pointer (some ⟨γ30 0, 0, none⟩)), (1, .pointer (some ⟨γ16 1, 0, none⟩)), (6, .int .i64 (posK Rn.id ts r.id : Nat)), (35, .agg #[.int .u64 ((timeV (topV ts) r boost).1.hi), .int .u64 ((timeV (topV ts) r boost).1.lo), .int .u64 ((timeV (topV ts) r boost).1.w)]), (36, .int .i64 ((timeV (topV ts) r boost).2))]) (fun _ => bx (γ30 0) (#[.slice q29 n cq29]) 24 :: bx (γ18 1) (#[.slice none 0 0]) 24 :: bx (γ18 0) (#[.slice p n cap]) 24 :: bx (γ16 3) (#[.slice none 0 0]) 24 :: bx (γ16 2) (#[.func (.func 60) #[] #[.pointer (some ⟨γ1 1, 0, none⟩), .pointer (some ⟨γ1 2, 0, none⟩)]]) 98 :: bx (γ16 1) (#[.int .i64 r.id, .int .i64 r.each, .int .u64 r.th, .int .u64 r.tl, .int .u64 r.tw]) 35 :: bx (γ16 0) (#[.slice p n cap]) 24 :: bx (γ1 3) (#[.slice none 0 0]) 24 :: bx (γ1 2) (#[.int .u64 boost]) 25 :: bx (γ1 1) (#[.int .i64 r.id, .int .i64 r.each, .int .u64 r.th, .int .u64 r.tl, .int .u64 r.tw]) 35 :: bx (γ1 0) (#[.slice p n cap]) 24 :: (Y29 ++ [])) ?_ (fun hmx12 => ?_)
      ·
       rintro _ _
       refine a1 11 rfl ?_
       refine mo0 1 [] [0, 1, 6, 35, 36] (fun γ272 => [(8, .pointer (some ⟨γ272 0, 0, none⟩))]) (fun γ272 L => bx (γ272 0) (#[.int .u64 0, .int .u64 0, .int .u64 0]) 33 :: L) (fun γ272 => ?_)
       refine od_ ?_
       exact wk (hmx13 γ272 trivial) [0, 1, 6, 8, 35, 36] [[_], [_], [_], [_], [_], [_], [_], [_], [_], [_], [_], [_], _] [0, 1, 2, 3, 4, 5, 6, 7, 8, 9, 10, 11, 12] rfl rfl
      refine any_cutX (V := (Nat → Nat)) (fun γ272 => True) 6 #[true, true, true, true, true, true, true, false, false, false, false, true, false, false] (fun γ272 => [(0, .pointer (some ⟨γ30 0, 0, none⟩)), (1, .pointer (some ⟨γ16 1, 0, none⟩)), (6, .int .i64 (posK Rn.id ts r.id : Nat)), (8, .pointer (some ⟨γ272 0, 0, none⟩)), (27, .func (.func 60) #[] #[.pointer (some ⟨γ1 1, 0, none⟩), .pointer (some ⟨γ1 2, 0, none⟩)]), (32, .agg #[.int .u64 ((topV ts).1.hi), .int .u64 ((topV ts).1.lo), .int .u64 ((topV ts).1.w)]), (33, .bool ((topV ts).2))]) (fun γ272 => bx (γ272 0) (#[.int .u64 0, .int .u64 0, .int .u64 0]) 33 :: bx (γ30 0) (#[.slice q29 n cq29]) 24 :: bx (γ18 1) (#[.slice none 0 0]) 24 :: bx (γ18 0) (#[.slice p n cap]) 24 :: bx (γ16 3) (#[.slice none 0 0]) 24 :: bx (γ16 2) (#[.func (.func 60) #[] #[.pointer (some ⟨γ1 1, 0, none⟩), .pointer (some ⟨γ1 2, 0, none⟩)]]) 98 :: bx (γ16 1) (#[.int .i64 r.id, .int .i64 r.each, .int .u64 r.th, .int .u64 r.tl, .int .u64 r.tw]) 35 :: bx (γ16 0) (#[.slice p n cap]) 24 :: bx (γ1 3) (#[.slice none 0 0]) 24 :: bx (γ1 2) (#[.int .u64 boost]) 25 :: bx (γ1 1) (#[.int .i64 r.id, .int .i64 r.each, .int .u64 r.th, .int .u64 r.tl, .int .u64 r.tw]) 35 :: bx (γ1 0) (#[.slice p n cap]) 24 :: (Y29 ++ [])) ?_ (fun hmx11 => ?_)
      ·
       rintro γ272 _
       refine a1 7 rfl ?_
       refine cD (.tuple #[.agg #[.int .u64 ((timeV (topV ts) r boost).1.hi), .int .u64 ((timeV (topV ts) r boost).1.lo), .int .u64 ((timeV (topV ts) r boost).1.w)], .int .i64 ((timeV (topV ts) r boost).2)]) Try.call60 (fun w hw => join1_t (topV ts).1 (topV ts).2 r boost (γ1 1) (γ1 2) w (rd_row (hw.row 10 rfl)) (rd_row (hw.row 9 rfl)) (topV_U hU) hr hrb.2.1.1 hrb.2.1.2 hbo0 (by omega)) ?_
       refine od_ ?_
       refine tk (m := 2) [8, 9, 10] [] [0, 1, 6, 8] [(35, .agg #[.int .u64 ((timeV (topV ts) r boost).1.hi), .int .u64 ((timeV (topV ts) r boost).1.lo), .int .u64 ((timeV (topV ts) r boost).1.w)]), (36, .int .i64 ((timeV (topV ts) r boost).2))] ([]) #[true, true, true, true, true, true, true, true, true, true, true, true, false, false] al0 ?_
       exact wk (hmx13 γ272 trivial) [0, 1, 6, 8, 35, 36] [[_], [_], [_], [_], [_], [_], [_], [_], [_], [_], [_], [_], _] [0, 1, 2, 3, 4, 5, 6, 7, 8, 9, 10, 11, 12] rfl rfl
      refine any_cutX (V := (Nat → Nat)) (fun γ272 => True) 7 #[false, true, true, true, true, true, true, false, false, false, false, true, false, false] (fun γ272 => [(0, .pointer (some ⟨γ30 0, 0, none⟩)), (1, .pointer (some ⟨γ16 1, 0, none⟩)), (2, .pointer (some ⟨γ16 2, 0, none⟩)), (6, .int .i64 (posK Rn.id ts r.id : Nat)), (8, .pointer (some ⟨γ272 0, 0, none⟩)), (32, .agg #[.int .u64 ((topV ts).1.hi), .int .u64 ((topV ts).1.lo), .int .u64 ((topV ts).1.w)]), (33, .bool ((topV ts).2))]) (fun γ272 => bx (γ272 0) (#[.int .u64 0, .int .u64 0, .int .u64 0]) 33 :: bx (γ30 0) (#[.slice q29 n cq29]) 24 :: bx (γ18 1) (#[.slice none 0 0]) 24 :: bx (γ18 0) (#[.slice p n cap]) 24 :: bx (γ16 3) (#[.slice none 0 0]) 24 :: bx (γ16 2) (#[.func (.func 60) #[] #[.pointer (some ⟨γ1 1, 0, none⟩), .pointer (some ⟨γ1 2, 0, none⟩)]]) 98 :: bx (γ16 1) (#[.int .i64 r.id, .int .i64 r.each, .int .u64 r.th, .int .u64 r.tl, .int .u64 r.tw]) 35 :: bx (γ16 0) (#[.slice p n cap]) 24 :: bx (γ1 3) (#[.slice none 0 0]) 24 :: bx (γ1 2) (#[.int .u64 boost]) 25 :: bx (γ1 1) (#[.int .i64 r.id, .int .i64 r.each, .int .u64 r.th, .int .u64 r.tl, .int .u64 r.tw]) 35 :: bx (γ1 0) (#[.slice p n cap]) 24 :: (Y29 ++ [])) ?_ (fun hmx10 => ?_)
      ·
       rintro γ272 _
       refine a1 0 rfl ?_
       refine qo0 1 [(0, .go (owns 5 0 1))] [0, 1, 6, 8, 32, 33] [(27, .func (.func 60) #[] #[.pointer (some ⟨γ1 1, 0, none⟩), .pointer (some ⟨γ1 2, 0, none⟩)])] ?_
       refine od_ ?_
       exact wk (hmx11 γ272 trivial) [0, 1, 6, 8, 27, 32, 33] [[_], [_], [_], [_], [_], [_], [_], [_], [_], [_], [_], [_], _] [0, 1, 2, 3, 4, 5, 6, 7, 8, 9, 10, 11, 12] rfl rfl
      refine any_cutX (V := Unit) (fun _ => True) 7 #[true, true, true, true, true, true, true, false, false, false, false, false, false, false] (fun _ => [(0, .pointer (some ⟨γ30 0, 0, none⟩)), (1, .pointer (some ⟨γ16 1, 0, none⟩)), (6, .int .i64 (posK Rn.id ts r.id : Nat)), (27, .func (.func 60) #[] #[.pointer (some ⟨γ1 1, 0, none⟩), .pointer (some ⟨γ1 2, 0, none⟩)]), (32, .agg #[.int .u64 ((topV ts).1.hi), .int .u64 ((topV ts).1.lo), .int .u64 ((topV ts).1.w)]), (33, .bool ((topV ts).2))]) (fun _ => bx (γ30 0) (#[.slice q29 n cq29]) 24 :: bx (γ18 1) (#[.slice none 0 0]) 24 :: bx (γ18 0) (#[.slice p n cap]) 24 :: bx (γ16 3) (#[.slice none 0 0]) 24 :: bx (γ16 2) (#[.func (.func 60) #[] #[.pointer (some ⟨γ1 1, 0, none⟩), .pointer (some ⟨γ1 2, 0, none⟩)]]) 98 :: bx (γ16 1) (#[.int .i64 r.id, .int .i64 r.each, .int .u64 r.th, .int .u64 r.tl, .int .u64 r.tw]) 35 :: bx (γ16 0) (#[.slice p n cap]) 24 :: bx (γ1 3) (#[.slice none 0 0]) 24 :: bx (γ1 2) (#[.int .u64 boost]) 25 :: bx (γ1 1) (#[.int .i64 r.id, .int .i64 r.each, .int .u64 r.th, .int .u64 r.tl, .int .u64 r.tw]) 35 :: bx (γ1 0) (#[.slice p n cap]) 24 :: (Y29 ++ [])) ?_ (fun hmx9 => ?_)
      ·
       rintro _ _
       refine any_fork [7, 11] (by kernel_rfl) (by simp) (each_cons _ rfl ?_ (each_cons _ rfl ?_ (each_nil)))
       ·
        refine cD (.tuple #[.agg #[.int .u64 ((timeV (topV ts) r boost).1.hi), .int .u64 ((timeV (topV ts) r boost).1.lo), .int .u64 ((timeV (topV ts) r boost).1.w)], .int .i64 ((timeV (topV ts) r boost).2)]) Try.call60 (fun w hw => join1_t (topV ts).1 (topV ts).2 r boost (γ1 1) (γ1 2) w (rd_row (hw.row 9 rfl)) (rd_row (hw.row 8 rfl)) (topV_U hU) hr hrb.2.1.1 hrb.2.1.2 hbo0 (by omega)) ?_
        refine od_ ?_
        refine tk (m := 3) [8, 9, 10] [] [0, 1, 6] [(35, .agg #[.int .u64 ((timeV (topV ts) r boost).1.hi), .int .u64 ((timeV (topV ts) r boost).1.lo), .int .u64 ((timeV (topV ts) r boost).1.w)]), (36, .int .i64 ((timeV (topV ts) r boost).2))] ([]) #[true, true, true, true, true, true, true, true, true, true, true, false, false, false] al0 ?_
        exact wk (hmx12 () trivial) [0, 1, 6, 35, 36] [[_], [_], [_], [_], [_], [_], [_], [_], [_], [_], [_], _] [0, 1, 2, 3, 4, 5, 6, 7, 8, 9, 10, 11] rfl rfl
       ·
        refine mo0 1 [] [0, 1, 6, 27, 32, 33] (fun γ272 => [(8, .pointer (some ⟨γ272 0, 0, none⟩))]) (fun γ272 L => bx (γ272 0) (#[.int .u64 0, .int .u64 0, .int .u64 0]) 33 :: L) (fun γ272 => ?_)
        refine od_ ?_
        exact wk (hmx11 γ272 trivial) [0, 1, 6, 8, 27, 32, 33] [[_], [_], [_], [_], [_], [_], [_], [_], [_], [_], [_], [_], _] [0, 1, 2, 3, 4, 5, 6, 7, 8, 9, 10, 11, 12] rfl rfl
      refine any_cutX (V := Unit) (fun _ => True) 8 #[false, true, true, true, true, true, true, false, false, false, false, false, false, false] (fun _ => [(0, .pointer (some ⟨γ30 0, 0, none⟩)), (1, .pointer (some ⟨γ16 1, 0, none⟩)), (2, .pointer (some ⟨γ16 2, 0, none⟩)), (6, .int .i64 (posK Rn.id ts r.id : Nat)), (32, .agg #[.int .u64 ((topV ts).1.hi), .int .u64 ((topV ts).1.lo), .int .u64 ((topV ts).1.w)]), (33, .bool ((topV ts).2))]) (fun _ => bx (γ30 0) (#[.slice q29 n cq29]) 24 :: bx (γ18 1) (#[.slice none 0 0]) 24 :: bx (γ18 0) (#[.slice p n cap]) 24 :: bx (γ16 3) (#[.slice none 0 0]) 24 :: bx (γ16 2) (#[.func (.func 60) #[] #[.pointer (some ⟨γ1 1, 0, none⟩), .pointer (some ⟨γ1 2, 0, none⟩)]]) 98 :: bx (γ16 1) (#[.int .i64 r.id, .int .i64 r.each, .int .u64 r.th, .int .u64 r.tl, .int .u64 r.tw]) 35 :: bx (γ16 0) (#[.slice p n cap]) 24 :: bx (γ1 3) (#[.slice none 0 0]) 24 :: bx (γ1 2) (#[.int .u64 boost]) 25 :: bx (γ1 1) (#[.int .i64 r.id, .int .i64 r.each, .int .u64 r.th, .int .u64 r.tl, .int .u64 r.tw]) 35 :: bx (γ1 0) (#[.slice p n cap]) 24 :: (Y29 ++ [])) ?_ (fun hmx8 => ?_)
      ·
       rintro _ _
       refine any_fork [0, 11] (by kernel_rfl) (by simp) (each_cons _ rfl ?_ (each_cons _ rfl ?_ (each_nil)))
       ·
        refine qo0 1 [(0, .go (owns 4 0 1))] [0, 1, 6, 32, 33] [(27, .func (.func 60) #[] #[.pointer (some ⟨γ1 1, 0, none⟩), .pointer (some ⟨γ1 2, 0, none⟩)])] ?_
        refine od_ ?_
        exact wk (hmx9 () trivial) [0, 1, 6, 27, 32, 33] [[_], [_], [_], [_], [_], [_], [_], [_], [_], [_], [_], _] [0, 1, 2, 3, 4, 5, 6, 7, 8, 9, 10, 11] rfl rfl
       ·
        refine mo0 1 [] [0, 1, 2, 6, 32, 33] (fun γ272 => [(8, .pointer (some ⟨γ272 0, 0, none⟩))]) (fun γ272 L => bx (γ272 0) (#[.int .u64 0, .int .u64 0, .int .u64 0]) 33 :: L) (fun γ272 => ?_)
        refine od_ ?_
        exact wk (hmx10 γ272 trivial) [0, 1, 2, 6, 8, 32, 33] [[_], [_], [_], [_], [_], [_], [_], [_], [_], [_], [_], [_], _] [0, 1, 2, 3, 4, 5, 6, 7, 8, 9, 10, 11, 12] rfl rfl
      refine any_cutX (V := (Nat → Nat)) (fun γ272 => True) 9 #[true, true, true, true, false, false, false, false, false, false, false, true, false, false] (fun γ272 => [(0, .pointer (some ⟨γ30 0, 0, none⟩)), (1, .pointer (some ⟨γ16 1, 0, none⟩)), (6, .int .i64 (posK Rn.id ts r.id : Nat)), (8, .pointer (some ⟨γ272 0, 0, none⟩)), (27, .func (.func 60) #[] #[.pointer (some ⟨γ1 1, 0, none⟩), .pointer (some ⟨γ1 2, 0, none⟩)]), (30, .agg #[.slice q29 n cq29])]) (fun γ272 => bx (γ272 0) (#[.int .u64 0, .int .u64 0, .int .u64 0]) 33 :: bx (γ30 0) (#[.slice q29 n cq29]) 24 :: bx (γ18 1) (#[.slice none 0 0]) 24 :: bx (γ18 0) (#[.slice p n cap]) 24 :: bx (γ16 3) (#[.slice none 0 0]) 24 :: bx (γ16 2) (#[.func (.func 60) #[] #[.pointer (some ⟨γ1 1, 0, none⟩), .pointer (some ⟨γ1 2, 0, none⟩)]]) 98 :: bx (γ16 1) (#[.int .i64 r.id, .int .i64 r.each, .int .u64 r.th, .int .u64 r.tl, .int .u64 r.tw]) 35 :: bx (γ16 0) (#[.slice p n cap]) 24 :: bx (γ1 3) (#[.slice none 0 0]) 24 :: bx (γ1 2) (#[.int .u64 boost]) 25 :: bx (γ1 1) (#[.int .i64 r.id, .int .i64 r.each, .int .u64 r.th, .int .u64 r.tl, .int .u64 r.tw]) 35 :: bx (γ1 0) (#[.slice p n cap]) 24 :: (Y29 ++ [])) ?_ (fun hmx7 => ?_)
      ·
       rintro γ272 _
       refine a1 4 rfl ?_
       refine cD (.tuple #[.agg #[.int .u64 ((topV ts).1.hi), .int .u64 ((topV ts).1.lo), .int .u64 ((topV ts).1.w)], .bool ((topV ts).2)]) Try.call49 (fun w hw => top_t q29 n cq29 ts w (hO29.atN (A := [_, _, _, _, _, _, _, _, _, _, _, _]) hw) hO29.len (by omega) hU) ?_
       refine od_ ?_
       refine tk (m := 6) [5, 6] [] [0, 1, 6, 8, 27] [(32, .agg #[.int .u64 ((topV ts).1.hi), .int .u64 ((topV ts).1.lo), .int .u64 ((topV ts).1.w)]), (33, .bool ((topV ts).2))] ([]) #[true, true, true, true, true, true, true, false, false, false, false, true, false, false] al0 ?_
       exact wk (hmx11 γ272 trivial) [0, 1, 6, 8, 27, 32, 33] [[_], [_], [_], [_], [_], [_], [_], [_], [_], [_], [_], [_], _] [0, 1, 2, 3, 4, 5, 6, 7, 8, 9, 10, 11, 12] rfl rfl
      refine any_cutX (V := (Nat → Nat)) (fun γ272 => True) 10 #[false, true, true, true, false, false, false, false, false, false, false, true, false, false] (fun γ272 => [(0, .pointer (some ⟨γ30 0, 0, none⟩)), (1, .pointer (some ⟨γ16 1, 0, none⟩)), (2, .pointer (some ⟨γ16 2, 0, none⟩)), (6, .int .i64 (posK Rn.id ts r.id : Nat)), (8, .pointer (some ⟨γ272 0, 0, none⟩)), (30, .agg #[.slice q29 n cq29])]) (fun γ272 => bx (γ272 0) (#[.int .u64 0, .int .u64 0, .int .u64 0]) 33 :: bx (γ30 0) (#[.slice q29 n cq29]) 24 :: bx (γ18 1) (#[.slice none 0 0]) 24 :: bx (γ18 0) (#[.slice p n cap]) 24 :: bx (γ16 3) (#[.slice none 0 0]) 24 :: bx (γ16 2) (#[.func (.func 60) #[] #[.pointer (some ⟨γ1 1, 0, none⟩), .pointer (some ⟨γ1 2, 0, none⟩)]]) 98 :: bx (γ16 1) (#[.int .i64 r.id, .int .i64 r.each, .int .u64 r.th, .int .u64 r.tl, .int .u64 r.tw]) 35 :: bx (γ16 0) (#[.slice p n cap]) 24 :: bx (γ1 3) (#[.slice none 0 0]) 24 :: bx (γ1 2) (#[.int .u64 boost]) 25 :: bx (γ1 1) (#[.int .i64 r.id, .int .i64 r.each, .int .u64 r.th, .int .u64 r.tl, .int .u64 r.tw]) 35 :: bx (γ1 0) (#[.slice p n cap]) 24 :: (Y29 ++ [])) ?_ (fun hmx6 => ?_)
      ·
       rintro γ272 _
       refine any_fork [0, 4] (by kernel_rfl) (by simp) (each_cons _ rfl ?_ (each_cons _ rfl ?_ (each_nil)))
       ·
        refine qo0 1 [(0, .go (owns 5 0 1))] [0, 1, 6, 8, 30] [(27, .func (.func 60) #[] #[.pointer (some ⟨γ1 1, 0, none⟩), .pointer (some ⟨γ1 2, 0, none⟩)])] ?_
        refine od_ ?_
        exact wk (hmx7 γ272 trivial) [0, 1, 6, 8, 27, 30] [[_], [_], [_], [_], [_], [_], [_], [_], [_], [_], [_], [_], _] [0, 1, 2, 3, 4, 5, 6, 7, 8, 9, 10, 11, 12] rfl rfl
       ·
        refine cD (.tuple #[.agg #[.int .u64 ((topV ts).1.hi), .int .u64 ((topV ts).1.lo), .int .u64 ((topV ts).1.w)], .bool ((topV ts).2)]) Try.call49 (fun w hw => top_t q29 n cq29 ts w (hO29.atN (A := [_, _, _, _, _, _, _, _, _, _, _, _]) hw) hO29.len (by omega) hU) ?_
        refine od_ ?_
        refine tk (m := 7) [5, 6] [] [0, 1, 2, 6, 8] [(32, .agg #[.int .u64 ((topV ts).1.hi), .int .u64 ((topV ts).1.lo), .int .u64 ((topV ts).1.w)]), (33, .bool ((topV ts).2))] ([]) #[false, true, true, true, true, true, true, false, false, false, false, true, false, false] al0 ?_
        exact wk (hmx10 γ272 trivial) [0, 1, 2, 6, 8, 32, 33] [[_], [_], [_], [_], [_], [_], [_], [_], [_], [_], [_], [_], _] [0, 1, 2, 3, 4, 5, 6, 7, 8, 9, 10, 11, 12] rfl rfl
      refine any_cutX (V := (Nat → Nat)) (fun γ272 => True) 10 #[true, true, true, false, false, false, false, false, false, false, false, true, false, false] (fun γ272 => [(0, .pointer (some ⟨γ30 0, 0, none⟩)), (1, .pointer (some ⟨γ16 1, 0, none⟩)), (6, .int .i64 (posK Rn.id ts r.id : Nat)), (8, .pointer (some ⟨γ272 0, 0, none⟩)), (27, .func (.func 60) #[] #[.pointer (some ⟨γ1 1, 0, none⟩), .pointer (some ⟨γ1 2, 0, none⟩)]), (29, .pointer (some ⟨γ30 0, 0, none⟩))]) (fun γ272 => bx (γ272 0) (#[.int .u64 0, .int .u64 0, .int .u64 0]) 33 :: bx (γ30 0) (#[.slice q29 n cq29]) 24 :: bx (γ18 1) (#[.slice none 0 0]) 24 :: bx (γ18 0) (#[.slice p n cap]) 24 :: bx (γ16 3) (#[.slice none 0 0]) 24 :: bx (γ16 2) (#[.func (.func 60) #[] #[.pointer (some ⟨γ1 1, 0, none⟩), .pointer (some ⟨γ1 2, 0, none⟩)]]) 98 :: bx (γ16 1) (#[.int .i64 r.id, .int .i64 r.each, .int .u64 r.th, .int .u64 r.tl, .int .u64 r.tw]) 35 :: bx (γ16 0) (#[.slice p n cap]) 24 :: bx (γ1 3) (#[.slice none 0 0]) 24 :: bx (γ1 2) (#[.int .u64 boost]) 25 :: bx (γ1 1) (#[.int .i64 r.id, .int .i64 r.each, .int .u64 r.th, .int .u64 r.tl, .int .u64 r.tw]) 35 :: bx (γ1 0) (#[.slice p n cap]) 24 :: (Y29 ++ [])) ?_ (fun hmx5 => ?_)
      ·
       rintro γ272 _
       refine a1 3 rfl ?_
       refine qo0 1 [(3, .go (owns 1 0 1))] [0, 1, 6, 8, 27] [(30, .agg #[.slice q29 n cq29])] ?_
       refine od_ ?_
       exact wk (hmx7 γ272 trivial) [0, 1, 6, 8, 27, 30] [[_], [_], [_], [_], [_], [_], [_], [_], [_], [_], [_], [_], _] [0, 1, 2, 3, 4, 5, 6, 7, 8, 9, 10, 11, 12] rfl rfl
      refine any_cutX (V := Unit) (fun _ => True) 10 #[true, true, true, true, false, false, false, false, false, false, false, false, false, false] (fun _ => [(0, .pointer (some ⟨γ30 0, 0, none⟩)), (1, .pointer (some ⟨γ16 1, 0, none⟩)), (6, .int .i64 (posK Rn.id ts r.id : Nat)), (27, .func (.func 60) #[] #[.pointer (some ⟨γ1 1, 0, none⟩), .pointer (some ⟨γ1 2, 0, none⟩)]), (30, .agg #[.slice q29 n cq29])]) (fun _ => bx (γ30 0) (#[.slice q29 n cq29]) 24 :: bx (γ18 1) (#[.slice none 0 0]) 24 :: bx (γ18 0) (#[.slice p n cap]) 24 :: bx (γ16 3) (#[.slice none 0 0]) 24 :: bx (γ16 2) (#[.func (.func 60) #[] #[.pointer (some ⟨γ1 1, 0, none⟩), .pointer (some ⟨γ1 2, 0, none⟩)]]) 98 :: bx (γ16 1) (#[.int .i64 r.id, .int .i64 r.each, .int .u64 r.th, .int .u64 r.tl, .int .u64 r.tw]) 35 :: bx (γ16 0) (#[.slice p n cap]) 24 :: bx (γ1 3) (#[.slice none 0 0]) 24 :: bx (γ1 2) (#[.int .u64 boost]) 25 :: bx (γ1 1) (#[.int .i64 r.id, .int .i64 r.each, .int .u64 r.th, .int .u64 r.tl, .int .u64 r.tw]) 35 :: bx (γ1 0) (#[.slice p n cap]) 24 :: (Y29 ++ [])) ?_ (fun hmx4 => ?_)
      ·
       rintro _ _
       refine any_fork [4, 11] (by kernel_rfl) (by simp) (each_cons _ rfl ?_ (each_cons _ rfl ?_ (each_nil)))
       ·
        refine cD (.tuple #[.agg #[.int .u64 ((topV ts).1.hi), .int .u64 ((topV ts).1.lo), .int .u64 ((topV ts).1.w)], .bool ((topV ts).2)]) Try.call49 (fun w hw => top_t q29 n cq29 ts w (hO29.atN (A := [_, _, _, _, _, _, _, _, _, _, _]) hw) hO29.len (by omega) hU) ?_
        refine od_ ?_
        refine tk (m := 7) [5, 6] [] [0, 1, 6, 27] [(32, .agg #[.int .u64 ((topV ts).1.hi), .int .u64 ((topV ts).1.lo), .int .u64 ((topV ts).1.w)]), (33, .bool ((topV ts).2))] ([]) #[true, true, true, true, true, true, true, false, false, false, false, false, false, false] al0 ?_
        exact wk (hmx9 () trivial) [0, 1, 6, 27, 32, 33] [[_], [_], [_], [_], [_], [_], [_], [_], [_], [_], [_], _] [0, 1, 2, 3, 4, 5, 6, 7, 8, 9, 10, 11] rfl rfl
       ·
        refine mo0 1 [] [0, 1, 6, 27, 30] (fun γ272 => [(8, .pointer (some ⟨γ272 0, 0, none⟩))]) (fun γ272 L => bx (γ272 0) (#[.int .u64 0, .int .u64 0, .int .u64 0]) 33 :: L) (fun γ272 => ?_)
        refine od_ ?_
        exact wk (hmx7 γ272 trivial) [0, 1, 6, 8, 27, 30] [[_], [_], [_], [_], [_], [_], [_], [_], [_], [_], [_], [_], _] [0, 1, 2, 3, 4, 5, 6, 7, 8, 9, 10, 11, 12] rfl rfl
      refine any_cutX (V := (Nat → Nat)) (fun γ272 => True) 11 #[false, true, true, false, false, false, false, false, false, false, false, true, false, false] (fun γ272 => [(0, .pointer (some ⟨γ30 0, 0, none⟩)), (1, .pointer (some ⟨γ16 1, 0, none⟩)), (2, .pointer (some ⟨γ16 2, 0, none⟩)), (6, .int .i64 (posK Rn.id ts r.id : Nat)), (8, .pointer (some ⟨γ272 0, 0, none⟩)), (29, .pointer (some ⟨γ30 0, 0, none⟩))]) (fun γ272 => bx (γ272 0) (#[.int .u64 0, .int .u64 0, .int .u64 0]) 33 :: bx (γ30 0) (#[.slice q29 n cq29]) 24 :: bx (γ18 1) (#[.slice none 0 0]) 24 :: bx (γ18 0) (#[.slice p n cap]) 24 :: bx (γ16 3) (#[.slice none 0 0]) 24 :: bx (γ16 2) (#[.func (.func 60) #[] #[.pointer (some ⟨γ1 1, 0, none⟩), .pointer (some ⟨γ1 2, 0, none⟩)]]) 98 :: bx (γ16 1) (#[.int .i64 r.id, .int .i64 r.each, .int .u64 r.th, .int .u64 r.tl, .int .u64 r.tw]) 35 :: bx (γ16 0) (#[.slice p n cap]) 24 :: bx (γ1 3) (#[.slice none 0 0]) 24 :: bx (γ1 2) (#[.int .u64 boost]) 25 :: bx (γ1 1) (#[.int .i64 r.id, .int .i64 r.each, .int .u64 r.th, .int .u64 r.tl, .int .u64 r.tw]) 35 :: bx (γ1 0) (#[.slice p n cap]) 24 :: (Y29 ++ [])) ?_ (fun hmx3 => ?_)
      ·
       rintro γ272 _
       refine any_fork [0, 3] (by kernel_rfl) (by simp) (each_cons _ rfl ?_ (each_cons _ rfl ?_ (each_nil)))
       ·
        refine qo0 1 [(0, .go (owns 5 0 1))] [0, 1, 6, 8, 29] [(27, .func (.func 60) #[] #[.pointer (some ⟨γ1 1, 0, none⟩), .pointer (some ⟨γ1 2, 0, none⟩)])] ?_
        refine od_ ?_
        exact wk (hmx5 γ272 trivial) [0, 1, 6, 8, 27, 29] [[_], [_], [_], [_], [_], [_], [_], [_], [_], [_], [_], [_], _] [0, 1, 2, 3, 4, 5, 6, 7, 8, 9, 10, 11, 12] rfl rfl
       ·
        refine qo0 1 [(3, .go (owns 1 0 1))] [0, 1, 2, 6, 8] [(30, .agg #[.slice q29 n cq29])] ?_
        refine od_ ?_
        exact wk (hmx6 γ272 trivial) [0, 1, 2, 6, 8, 30] [[_], [_], [_], [_], [_], [_], [_], [_], [_], [_], [_], [_], _] [0, 1, 2, 3, 4, 5, 6, 7, 8, 9, 10, 11, 12] rfl rfl
      refine any_cutX (V := Unit) (fun _ => True) 11 #[false, true, true, true, false, false, false, false, false, false, false, false, false, false] (fun _ => [(0, .pointer (some ⟨γ30 0, 0, none⟩)), (1, .pointer (some ⟨γ16 1, 0, none⟩)), (2, .pointer (some ⟨γ16 2, 0, none⟩)), (6, .int .i64 (posK Rn.id ts r.id : Nat)), (30, .agg #[.slice q29 n cq29])]) (fun _ => bx (γ30 0) (#[.slice q29 n cq29]) 24 :: bx (γ18 1) (#[.slice none 0 0]) 24 :: bx (γ18 0) (#[.slice p n cap]) 24 :: bx (γ16 3) (#[.slice none 0 0]) 24 :: bx (γ16 2) (#[.func (.func 60) #[] #[.pointer (some ⟨γ1 1, 0, none⟩), .pointer (some ⟨γ1 2, 0, none⟩)]]) 98 :: bx (γ16 1) (#[.int .i64 r.id, .int .i64 r.each, .int .u64 r.th, .int .u64 r.tl, .int .u64 r.tw]) 35 :: bx (γ16 0) (#[.slice p n cap]) 24 :: bx (γ1 3) (#[.slice none 0 0]) 24 :: bx (γ1 2) (#[.int .u64 boost]) 25 :: bx (γ1 1) (#[.int .i64 r.id, .int .i64 r.each, .int .u64 r.th, .int .u64 r.tl, .int .u64 r.tw]) 35 :: bx (γ1 0) (#[.slice p n cap]) 24 :: (Y29 ++ [])) ?_ (fun hmx2 => ?_)
      ·
       rintro _ _
       refine any_fork [0, 4, 11] (by kernel_rfl) (by simp) (each_cons _ rfl ?_ (each_cons _ rfl ?_ (each_cons _ rfl ?_ (each_nil))))
       ·
        refine qo0 1 [(0, .go (owns 4 0 1))] [0, 1, 6, 30] [(27, .func (.func 60) #[] #[.pointer (some ⟨γ1 1, 0, none⟩), .pointer (some ⟨γ1 2, 0, none⟩)])] ?_
        refine od_ ?_
        exact wk (hmx4 () trivial) [0, 1, 6, 27, 30] [[_], [_], [_], [_], [_], [_], [_], [_], [_], [_], [_], _] [0, 1, 2, 3, 4, 5, 6, 7, 8, 9, 10, 11] rfl rfl
       ·
        refine cD (.tuple #[.agg #[.int .u64 ((topV ts).1.hi), .int .u64 ((topV ts).1.lo), .int .u64 ((topV ts).1.w)], .bool ((topV ts).2)]) Try.call49 (fun w hw => top_t q29 n cq29 ts w (hO29.atN (A := [_, _, _, _, _, _, _, _, _, _, _]) hw) hO29.len (by omega) hU) ?_
        refine od_ ?_
        refine tk (m := 8) [5, 6] [] [0, 1, 2, 6] [(32, .agg #[.int .u64 ((topV ts).1.hi), .int .u64 ((topV ts).1.lo), .int .u64 ((topV ts).1.w)]), (33, .bool ((topV ts).2))] ([]) #[false, true, true, true, true, true, true, false, false, false, false, false, false, false] al0 ?_
        exact wk (hmx8 () trivial) [0, 1, 2, 6, 32, 33] [[_], [_], [_], [_], [_], [_], [_], [_], [_], [_], [_], _] [0, 1, 2, 3, 4, 5, 6, 7, 8, 9, 10, 11] rfl rfl
       ·
        refine mo0 1 [] [0, 1, 2, 6, 30] (fun γ272 => [(8, .pointer (some ⟨γ272 0, 0, none⟩))]) (fun γ272 L => bx (γ272 0) (#[.int .u64 0, .int .u64 0, .int .u64 0]) 33 :: L) (fun γ272 => ?_)
        refine od_ ?_
        exact wk (hmx6 γ272 trivial) [0, 1, 2, 6, 8, 30] [[_], [_], [_], [_], [_], [_], [_], [_], [_], [_], [_], [_], _] [0, 1, 2, 3, 4, 5, 6, 7, 8, 9, 10, 11, 12] rfl rfl
      refine any_cutX (V := Unit) (fun _ => True) 11 #[true, true, true, false, false, false, false, false, false, false, false, false, false, false] (fun _ => [(0, .pointer (some ⟨γ30 0, 0, none⟩)), (1, .pointer (some ⟨γ16 1, 0, none⟩)), (6, .int .i64 (posK Rn.id ts r.id : Nat)), (27, .func (.func 60) #[] #[.pointer (some ⟨γ1 1, 0, none⟩), .pointer (some ⟨γ1 2, 0, none⟩)]), (29, .pointer (some ⟨γ30 0, 0, none⟩))]) (fun _ => bx (γ30 0) (#[.slice q29 n cq29]) 24 :: bx (γ18 1) (#[.slice none 0 0]) 24 :: bx (γ18 0) (#[.slice p n cap]) 24 :: bx (γ16 3) (#[.slice none 0 0]) 24 :: bx (γ16 2) (#[.func (.func 60) #[] #[.pointer (some ⟨γ1 1, 0, none⟩), .pointer (some ⟨γ1 2, 0, none⟩)]]) 98 :: bx (γ16 1) (#[.int .i64 r.id, .int .i64 r.each, .int .u64 r.th, .int .u64 r.tl, .int .u64 r.tw]) 35 :: bx (γ16 0) (#[.slice p n cap]) 24 :: bx (γ1 3) (#[.slice none 0 0]) 24 :: bx (γ1 2) (#[.int .u64 boost]) 25 :: bx (γ1 1) (#[.int .i64 r.id, .int .i64 r.each, .int .u64 r.th, .int .u64 r.tl, .int .u64 r.tw]) 35 :: bx (γ1 0) (#[.slice p n cap]) 24 :: (Y29 ++ [])) ?_ (fun hmx1 => ?_)
      ·
       rintro _ _
       refine any_fork [3, 11] (by kernel_rfl) (by simp) (each_cons _ rfl ?_ (each_cons _ rfl ?_ (each_nil)))
       ·
        refine qo0 1 [(3, .go (owns 0 0 1))] [0, 1, 6, 27] [(30, .agg #[.slice q29 n cq29])] ?_
        refine od_ ?_
        exact wk (hmx4 () trivial) [0, 1, 6, 27, 30] [[_], [_], [_], [_], [_], [_], [_], [_], [_], [_], [_], _] [0, 1, 2, 3, 4, 5, 6, 7, 8, 9, 10, 11] rfl rfl
       ·
        refine mo0 1 [] [0, 1, 6, 27, 29] (fun γ272 => [(8, .pointer (some ⟨γ272 0, 0, none⟩))]) (fun γ272 L => bx (γ272 0) (#[.int .u64 0, .int .u64 0, .int .u64 0]) 33 :: L) (fun γ272 => ?_)
        refine od_ ?_
        exact wk (hmx5 γ272 trivial) [0, 1, 6, 8, 27, 29] [[_], [_], [_], [_], [_], [_], [_], [_], [_], [_], [_], [_], _] [0, 1, 2, 3, 4, 5, 6, 7, 8, 9, 10, 11, 12] rfl rfl
      refine any_fork [0, 3, 11] (by kernel_rfl) (by simp) (each_cons _ rfl ?_ (each_cons _ rfl ?_ (each_cons _ rfl ?_ (each_nil))))
      ·
       refine qo0 1 [(0, .go (owns 4 0 1))] [0, 1, 6, 29] [(27, .func (.func 60) #[] #[.pointer (some ⟨γ1 1, 0, none⟩), .pointer (some ⟨γ1 2, 0, none⟩)])] ?_
       refine od_ ?_
       exact wk (hmx1 () trivial) [0, 1, 6, 27, 29] [[_], [_], [_], [_], [_], [_], [_], [_], [_], [_], [_], _] [0, 1, 2, 3, 4, 5, 6, 7, 8, 9, 10, 11] rfl rfl
      ·
       refine qo0 1 [(3, .go (owns 0 0 1))] [0, 1, 2, 6] [(30, .agg #[.slice q29 n cq29])] ?_
       refine od_ ?_
       exact wk (hmx2 () trivial) [0, 1, 2, 6, 30] [[_], [_], [_], [_], [_], [_], [_], [_], [_], [_], [_], _] [0, 1, 2, 3, 4, 5, 6, 7, 8, 9, 10, 11] rfl rfl
      ·
       refine mo0 1 [] [0, 1, 2, 6, 29] (fun γ272 => [(8, .pointer (some ⟨γ272 0, 0, none⟩))]) (fun γ272 L => bx (γ272 0) (#[.int .u64 0, .int .u64 0, .int .u64 0]) 33 :: L) (fun γ272 => ?_)
       refine od_ ?_
       exact wk (hmx3 γ272 trivial) [0, 1, 2, 6, 8, 29] [[_], [_], [_], [_], [_], [_], [_], [_], [_], [_], [_], [_], _] [0, 1, 2, 3, 4, 5, 6, 7, 8, 9, 10, 11, 12] rfl rfl
     rintro γ272 _
     refine any_nil (by kernel_rfl) ?_
     refine ds_ (sq_ (sq_ ?_))
     by_cases q386 : ((timeV (topV ts) r boost).2 : Int) ≠ (0 : Int)
     ·
      refine qa [(1, .yes)] [0, 1, 6, 8, 9] [(38, .bool true)] ([((timeV (topV ts) r boost).2 : Int) ≠ (0 : Int)]) (al1 q386) (ds_ (t_ (sq_ (qa0 [] [] [(4, .int .i64 ((timeV (topV ts) r boost).2))] (ds_ (bk ([]) (.int .i64 ((timeV (topV ts) r boost).2)) (qo0 1 [] [4, 7] [(8, .int .i64 ((timeV (topV ts) r boost).2))] (on_ (ds_ (sq_ (qa [(1, .yes)] [4, 7, 8] [(22, .bool true)] ([((timeV (topV ts) r boost).2 : Int) ≠ (0 : Int)]) (al1 q386) (ds_ (t_ (sq_ (qa0 [(2, .go (owns 2 0 1))] [4] [(5, .int .i64 ((timeV (topV ts) r boost).2))] (ds_ (bk (owns 2 0 1) (.tuple #[.agg #[.slice none 0 0], .int .i64 ((timeV (topV ts) r boost).2)]) (qo0 4 [(5, .go (owns 4 0 1))] [6] [(7, .int .i64 ((timeV (topV ts) r boost).2))] (on_ (ds_ (bk (owns 4 0 1) (.tuple #[.agg #[.slice none 0 0], .int .i64 ((timeV (topV ts) r boost).2)]) (qo0 4 [(6, .go (owns 8 0 1))] [6] [(7, .int .i64 ((timeV (topV ts) r boost).2))] (on_ (ds_ (rt (owns 8 0 1) (.tuple #[.agg #[.slice none 0 0], .int .i64 ((timeV (topV ts) r boost).2)]) ?_)))))))))))))))))))))))))
      exact fun w' hw => by rw [join_err (by omega) q20 q34 hg46 (by omega)]; exact ⟨none, 0, 0, [], rfl, SlO.nil, hw.below, hw.sub (List.nil_sublist _)⟩
     ·
      refine qa [(1, .no)] [0, 1, 6, 8, 9] [(38, .bool false)] ([¬ (((timeV (topV ts) r boost).2 : Int) ≠ (0 : Int))]) (al1 q386) (ds_ (f_ (at_skip (ds_ (sq_ (ma0 [(0, .go (owns 0 0 3)), (2, .go (owns 6 2 3))] [0, 1, 6] (fun _ => []) (fun _ L => (L.set 6 (bx (γ16 1) (#[.int .i64 r.id, .int .i64 r.each, .int .u64 ((timeV (topV ts) r boost).1.hi), .int .u64 ((timeV (topV ts) r boost).1.lo), .int .u64 ((timeV (topV ts) r boost).1.w)]) 35))) (fun _ => ds_ (sq_ ?_))))))))
      refine at_any (by kernel_rfl) ?_
      refine tk (m := 7) [0, 1, 2, 3, 5] [] [1] [(42, .pointer (some ⟨γ30 0, 0, none⟩)), (45, .pointer (some ⟨γ30 0, 0, none⟩)), (47, .int .i64 (posK Rn.id ts r.id : Nat))] ([]) #[true, true, true, true, false, true, false, false, false, false, false, false] al0 ?_
      refine any_cutG 4 #[true, true, true, true, true, true, true, true, false, false, false, false] (fun γ401 => [(42, .pointer (some ⟨γ30 0, 0, none⟩)), (46, .slice q29 n cq29), (47, .int .i64 (posK Rn.id ts r.id : Nat)), (49, .slice (some ⟨γ401 0, 0, none⟩) 1 1)]) (fun γ401 => bx (γ401 0) (#[.int .i64 r.id, .int .i64 r.each, .int .u64 ((timeV (topV ts) r boost).1.hi), .int .u64 ((timeV (topV ts) r boost).1.lo), .int .u64 ((timeV (topV ts) r boost).1.w)]) 35 :: bx (γ272 0) (#[.int .u64 ((timeV (topV ts) r boost).1.hi), .int .u64 ((timeV (topV ts) r boost).1.lo), .int .u64 ((timeV (topV ts) r boost).1.w)]) 33 :: bx (γ30 0) (#[.slice q29 n cq29]) 24 :: bx (γ18 1) (#[.slice none 0 0]) 24 :: bx (γ18 0) (#[.slice p n cap]) 24 :: bx (γ16 3) (#[.slice none 0 0]) 24 :: bx (γ16 2) (#[.func (.func 60) #[] #[.pointer (some ⟨γ1 1, 0, none⟩), .pointer (some ⟨γ1 2, 0, none⟩)]]) 98 :: bx (γ16 1) (#[.int .i64 r.id, .int .i64 r.each, .int .u64 ((timeV (topV ts) r boost).1.hi), .int .u64 ((timeV (topV ts) r boost).1.lo), .int .u64 ((timeV (topV ts) r boost).1.w)]) 35 :: bx (γ16 0) (#[.slice p n cap]) 24 :: bx (γ1 3) (#[.slice none 0 0]) 24 :: bx (γ1 2) (#[.int .u64 boost]) 25 :: bx (γ1 1) (#[.int .i64 r.id, .int .i64 r.each, .int .u64 r.th, .int .u64 r.tl, .int .u64 r.tw]) 35 :: bx (γ1 0) (#[.slice p n cap]) 24 :: (Y29 ++ [])) (fun γ401 => ?_) (fun hm => ?_)
      rotate_left
      ·
       refine any_fork [4, 6] (by kernel_rfl) (by simp) (each_cons _ rfl ?_ (each_cons _ rfl ?_ (each_nil)))
       ·
        refine qo0 1 [(4, .go (owns 1 0 1))] [1, 42, 47] [(46, .slice q29 n cq29)] ?_
        refine od_ ?_
        refine a1 6 rfl ?_
        refine qo0 1 [(6, .go (owns 6 0 5))] [42, 46, 47] [(48, .agg #[.int .i64 r.id, .int .i64 r.each, .int .u64 ((timeV (topV ts) r boost).1.hi), .int .u64 ((timeV (topV ts) r boost).1.lo), .int .u64 ((timeV (topV ts) r boost).1.w)])] ?_
        refine od_ ?_
        refine a1 7 rfl ?_
        refine mo0 1 [] [42, 46, 47] (fun γ404 => [(49, .slice (some ⟨γ404 0, 0, none⟩) 1 1)]) (fun γ404 L => bx (γ404 0) (#[.int .i64 r.id, .int .i64 r.each, .int .u64 ((timeV (topV ts) r boost).1.hi), .int .u64 ((timeV (topV ts) r boost).1.lo), .int .u64 ((timeV (topV ts) r boost).1.w)]) 35 :: L) (fun γ404 => ?_)
        refine od_ ?_
        exact any_weak (hm fun i => [γ404 0].getD i 0) [42, 46, 47, 49] (by kernel_rfl) rfl rfl rfl
       ·
        refine qo0 1 [(6, .go (owns 6 0 5))] [42, 45, 47] [(48, .agg #[.int .i64 r.id, .int .i64 r.each, .int .u64 ((timeV (topV ts) r boost).1.hi), .int .u64 ((timeV (topV ts) r boost).1.lo), .int .u64 ((timeV (topV ts) r boost).1.w)])] ?_
        refine od_ ?_
        refine any_fork [4, 7] (by kernel_rfl) (by simp) (each_cons _ rfl ?_ (each_cons _ rfl ?_ (each_nil)))
        ·
         refine qo0 1 [(4, .go (owns 1 0 1))] [42, 47, 48] [(46, .slice q29 n cq29)] ?_
         refine od_ ?_
         refine a1 7 rfl ?_
         refine mo0 1 [] [42, 46, 47] (fun γ407 => [(49, .slice (some ⟨γ407 0, 0, none⟩) 1 1)]) (fun γ407 L => bx (γ407 0) (#[.int .i64 r.id, .int .i64 r.each, .int .u64 ((timeV (topV ts) r boost).1.hi), .int .u64 ((timeV (topV ts) r boost).1.lo), .int .u64 ((timeV (topV ts) r boost).1.w)]) 35 :: L) (fun γ407 => ?_)
         refine od_ ?_
         exact any_weak (hm fun i => [γ407 0].getD i 0) [42, 46, 47, 49] (by kernel_rfl) rfl rfl rfl
        ·
         refine mo0 1 [] [42, 45, 47] (fun γ408 => [(49, .slice (some ⟨γ408 0, 0, none⟩) 1 1)]) (fun γ408 L => bx (γ408 0) (#[.int .i64 r.id, .int .i64 r.each, .int .u64 ((timeV (topV ts) r boost).1.hi), .int .u64 ((timeV (topV ts) r boost).1.lo), .int .u64 ((timeV (topV ts) r boost).1.w)]) 35 :: L) (fun γ408 => ?_)
         refine od_ ?_
         refine a1 4 rfl ?_
         refine qo0 1 [(4, .go (owns 2 0 1))] [42, 47, 49] [(46, .slice q29 n cq29)] ?_
         refine od_ ?_
         exact any_weak (hm fun i => [γ408 0].getD i 0) [42, 46, 47, 49] (by kernel_rfl) rfl rfl rfl
      refine a1 8 rfl ?_
      refine cP (fun v L' => ∃ q_ capq_ Y_, v = .slice q_ (n + 1) capq_ ∧ L' = [bx (γ272 0) (#[.int .u64 ((timeV (topV ts) r boost).1.hi), .int .u64 ((timeV (topV ts) r boost).1.lo), .int .u64 ((timeV (topV ts) r boost).1.w)]) 33, bx (γ30 0) (#[.slice q29 n cq29]) 24, bx (γ18 1) (#[.slice none 0 0]) 24, bx (γ18 0) (#[.slice p n cap]) 24, bx (γ16 3) (#[.slice none 0 0]) 24, bx (γ16 2) (#[.func (.func 60) #[] #[.pointer (some ⟨γ1 1, 0, none⟩), .pointer (some ⟨γ1 2, 0, none⟩)]]) 98, bx (γ16 1) (#[.int .i64 r.id, .int .i64 r.each, .int .u64 ((timeV (topV ts) r boost).1.hi), .int .u64 ((timeV (topV ts) r boost).1.lo), .int .u64 ((timeV (topV ts) r boost).1.w)]) 35, bx (γ16 0) (#[.slice p n cap]) 24, bx (γ1 3) (#[.slice none 0 0]) 24, bx (γ1 2) (#[.int .u64 boost]) 25, bx (γ1 1) (#[.int .i64 r.id, .int .i64 r.each, .int .u64 r.th, .int .u64 r.tl, .int .u64 r.tw]) 35, bx (γ1 0) (#[.slice p n cap]) 24] ++ (Y_ ++ []) ∧ SlO 35 Y_ q_ (n + 1) capq_ (ts.take (posK Rn.id ts r.id) ++ [(⟨r.id, r.each, (timeV (topV ts) r boost).1.hi, (timeV (topV ts) r boost).1.lo, (timeV (topV ts) r boost).1.w⟩ : Rn)] ++ ts.drop (posK Rn.id ts r.id))) Try.call80 (fun w hw => (qinsert_t _ ([bx (γ272 0) (#[.int .u64 ((timeV (topV ts) r boost).1.hi), .int .u64 ((timeV (topV ts) r boost).1.lo), .int .u64 ((timeV (topV ts) r boost).1.w)]) 33, bx (γ30 0) (#[.slice q29 n cq29]) 24, bx (γ18 1) (#[.slice none 0 0]) 24, bx (γ18 0) (#[.slice p n cap]) 24, bx (γ16 3) (#[.slice none 0 0]) 24, bx (γ16 2) (#[.func (.func 60) #[] #[.pointer (some ⟨γ1 1, 0, none⟩), .pointer (some ⟨γ1 2, 0, none⟩)]]) 98, bx (γ16 1) (#[.int .i64 r.id, .int .i64 r.each, .int .u64 ((timeV (topV ts) r boost).1.hi), .int .u64 ((timeV (topV ts) r boost).1.lo), .int .u64 ((timeV (topV ts) r boost).1.w)]) 35, bx (γ16 0) (#[.slice p n cap]) 24, bx (γ1 3) (#[.slice none 0 0]) 24, bx (γ1 2) (#[.int .u64 boost]) 25, bx (γ1 1) (#[.int .i64 r.id, .int .i64 r.each, .int .u64 r.th, .int .u64 r.tl, .int .u64 r.tw]) 35, bx (γ1 0) (#[.slice p n cap]) 24] ++ []) Y29 q29 n cq29 ts (posK Rn.id ts r.id) (γ401 0) (#[.int .i64 r.id, .int .i64 r.each, .int .u64 ((timeV (topV ts) r boost).1.hi), .int .u64 ((timeV (topV ts) r boost).1.lo), .int .u64 ((timeV (topV ts) r boost).1.w)]) 1 ([(⟨r.id, r.each, (timeV (topV ts) r boost).1.hi, (timeV (topV ts) r boost).1.lo, (timeV (topV ts) r boost).1.w⟩ : Rn)]) w (hw.pull (A := [bx (γ272 0) (#[.int .u64 ((timeV (topV ts) r boost).1.hi), .int .u64 ((timeV (topV ts) r boost).1.lo), .int .u64 ((timeV (topV ts) r boost).1.w)]) 33, bx (γ30 0) (#[.slice q29 n cq29]) 24, bx (γ18 1) (#[.slice none 0 0]) 24, bx (γ18 0) (#[.slice p n cap]) 24, bx (γ16 3) (#[.slice none 0 0]) 24, bx (γ16 2) (#[.func (.func 60) #[] #[.pointer (some ⟨γ1 1, 0, none⟩), .pointer (some ⟨γ1 2, 0, none⟩)]]) 98, bx (γ16 1) (#[.int .i64 r.id, .int .i64 r.each, .int .u64 ((timeV (topV ts) r boost).1.hi), .int .u64 ((timeV (topV ts) r boost).1.lo), .int .u64 ((timeV (topV ts) r boost).1.w)]) 35, bx (γ16 0) (#[.slice p n cap]) 24, bx (γ1 3) (#[.slice none 0 0]) 24, bx (γ1 2) (#[.int .u64 boost]) 25, bx (γ1 1) (#[.int .i64 r.id, .int .i64 r.each, .int .u64 r.th, .int .u64 r.tl, .int .u64 r.tw]) 35, bx (γ1 0) (#[.slice p n cap]) 24]) (Y := Y29) (R := [])) hO29 (by rfl) (by rfl) (by omega) (by omega) (by omega) (by omega)).mono fun e w' ⟨q_, capq_, Y_, he, hO, hY⟩ => ⟨_, _, he, ⟨q_, capq_, Y_, rfl, rfl, hO⟩, hY.push⟩) ?_
      rintro v410 L410 ⟨q410, cq410, Y410, rfl, rfl, hO410⟩
      refine od_ ?_
      refine tk (m := 1) [9, 10] [] [50] [(52, .pointer (some ⟨γ30 0, 0, none⟩))] ([]) #[true, true, true, true, true, true, true, true, true, true, true, false] al0 ?_
      refine a1 11 rfl ?_
      refine mo0 1 [(11, .go (owns 1 0 1))] [] (fun _ => []) (fun _ L => (L.set 1 (bx (γ30 0) (#[.slice q410 (n + 1) cq410]) 24))) (fun _ => ?_)
      refine od_ ?_
      refine any_nil (by kernel_rfl) ?_
      refine ds_ (sq_ (qa0 [] [] [(4, .int .i64 0)] (ds_ (bk ([]) (.int .i64 0) (qo0 1 [] [4, 7] [(8, .int .i64 0)] (on_ (ds_ (sq_ (qa0 [] [4, 7, 8] [(22, .bool false)] (ds_ (f_ (at_skip (ds_ (sq_ (ma0 [(0, .go (owns 1 0 1)), (1, .go (owns 2 0 1))] [4] (fun _ => [(5, .int .i64 0)]) (fun _ L => (L.set 2 (bx (γ18 1) (#[.slice q410 (n + 1) cq410]) 24))) (fun _ => ds_ (bk (owns 2 0 1) (.tuple #[.agg #[.slice q410 (n + 1) cq410], .int .i64 0]) (mo0 4 [(5, .go (owns 4 0 1))] [6] (fun _ => [(7, .int .i64 0)]) (fun _ L => (L.set 4 (bx (γ16 3) (#[.slice q410 (n + 1) cq410]) 24))) (fun _ => on_ (ds_ (bk (owns 4 0 1) (.tuple #[.agg #[.slice q410 (n + 1) cq410], .int .i64 0]) (mo0 4 [(6, .go (owns 8 0 1))] [6] (fun _ => [(7, .int .i64 0)]) (fun _ L => (L.set 8 (bx (γ1 3) (#[.slice q410 (n + 1) cq410]) 24))) (fun _ => on_ (ds_ (rt (owns 8 0 1) (.tuple #[.agg #[.slice q410 (n + 1) cq410], .int .i64 0]) ?_)))))))))))))))))))))))))
      exact fun w' hw => by rw [join_ok (by omega) q20 q34 hg46 (by omega)]; exact ⟨_, _, _, _, rfl, hO410, hw.below, one_tail (Hs.pick [[bx (γ272 0) (#[.int .u64 ((timeV (topV ts) r boost).1.hi), .int .u64 ((timeV (topV ts) r boost).1.lo), .int .u64 ((timeV (topV ts) r boost).1.w)]) 33], [bx (γ30 0) (#[.slice q410 (n + 1) cq410]) 24], [bx (γ18 1) (#[.slice q410 (n + 1) cq410]) 24], [bx (γ18 0) (#[.slice p n cap]) 24], [bx (γ16 3) (#[.slice q410 (n + 1) cq410]) 24], [bx (γ16 2) (#[.func (.func 60) #[] #[.pointer (some ⟨γ1 1, 0, none⟩), .pointer (some ⟨γ1 2, 0, none⟩)]]) 98], [bx (γ16 1) (#[.int .i64 r.id, .int .i64 r.each, .int .u64 ((timeV (topV ts) r boost).1.hi), .int .u64 ((timeV (topV ts) r boost).1.lo), .int .u64 ((timeV (topV ts) r boost).1.w)]) 35], [bx (γ16 0) (#[.slice p n cap]) 24], [bx (γ1 3) (#[.slice q410 (n + 1) cq410]) 24], [bx (γ1 2) (#[.int .u64 boost]) 25], [bx (γ1 1) (#[.int .i64 r.id, .int .i64 r.each, .int .u64 r.th, .int .u64 r.tl, .int .u64 r.tw]) 35], [bx (γ1 0) (#[.slice p n cap]) 24], Y410] [12] [0, 1, 2, 3, 4, 5, 6, 7, 8, 9, 10, 11] (by kernel_rfl) hw)⟩
    ·
     have hp_y46 := pos_getK hgq.rs hg46
     have hl_y46 := (List.getElem?_eq_some_iff.1 hp_y46).1
     refine cK (.tuple #[.int .i64 (posK Rn.id ts r.id : Nat), .bool true]) Try.call34 (fun w hw => by have := at_t q29 n cq29 ts r.id w (hO29.atN (A := [_, _, _, _, _, _, _, _, _, _, _]) hw) hO29.len (by omega) hgq hidr; rw [hasK_some hg46] at this; exact this) ?_
     refine cm 5 [] [0, 1, 2] [(6, .int .i64 (posK Rn.id ts r.id : Nat)), (7, .bool true)] ([]) (by kernel_rfl) rfl al0 ?_
     refine calm_nil' ?_
     refine ds_ (sq_ (sq_ (qa0 [] [0, 1, 2, 6] [(25, .bool true)] (ds_ (t_ (sq_ (qa0 [] [] [(4, .int .i64 5)] (ds_ (bk ([]) (.int .i64 5) (qo0 1 [] [4, 7] [(8, .int .i64 5)] (on_ (ds_ (sq_ (qa0 [] [4, 7, 8] [(22, .bool true)] (ds_ (t_ (sq_ (qa0 [(2, .go (owns 1 0 1))] [4] [(5, .int .i64 5)] (ds_ (bk (owns 1 0 1) (.tuple #[.agg #[.slice none 0 0], .int .i64 5]) (qo0 4 [(5, .go (owns 3 0 1))] [6] [(7, .int .i64 5)] (on_ (ds_ (bk (owns 3 0 1) (.tuple #[.agg #[.slice none 0 0], .int .i64 5]) (qo0 4 [(6, .go (owns 7 0 1))] [6] [(7, .int .i64 5)] (on_ (ds_ (rt (owns 7 0 1) (.tuple #[.agg #[.slice none 0 0], .int .i64 5]) ?_))))))))))))))))))))))))))))
     exact fun w' hw => by rw [join_there (by omega) q20 q34 hg46]; exact ⟨none, 0, 0, [], rfl, SlO.nil, hw.below, hw.sub (List.nil_sublist _)⟩
end Go.Proofs.Ytnhkecfapohlgaa

/-! Queues: Run. -/
namespace Go.Proofs.Ytnhkecfapohlgaa
open Go Go.RowKit

set_option maxRecDepth 100000 in
theorem run_t (p : Option Addr) (n cap : Nat) (ts : List Rn) (pi : Option Addr) (m capi : Nat) (il : List Int) (dt : Int) (w : World)
 (hts : Sv w p ts) (hn : n = ts.length) (hb : n ≤ 1000)
 (hU : ∀ r ∈ ts, r.U)
 (hil : Sv w pi il) (hmi : m = il.length) (hbi : m ≤ 1000)
 : Calls Try.prog 16 #[.agg #[.slice p n cap], .slice pi m capi, .int .i64 dt] w fun e w' => ∃ q' n' c' Y, e = .returned (.tuple #[.agg #[.slice q' n' c'], .int .i64 (runV ts il dt).2]) ∧ SlO 35 Y q' n' c' (runV ts il dt).1 ∧ Below w.heap.size w w' ∧ Hs w Y w' := by
 refine enter (Hs.start w) Try.func16 rfl Try.ntmps16 rfl (sq_ (ma0 [] [1] (fun γ1 => [(3, .pointer (some ⟨γ1 0, 0, none⟩)), (5, .pointer (some ⟨γ1 1, 0, none⟩)), (6, .pointer (some ⟨γ1 2, 0, none⟩))]) (fun γ1 L => bx (γ1 2) (#[.slice none 0 0]) 24 :: bx (γ1 1) (#[.int .i64 dt]) 2 :: bx (γ1 0) (#[.slice p n cap]) 24 :: L) (fun γ1 => ds_ (sq_ ?_))))
 by_cases q3 : (dt : Int) ≥ (0 : Int)
 ·
  by_cases q5 : (dt : Int) ≤ (10000000 : Int)
  ·
   refine ao_ (qo 9 [(0, .go (owns 2 0 1)), (1, .go (owns 1 0 1)), (2, .yes), (4, .go (owns 1 0 1)), (5, .yes)] [6] [(8, .agg #[.slice p n cap]), (14, .bool true), (15, .slice pi m capi), (16, .func (.func 45) #[] #[.pointer (some ⟨γ1 1, 0, none⟩)])] ([(dt : Int) ≥ (0 : Int)] ++ ([(dt : Int) ≤ (10000000 : Int)])) (alA (al1 q3) (al1 q5)) (ops_inline (g := 36) (args := #[.agg #[.slice p n cap], .bool true, .slice pi m capi, .func (.func 45) #[] #[.pointer (some ⟨γ1 1, 0, none⟩)]]) (by kernel_rfl) (by kernel_rfl) (by kernel_rfl) (fun args w => Try.call36 args w) Try.func36 rfl Try.ntmps36 rfl (sq_ (ma0 [] [] (fun γ7 => [(4, .pointer (some ⟨γ7 0, 0, none⟩)), (5, .pointer (some ⟨γ7 1, 0, none⟩)), (6, .pointer (some ⟨γ7 2, 0, none⟩)), (7, .pointer (some ⟨γ7 3, 0, none⟩)), (8, .pointer (some ⟨γ7 4, 0, none⟩))]) (fun γ7 L => bx (γ7 4) (#[.slice none 0 0]) 24 :: bx (γ7 3) (#[.func (.func 45) #[] #[.pointer (some ⟨γ1 1, 0, none⟩)]]) 77 :: bx (γ7 2) (#[.slice pi m capi]) 41 :: bx (γ7 1) (#[.bool true]) 4 :: bx (γ7 0) (#[.slice p n cap]) 24 :: L) (fun γ7 => ds_ (sq_ (ao_ (qo0 2 [(0, .go (owns 4 0 1))] [8] [(10, .agg #[.slice p n cap]), (11, .func (.func 68) #[] #[.pointer (some ⟨γ7 1, 0, none⟩), .pointer (some ⟨γ7 2, 0, none⟩), .pointer (some ⟨γ7 3, 0, none⟩)])] (ops_inline (g := 56) (args := #[.agg #[.slice p n cap], .func (.func 68) #[] #[.pointer (some ⟨γ7 1, 0, none⟩), .pointer (some ⟨γ7 2, 0, none⟩), .pointer (some ⟨γ7 3, 0, none⟩)]]) (by kernel_rfl) (by kernel_rfl) (by kernel_rfl) (fun args w => Try.call56 args w) Try.func56 rfl Try.ntmps56 rfl (sq_ (ma0 [] [1] (fun γ9 => [(2, .pointer (some ⟨γ9 0, 0, none⟩)), (4, .pointer (some ⟨γ9 1, 0, none⟩))]) (fun γ9 L => bx (γ9 1) (#[.slice none 0 0]) 24 :: bx (γ9 0) (#[.slice p n cap]) 24 :: L) (fun γ9 => ds_ (sq_ (sq_ (ao_ (qo0 1 [(0, .go (owns 1 0 1))] [1, 2, 4] [(9, .agg #[.slice p n cap])] ?_))))))))))))))))
   rcases q11 : chkQ ts with _ | _
   ·
    refine cD (.int .i64 200) Try.call20 (fun w hw => by have := qcheck_t p n cap ts w (hts.kept hw.below) hn (by omega); rw [q11] at this; exact this) (qo0 1 [] [1, 2, 4] [(6, .int .i64 200)] (on_ (ds_ (sq_ (qa0 [] [1, 2, 4, 6] [(12, .bool true)] (ds_ (t_ (sq_ (qa0 [(2, .go (owns 0 0 1))] [4] [(5, .int .i64 200)] (ds_ (bk (owns 0 0 1) (.tuple #[.agg #[.slice none 0 0], .int .i64 200]) (qo0 4 [(5, .go (owns 2 0 1))] [8] [(9, .int .i64 200)] (on_ (ds_ (bk (owns 2 0 1) (.tuple #[.agg #[.slice none 0 0], .int .i64 200]) (qo0 4 [(12, .go (owns 7 0 1))] [6] [(7, .int .i64 200)] (on_ (ds_ (rt (owns 7 0 1) (.tuple #[.agg #[.slice none 0 0], .int .i64 200]) ?_)))))))))))))))))))
    exact fun w' hw => by rw [show runV ts il dt = alterV (runF dt) ts (runB dt) il from rfl, alter_bad q11]; exact ⟨none, 0, 0, [], rfl, SlO.nil, hw.below, hw.sub (List.nil_sublist _)⟩
   ·
    refine cD (.int .i64 0) Try.call20 (fun w hw => by have := qcheck_t p n cap ts w (hts.kept hw.below) hn (by omega); rw [q11] at this; exact this) (qo0 1 [] [1, 2, 4] [(6, .int .i64 0)] (on_ (ds_ (sq_ (qa0 [] [1, 2, 4, 6] [(12, .bool false)] (ds_ (f_ (at_skip (ds_ (sq_ ?_))))))))))
    have hgq := chk_iff.1 q11
    have hlq := hgq.len
    refine ao_ (qo0 2 [(1, .go (owns 1 0 1))] [1, 4] [(16, .slice p n cap)] (cP (fun v L' => ∃ q_ c_ Y_, v = .slice q_ n c_ ∧ L' = List.take 10 ([bx (γ9 1) (#[.slice none 0 0]) 24, bx (γ9 0) (#[.slice p n cap]) 24, bx (γ7 4) (#[.slice none 0 0]) 24, bx (γ7 3) (#[.func (.func 45) #[] #[.pointer (some ⟨γ1 1, 0, none⟩)]]) 77, bx (γ7 2) (#[.slice pi m capi]) 41, bx (γ7 1) (#[.bool true]) 4, bx (γ7 0) (#[.slice p n cap]) 24, bx (γ1 2) (#[.slice none 0 0]) 24, bx (γ1 1) (#[.int .i64 dt]) 2, bx (γ1 0) (#[.slice p n cap]) 24]) ++ (Y_ ++ List.drop 10 ([bx (γ9 1) (#[.slice none 0 0]) 24, bx (γ9 0) (#[.slice p n cap]) 24, bx (γ7 4) (#[.slice none 0 0]) 24, bx (γ7 3) (#[.func (.func 45) #[] #[.pointer (some ⟨γ1 1, 0, none⟩)]]) 77, bx (γ7 2) (#[.slice pi m capi]) 41, bx (γ7 1) (#[.bool true]) 4, bx (γ7 0) (#[.slice p n cap]) 24, bx (γ1 2) (#[.slice none 0 0]) 24, bx (γ1 1) (#[.int .i64 dt]) 2, bx (γ1 0) (#[.slice p n cap]) 24])) ∧ SlO 35 Y_ q_ n c_ ts) Try.call78 (fun w hw => (qclone_t p n cap ts w (hts.kept hw.below) hn (by omega)).mono fun e w' ⟨q_, c_, Y_, he, hO, hb, hY⟩ => ⟨_, _, he, ⟨q_, c_, Y_, rfl, rfl, hO⟩, hw.join hb hY 10⟩) ?_))
    rintro v20 L20 ⟨q20, cq20, Y20, rfl, rfl, hO20⟩
    refine mo0 3 [(5, .go (owns 0 0 1))] [1, 4] (fun γ21 => [(7, .pointer (some ⟨γ21 0, 0, none⟩))]) (fun γ21 L => bx (γ21 0) (#[.slice q20 n cq20]) 24 :: L) (fun γ21 => on_ (ds_ (sq_ (sq_ (ao_ (qo0 1 [] [4, 7] [(19, .func (.func 68) #[] #[.pointer (some ⟨γ7 1, 0, none⟩), .pointer (some ⟨γ7 2, 0, none⟩), .pointer (some ⟨γ7 3, 0, none⟩)])] (ops_inline (g := 68) (args := #[.pointer (some ⟨γ21 0, 0, none⟩), .pointer (some ⟨γ7 1, 0, none⟩), .pointer (some ⟨γ7 2, 0, none⟩), .pointer (some ⟨γ7 3, 0, none⟩)]) (by kernel_rfl) (by kernel_rfl) (by kernel_rfl) (fun args w => Try.call68 args w) Try.func68 rfl Try.ntmps68 rfl (sq_ (qa0 [] [0, 1, 2, 3] [] (ds_ (sq_ (sq_ (qa0 [(0, .go (owns 6 0 1))] [0, 2, 3] [(11, .bool false)] (ds_ (f_ (at_skip (ds_ (sq_ (ao_ (qo0 2 [(1, .go (owns 5 0 1))] [0, 3] [(13, .pointer (some ⟨γ21 0, 0, none⟩)), (14, .slice pi m capi)] (ops_inline (g := 69) (args := #[.pointer (some ⟨γ21 0, 0, none⟩), .slice pi m capi]) (by kernel_rfl) (by kernel_rfl) (by kernel_rfl) (fun args w => Try.call69 args w) Try.func69 rfl Try.ntmps69 rfl (sq_ (qa0 [] [0, 1] [] (ds_ (sq_ (qa0 [] [0, 1] [(6, .slice none 0 0)] (ds_ (sq_ (qa0 [] [0, 1, 6] [(7, .int .i64 0), (8, .int .i64 0)] (ds_ (sq_ (sq_ (qa0 [] [0, 6, 7, 8] [(13, .slice pi m capi), (14, .int .i64 (m : Nat)), (15, .int .i64 0)] (ds_ (at_block (at_loop (α := Nat × Int × Int × List Ob × Option Addr × Nat × Nat) [0, 6, 7, 8, 13, 14, 15] (fun ⟨j, la, er, Yo, po, nu, co⟩ => [(0, .pointer (some ⟨γ21 0, 0, none⟩)), (6, .slice po nu co), (7, .int .i64 la), (8, .int .i64 er), (13, .slice pi m capi), (14, .int .i64 (m : Nat)), (15, .int .i64 (j : Nat))]) (fun ⟨j, la, er, Yo, po, nu, co⟩ => bx (γ21 0) (#[.slice q20 n cq20]) 24 :: bx (γ9 1) (#[.slice none 0 0]) 24 :: bx (γ9 0) (#[.slice p n cap]) 24 :: bx (γ7 4) (#[.slice none 0 0]) 24 :: bx (γ7 3) (#[.func (.func 45) #[] #[.pointer (some ⟨γ1 1, 0, none⟩)]]) 77 :: bx (γ7 2) (#[.slice pi m capi]) 41 :: bx (γ7 1) (#[.bool true]) 4 :: bx (γ7 0) (#[.slice p n cap]) 24 :: bx (γ1 2) (#[.slice none 0 0]) 24 :: bx (γ1 1) (#[.int .i64 dt]) 2 :: bx (γ1 0) (#[.slice p n cap]) 24 :: (Yo ++ (Y20 ++ []))) (fun ⟨j, la, er, Yo, po, nu, co⟩ => j ≤ m ∧ lastN il j = la ∧ Ris (fun x : Int => x) (il.take j) ∧ (∀ y ∈ il.take j, idV y = true) ∧ foundE ts (il.take j) = er ∧ nu ≤ j ∧ SlO 3 Yo po nu co ((il.take j).map (posI ts))) (fun ⟨j, la, er, Yo, po, nu, co⟩ => m - j) (0, 0, 0, [], none, 0, 0) (by kernel_rfl) rfl ⟨Nat.zero_le _, rfl, ris_take0T, all_take0T, found_zero, Nat.le_refl _, SlO.nil⟩ ?_))))))))))))))))))))))))))))))))))))
    rintro ⟨j, la, er, Yo, po, nu, co⟩
    rintro ⟨hj, hla, hR, hA, her, hnu, hOo⟩
    refine sq_ ?_
    by_cases q31 : ((j : Nat) : Int) < ((m : Nat) : Int)
    ·
     refine qa [(0, .yes)] [0, 6, 7, 8, 13, 14, 15] [(16, .bool true)] ([((j : Nat) : Int) < ((m : Nat) : Int)]) (al1 q31) (ds_ (sq_ (t_ (at_skip (ds_ (sq_ (at_block (sq_ ?_))))))))
     obtain ⟨b34, o34, rfl⟩ := hil.pos (i := j) (by omega)
     obtain ⟨x36, hx36⟩ := get_some (l := il) (m := j) (by omega)
     refine qa [(0, .at b34 o34 j), (1, .go (outs b34 (o34 + j * 1) [.int .i64 x36]))] [0, 6, 7, 8, 13, 14, 15] [(10, .int .i64 x36)] ([(some ⟨b34, o34, none⟩ : Option Addr) = some ⟨b34, o34, none⟩, (j : Nat) = ((j : Nat) : Int), j < m] ++ (cellsP w b34 (o34 + j * 1) [.int .i64 x36])) (alA (al2 rfl (al2 rfl (al1 (by omega)))) (rd_pre (hil.get hx36) _ rfl)) (ds_ (sq_ (sq_ (ao_ (qo0 1 [] [0, 6, 7, 8, 10, 13, 14, 15] [(19, .int .i64 x36)] ?_)))))
     rcases q39 : idV x36 with _ | _
     ·
      refine cD (.bool false) Try.call52 (fun w hw => by have := id_t x36 w; rw [q39] at this; exact this) (qo0 6 [] [0, 6, 8, 10, 13, 14, 15] [(26, .bool true)] (on_ (ds_ (t_ (sq_ (qa0 [] [] [(4, .slice none 0 0), (5, .int .i64 2)] (ds_ (bk ([]) (.tuple #[.slice none 0 0, .int .i64 2]) ?_))))))))
      have hpe : placesE ts il = 2 := places_bad (risI_badI hx36 q39)
      refine qo0 5 [] [0, 3] [(6, .slice none 0 0), (7, .int .i64 2)] (on_ (ds_ (sq_ (sq_ (qa0 [] [0, 3, 7] [(18, .slice none 0 0), (19, .int .i64 0), (20, .int .i64 0)] (ds_ (at_block (at_loop (α := Nat × Int × List Ob × List Rn) [0, 3, 7, 18, 19, 20] (fun ⟨i, ez, Yq, L⟩ => [(0, .pointer (some ⟨γ21 0, 0, none⟩)), (3, .pointer (some ⟨γ7 3, 0, none⟩)), (7, .int .i64 ez), (18, .slice none 0 0), (19, .int .i64 0), (20, .int .i64 (i : Nat))]) (fun ⟨i, ez, Yq, L⟩ => bx (γ21 0) (#[.slice q20 n cq20]) 24 :: bx (γ9 1) (#[.slice none 0 0]) 24 :: bx (γ9 0) (#[.slice p n cap]) 24 :: bx (γ7 4) (#[.slice none 0 0]) 24 :: bx (γ7 3) (#[.func (.func 45) #[] #[.pointer (some ⟨γ1 1, 0, none⟩)]]) 77 :: bx (γ7 2) (#[.slice (some ⟨b34, o34, none⟩) m capi]) 41 :: bx (γ7 1) (#[.bool true]) 4 :: bx (γ7 0) (#[.slice p n cap]) 24 :: bx (γ1 2) (#[.slice none 0 0]) 24 :: bx (γ1 1) (#[.int .i64 dt]) 2 :: bx (γ1 0) (#[.slice p n cap]) 24 :: (Yo ++ (Yq ++ []))) (fun ⟨i, ez, Yq, L⟩ => i ≤ 0 ∧ altX (runF dt) ts (placesE ts il) (il.take i) = ez ∧ (ez = 0 → L = (altL (runF dt) ts (il.take i))) ∧ SlO 35 Yq q20 n cq20 L) (fun ⟨i, ez, Yq, L⟩ => 0 - i) (0, 2, Y20, ts) (by kernel_rfl) rfl ⟨Nat.zero_le _, by rw [altX_start]; exact hpe, fun _ => altL_nil.symm, hO20⟩ ?_))))))))
      rintro ⟨i, ez, Yq, L⟩
      rintro ⟨hi, hX, hL, hOq⟩
      refine sq_ (qa [(0, .no)] [0, 3, 7, 18, 19, 20] [(21, .bool false)] ([¬ (((i : Nat) : Int) < (0 : Int))]) (al1 (by omega)) (ds_ (sq_ (f_ (at_leave _ rfl (ds_ (sq_ ?_)))))))
      have hez : ez = 2 := by rw [← hX]; exact altX_ne (a := il.take 0) (by omega) (by rw [altX_start]; exact hpe)
      have hXf : altX (runF dt) ts (placesE ts il) il = ez := altX_ne (by omega) hX
      refine qa0 [] [] [(5, .int .i64 ez)] (ds_ (bk ([]) (.int .i64 ez) (qo0 1 [] [4, 7] [(8, .int .i64 ez)] (on_ (ds_ (sq_ (qa [(1, .yes)] [4, 7, 8] [(22, .bool true)] ([(ez : Int) ≠ (0 : Int)]) (al1 (by omega)) (ds_ (t_ (sq_ (qa0 [(2, .go (owns 1 0 1))] [4] [(5, .int .i64 ez)] (ds_ (bk (owns 1 0 1) (.tuple #[.agg #[.slice none 0 0], .int .i64 ez]) (qo0 4 [(5, .go (owns 3 0 1))] [8] [(9, .int .i64 ez)] (on_ (ds_ (bk (owns 3 0 1) (.tuple #[.agg #[.slice none 0 0], .int .i64 ez]) (qo0 4 [(12, .go (owns 8 0 1))] [6] [(7, .int .i64 ez)] (on_ (ds_ (rt (owns 8 0 1) (.tuple #[.agg #[.slice none 0 0], .int .i64 ez]) ?_)))))))))))))))))))))
      exact fun w' hw => by rw [show runV ts il dt = alterV (runF dt) ts (runB dt) il from rfl, alter_err q11 (show runB dt = true from decide_eq_true (by omega)) (by rw [hXf]; omega), hXf]; exact ⟨none, 0, 0, [], rfl, SlO.nil, hw.below, hw.sub (List.nil_sublist _)⟩
     ·
      refine cD (.bool true) Try.call52 (fun w hw => by have := id_t x36 w; rw [q39] at this; exact this) ?_
      by_cases q52 : (x36 : Int) ≤ (la : Int)
      ·
       refine qo 6 [(6, .yes)] [0, 6, 8, 10, 13, 14, 15] [(26, .bool true)] ([(x36 : Int) ≤ (la : Int)]) (al1 q52) (on_ (ds_ (t_ (sq_ (qa0 [] [] [(4, .slice none 0 0), (5, .int .i64 2)] (ds_ (bk ([]) (.tuple #[.slice none 0 0, .int .i64 2]) ?_)))))))
       have hpe : placesE ts il = 2 := places_bad (risI_badL hx36 hla q39 (by omega))
       refine qo0 5 [] [0, 3] [(6, .slice none 0 0), (7, .int .i64 2)] (on_ (ds_ (sq_ (sq_ (qa0 [] [0, 3, 7] [(18, .slice none 0 0), (19, .int .i64 0), (20, .int .i64 0)] (ds_ (at_block (at_loop (α := Nat × Int × List Ob × List Rn) [0, 3, 7, 18, 19, 20] (fun ⟨i, ez, Yq, L⟩ => [(0, .pointer (some ⟨γ21 0, 0, none⟩)), (3, .pointer (some ⟨γ7 3, 0, none⟩)), (7, .int .i64 ez), (18, .slice none 0 0), (19, .int .i64 0), (20, .int .i64 (i : Nat))]) (fun ⟨i, ez, Yq, L⟩ => bx (γ21 0) (#[.slice q20 n cq20]) 24 :: bx (γ9 1) (#[.slice none 0 0]) 24 :: bx (γ9 0) (#[.slice p n cap]) 24 :: bx (γ7 4) (#[.slice none 0 0]) 24 :: bx (γ7 3) (#[.func (.func 45) #[] #[.pointer (some ⟨γ1 1, 0, none⟩)]]) 77 :: bx (γ7 2) (#[.slice (some ⟨b34, o34, none⟩) m capi]) 41 :: bx (γ7 1) (#[.bool true]) 4 :: bx (γ7 0) (#[.slice p n cap]) 24 :: bx (γ1 2) (#[.slice none 0 0]) 24 :: bx (γ1 1) (#[.int .i64 dt]) 2 :: bx (γ1 0) (#[.slice p n cap]) 24 :: (Yo ++ (Yq ++ []))) (fun ⟨i, ez, Yq, L⟩ => i ≤ 0 ∧ altX (runF dt) ts (placesE ts il) (il.take i) = ez ∧ (ez = 0 → L = (altL (runF dt) ts (il.take i))) ∧ SlO 35 Yq q20 n cq20 L) (fun ⟨i, ez, Yq, L⟩ => 0 - i) (0, 2, Y20, ts) (by kernel_rfl) rfl ⟨Nat.zero_le _, by rw [altX_start]; exact hpe, fun _ => altL_nil.symm, hO20⟩ ?_))))))))
       rintro ⟨i, ez, Yq, L⟩
       rintro ⟨hi, hX, hL, hOq⟩
       refine sq_ (qa [(0, .no)] [0, 3, 7, 18, 19, 20] [(21, .bool false)] ([¬ (((i : Nat) : Int) < (0 : Int))]) (al1 (by omega)) (ds_ (sq_ (f_ (at_leave _ rfl (ds_ (sq_ ?_)))))))
       have hez : ez = 2 := by rw [← hX]; exact altX_ne (a := il.take 0) (by omega) (by rw [altX_start]; exact hpe)
       have hXf : altX (runF dt) ts (placesE ts il) il = ez := altX_ne (by omega) hX
       refine qa0 [] [] [(5, .int .i64 ez)] (ds_ (bk ([]) (.int .i64 ez) (qo0 1 [] [4, 7] [(8, .int .i64 ez)] (on_ (ds_ (sq_ (qa [(1, .yes)] [4, 7, 8] [(22, .bool true)] ([(ez : Int) ≠ (0 : Int)]) (al1 (by omega)) (ds_ (t_ (sq_ (qa0 [(2, .go (owns 1 0 1))] [4] [(5, .int .i64 ez)] (ds_ (bk (owns 1 0 1) (.tuple #[.agg #[.slice none 0 0], .int .i64 ez]) (qo0 4 [(5, .go (owns 3 0 1))] [8] [(9, .int .i64 ez)] (on_ (ds_ (bk (owns 3 0 1) (.tuple #[.agg #[.slice none 0 0], .int .i64 ez]) (qo0 4 [(12, .go (owns 8 0 1))] [6] [(7, .int .i64 ez)] (on_ (ds_ (rt (owns 8 0 1) (.tuple #[.agg #[.slice none 0 0], .int .i64 ez]) ?_)))))))))))))))))))))
       exact fun w' hw => by rw [show runV ts il dt = alterV (runF dt) ts (runB dt) il from rfl, alter_err q11 (show runB dt = true from decide_eq_true (by omega)) (by rw [hXf]; omega), hXf]; exact ⟨none, 0, 0, [], rfl, SlO.nil, hw.below, hw.sub (List.nil_sublist _)⟩
      ·
       refine qo 6 [(6, .no)] [0, 6, 8, 10, 13, 14, 15] [(26, .bool false)] ([¬ ((x36 : Int) ≤ (la : Int))]) (al1 q52) (on_ (ds_ (f_ (at_skip (ds_ (sq_ (qa0 [] [0, 6, 8, 10, 13, 14, 15] [(7, .int .i64 x36)] (ds_ (sq_ (ao_ (qo0 5 [(3, .go (owns 0 0 1))] [0, 6, 7, 8, 13, 14, 15] [(32, .slice q20 n cq20), (33, .int .i64 x36)] ?_)))))))))))
       rcases hg67 : getK Rn.id ts x36 with _ | y67
       ·
        have hpl67 := (pos_cut (k := x36) hgq.rs).2.2
        refine cD (.tuple #[.int .i64 (posK Rn.id ts x36 : Nat), .bool false]) Try.call34 (fun w hw => by have := at_t q20 n cq20 ts x36 w (hO20.atN (A := (_ :: _ :: _ :: _ :: _ :: _ :: _ :: _ :: _ :: _ :: _ :: Yo)) hw) hO20.len (by omega) hgq q39; rw [hasK_none hg67] at this; exact this) (qo0 5 [] [0, 6, 7, 8, 13, 14, 15] [(11, .int .i64 (posK Rn.id ts x36 : Nat)), (12, .bool false)] (on_ (ds_ (sq_ (sq_ (qa0 [] [0, 6, 7, 8, 11, 13, 14, 15] [(38, .bool true)] (ds_ (t_ (qa0 [] [0, 6, 7, 11, 13, 14, 15] [(8, .int .i64 4)] (ds_ (ao_ (mo0 3 [] [0, 7, 8, 13, 14, 15] (fun γ71 => [(39, .slice po nu co), (41, .slice (some ⟨γ71 0, 0, none⟩) 1 1)]) (fun γ71 L => bx (γ71 0) (#[.int .i64 (posK Rn.id ts x36 : Nat)]) 3 :: L) (fun γ71 => ops_append (α := Int) [bx (γ71 0) (#[.int .i64 (posK Rn.id ts x36 : Nat)]) 3, bx (γ21 0) (#[.slice q20 n cq20]) 24, bx (γ9 1) (#[.slice none 0 0]) 24, bx (γ9 0) (#[.slice p n cap]) 24, bx (γ7 4) (#[.slice none 0 0]) 24, bx (γ7 3) (#[.func (.func 45) #[] #[.pointer (some ⟨γ1 1, 0, none⟩)]]) 77, bx (γ7 2) (#[.slice (some ⟨b34, o34, none⟩) m capi]) 41, bx (γ7 1) (#[.bool true]) 4, bx (γ7 0) (#[.slice p n cap]) 24, bx (γ1 2) (#[.slice none 0 0]) 24, bx (γ1 1) (#[.int .i64 dt]) 2, bx (γ1 0) (#[.slice p n cap]) 24] Yo (Y20 ++ []) (.refl _) rfl (by kernel_rfl) (by kernel_rfl) (p := po) (n := nu) (cap := co) (m := 1) (yv := .slice (some ⟨γ71 0, 0, none⟩) 1 1) (by kernel_rfl) (by kernel_rfl) (T := 3) (by_ := 8) (by kernel_rfl) ((il.take j).map (posI ts)) ([(posK Rn.id ts x36 : Nat)]) hOo (fun w hw => src_svn Try.underlying41 (sv_row (hw.row 0 rfl) (by rfl)) (by rfl)) (by rfl) (by have hmx : maxLen = 9223372036854775807 := rfl; omega) (by have hmx : maxLen = 9223372036854775807 := rfl; omega) (fun Y72 p72 cap72 hO72 => qo0 1 [] [0, 7, 8, 13, 14, 15] [(6, .slice p72 (nu + 1) cap72)] (on_ (done_block (ds_ (qa [(0, .fit)] [0, 6, 7, 8, 13, 14] [(15, .int .i64 (j + 1 : Nat))] ([Fit .i64 ((j + 1 : Nat))]) (al1 (fit64 (by omega) (by omega))) (Done.pick [[bx (γ71 0) (#[.int .i64 (posK Rn.id ts x36 : Nat)]) 3], [bx (γ21 0) (#[.slice q20 n cq20]) 24], [bx (γ9 1) (#[.slice none 0 0]) 24], [bx (γ9 0) (#[.slice p n cap]) 24], [bx (γ7 4) (#[.slice none 0 0]) 24], [bx (γ7 3) (#[.func (.func 45) #[] #[.pointer (some ⟨γ1 1, 0, none⟩)]]) 77], [bx (γ7 2) (#[.slice (some ⟨b34, o34, none⟩) m capi]) 41], [bx (γ7 1) (#[.bool true]) 4], [bx (γ7 0) (#[.slice p n cap]) 24], [bx (γ1 2) (#[.slice none 0 0]) 24], [bx (γ1 1) (#[.int .i64 dt]) 2], [bx (γ1 0) (#[.slice p n cap]) 24], Y72, Y20] [1, 2, 3, 4, 5, 6, 7, 8, 9, 10, 11, 12, 13] [0] (bx (γ21 0) (#[.slice q20 n cq20]) 24 :: bx (γ9 1) (#[.slice none 0 0]) 24 :: bx (γ9 0) (#[.slice p n cap]) 24 :: bx (γ7 4) (#[.slice none 0 0]) 24 :: bx (γ7 3) (#[.func (.func 45) #[] #[.pointer (some ⟨γ1 1, 0, none⟩)]]) 77 :: bx (γ7 2) (#[.slice (some ⟨b34, o34, none⟩) m capi]) 41 :: bx (γ7 1) (#[.bool true]) 4 :: bx (γ7 0) (#[.slice p n cap]) 24 :: bx (γ1 2) (#[.slice none 0 0]) 24 :: bx (γ1 1) (#[.int .i64 dt]) 2 :: bx (γ1 0) (#[.slice p n cap]) 24 :: (Y72 ++ (Y20 ++ []))) (by kernel_rfl) rfl rfl ?_)))))))))))))))))))
        exact dr [0, 6, 7, 8, 13, 14, 15] (j + 1, x36, 4, Y72, p72, (nu + 1), cap72) ⟨by omega, lastN_on hx36, risN_on hR hx36 hla (by omega), all_onT hA hx36 q39, by rw [found_no hx36 hg67], by omega, by rw [map_on hx36]; exact hO72⟩
       ·
        have hp_y67 := pos_getK hgq.rs hg67
        have hl_y67 := (List.getElem?_eq_some_iff.1 hp_y67).1
        refine cD (.tuple #[.int .i64 (posK Rn.id ts x36 : Nat), .bool true]) Try.call34 (fun w hw => by have := at_t q20 n cq20 ts x36 w (hO20.atN (A := (_ :: _ :: _ :: _ :: _ :: _ :: _ :: _ :: _ :: _ :: _ :: Yo)) hw) hO20.len (by omega) hgq q39; rw [hasK_some hg67] at this; exact this) (qo0 5 [] [0, 6, 7, 8, 13, 14, 15] [(11, .int .i64 (posK Rn.id ts x36 : Nat)), (12, .bool true)] (on_ (ds_ (sq_ (sq_ (qa0 [] [0, 6, 7, 8, 11, 13, 14, 15] [(38, .bool false)] (ds_ (f_ (at_skip (ds_ (ao_ (mo0 3 [] [0, 7, 8, 13, 14, 15] (fun γ77 => [(39, .slice po nu co), (41, .slice (some ⟨γ77 0, 0, none⟩) 1 1)]) (fun γ77 L => bx (γ77 0) (#[.int .i64 (posK Rn.id ts x36 : Nat)]) 3 :: L) (fun γ77 => ops_append (α := Int) [bx (γ77 0) (#[.int .i64 (posK Rn.id ts x36 : Nat)]) 3, bx (γ21 0) (#[.slice q20 n cq20]) 24, bx (γ9 1) (#[.slice none 0 0]) 24, bx (γ9 0) (#[.slice p n cap]) 24, bx (γ7 4) (#[.slice none 0 0]) 24, bx (γ7 3) (#[.func (.func 45) #[] #[.pointer (some ⟨γ1 1, 0, none⟩)]]) 77, bx (γ7 2) (#[.slice (some ⟨b34, o34, none⟩) m capi]) 41, bx (γ7 1) (#[.bool true]) 4, bx (γ7 0) (#[.slice p n cap]) 24, bx (γ1 2) (#[.slice none 0 0]) 24, bx (γ1 1) (#[.int .i64 dt]) 2, bx (γ1 0) (#[.slice p n cap]) 24] Yo (Y20 ++ []) (.refl _) rfl (by kernel_rfl) (by kernel_rfl) (p := po) (n := nu) (cap := co) (m := 1) (yv := .slice (some ⟨γ77 0, 0, none⟩) 1 1) (by kernel_rfl) (by kernel_rfl) (T := 3) (by_ := 8) (by kernel_rfl) ((il.take j).map (posI ts)) ([(posK Rn.id ts x36 : Nat)]) hOo (fun w hw => src_svn Try.underlying41 (sv_row (hw.row 0 rfl) (by rfl)) (by rfl)) (by rfl) (by have hmx : maxLen = 9223372036854775807 := rfl; omega) (by have hmx : maxLen = 9223372036854775807 := rfl; omega) (fun Y78 p78 cap78 hO78 => qo0 1 [] [0, 7, 8, 13, 14, 15] [(6, .slice p78 (nu + 1) cap78)] (on_ (done_block (ds_ (qa [(0, .fit)] [0, 6, 7, 8, 13, 14] [(15, .int .i64 (j + 1 : Nat))] ([Fit .i64 ((j + 1 : Nat))]) (al1 (fit64 (by omega) (by omega))) (Done.pick [[bx (γ77 0) (#[.int .i64 (posK Rn.id ts x36 : Nat)]) 3], [bx (γ21 0) (#[.slice q20 n cq20]) 24], [bx (γ9 1) (#[.slice none 0 0]) 24], [bx (γ9 0) (#[.slice p n cap]) 24], [bx (γ7 4) (#[.slice none 0 0]) 24], [bx (γ7 3) (#[.func (.func 45) #[] #[.pointer (some ⟨γ1 1, 0, none⟩)]]) 77], [bx (γ7 2) (#[.slice (some ⟨b34, o34, none⟩) m capi]) 41], [bx (γ7 1) (#[.bool true]) 4], [bx (γ7 0) (#[.slice p n cap]) 24], [bx (γ1 2) (#[.slice none 0 0]) 24], [bx (γ1 1) (#[.int .i64 dt]) 2], [bx (γ1 0) (#[.slice p n cap]) 24], Y78, Y20] [1, 2, 3, 4, 5, 6, 7, 8, 9, 10, 11, 12, 13] [0] (bx (γ21 0) (#[.slice q20 n cq20]) 24 :: bx (γ9 1) (#[.slice none 0 0]) 24 :: bx (γ9 0) (#[.slice p n cap]) 24 :: bx (γ7 4) (#[.slice none 0 0]) 24 :: bx (γ7 3) (#[.func (.func 45) #[] #[.pointer (some ⟨γ1 1, 0, none⟩)]]) 77 :: bx (γ7 2) (#[.slice (some ⟨b34, o34, none⟩) m capi]) 41 :: bx (γ7 1) (#[.bool true]) 4 :: bx (γ7 0) (#[.slice p n cap]) 24 :: bx (γ1 2) (#[.slice none 0 0]) 24 :: bx (γ1 1) (#[.int .i64 dt]) 2 :: bx (γ1 0) (#[.slice p n cap]) 24 :: (Y78 ++ (Y20 ++ []))) (by kernel_rfl) rfl rfl ?_)))))))))))))))))))
        exact dr [0, 6, 7, 8, 13, 14, 15] (j + 1, x36, er, Y78, p78, (nu + 1), cap78) ⟨by omega, lastN_on hx36, risN_on hR hx36 hla (by omega), all_onT hA hx36 q39, by rw [found_yes hx36 hg67, her], by omega, by rw [map_on hx36]; exact hO78⟩
    ·
     refine qa [(0, .no)] [0, 6, 7, 8, 13, 14, 15] [(16, .bool false)] ([¬ (((j : Nat) : Int) < ((m : Nat) : Int))]) (al1 q31) (ds_ (sq_ (f_ (at_leave _ rfl (ds_ (sq_ (qa0 [] [] [(4, .slice po nu co), (5, .int .i64 er)] (ds_ (bk ([]) (.tuple #[.slice po nu co, .int .i64 er]) ?_)))))))))
     rw [List.take_of_length_le (by omega)] at her hOo
     have hpe : placesE ts il = er := by rw [places_ok (risI_good hR hA (by omega)), her]
     have hnl := hOo.len
     rw [List.length_map] at hnl
     refine qo0 5 [] [0, 3] [(6, .slice po nu co), (7, .int .i64 er)] (on_ (ds_ (sq_ (sq_ (qa0 [] [0, 3, 7] [(18, .slice po nu co), (19, .int .i64 (nu : Nat)), (20, .int .i64 0)] (ds_ (at_block (at_loop (α := Nat × Int × List Ob × List Rn) [0, 3, 7, 18, 19, 20] (fun ⟨i, ez, Yq, L⟩ => [(0, .pointer (some ⟨γ21 0, 0, none⟩)), (3, .pointer (some ⟨γ7 3, 0, none⟩)), (7, .int .i64 ez), (18, .slice po nu co), (19, .int .i64 (nu : Nat)), (20, .int .i64 (i : Nat))]) (fun ⟨i, ez, Yq, L⟩ => bx (γ21 0) (#[.slice q20 n cq20]) 24 :: bx (γ9 1) (#[.slice none 0 0]) 24 :: bx (γ9 0) (#[.slice p n cap]) 24 :: bx (γ7 4) (#[.slice none 0 0]) 24 :: bx (γ7 3) (#[.func (.func 45) #[] #[.pointer (some ⟨γ1 1, 0, none⟩)]]) 77 :: bx (γ7 2) (#[.slice pi m capi]) 41 :: bx (γ7 1) (#[.bool true]) 4 :: bx (γ7 0) (#[.slice p n cap]) 24 :: bx (γ1 2) (#[.slice none 0 0]) 24 :: bx (γ1 1) (#[.int .i64 dt]) 2 :: bx (γ1 0) (#[.slice p n cap]) 24 :: (Yo ++ (Yq ++ []))) (fun ⟨i, ez, Yq, L⟩ => i ≤ nu ∧ altX (runF dt) ts (placesE ts il) (il.take i) = ez ∧ (ez = 0 → L = (altL (runF dt) ts (il.take i))) ∧ SlO 35 Yq q20 n cq20 L) (fun ⟨i, ez, Yq, L⟩ => nu - i) (0, er, Y20, ts) (by kernel_rfl) rfl ⟨Nat.zero_le _, by rw [altX_start]; exact hpe, fun _ => altL_nil.symm, hO20⟩ ?_))))))))
     rintro ⟨i, ez, Yq, L⟩
     rintro ⟨hi, hX, hL, hOq⟩
     refine sq_ ?_
     by_cases q86 : ((i : Nat) : Int) < ((nu : Nat) : Int)
     ·
      refine qa [(0, .yes)] [0, 3, 7, 18, 19, 20] [(21, .bool true)] ([((i : Nat) : Int) < ((nu : Nat) : Int)]) (al1 q86) (ds_ (sq_ (t_ (at_skip (ds_ (sq_ (at_block (sq_ ?_))))))))
      have hln89 := hOo.len
      obtain ⟨g89, cs89, rfl, rfl, hOw89⟩ := hOo.rowOf (i := i) (by omega)
      obtain ⟨x91, hx91⟩ := get_some (l := (il.map (posI ts))) (m := i) (by omega)
      refine qa [(0, .at g89 0 i), (1, .go (ownps 11 (0 + i * 1) [.int .i64 x91]))] [0, 3, 7, 18, 19, 20] [(9, .int .i64 x91)] ([(some ⟨g89, 0, none⟩ : Option Addr) = some ⟨g89, 0, none⟩, (i : Nat) = ((i : Nat) : Int), i < nu] ++ (acellsP cs89 (0 + i * 1) [.int .i64 x91])) (alA (al2 rfl (al2 rfl (al1 (by omega)))) (rda_pre (hOw89.rdx hOo.len hx91) _ rfl)) (ds_ (sq_ (sq_ ?_)))
      by_cases q94 : (ez : Int) ≠ (0 : Int)
      ·
       refine qa [(1, .yes)] [0, 3, 7, 9, 18, 19, 20] [(25, .bool true)] ([(ez : Int) ≠ (0 : Int)]) (al1 q94) (ds_ (t_ (at_leave _ rfl (ds_ (sq_ ?_)))))
       have hXf : altX (runF dt) ts (placesE ts il) il = ez := (altX_stop (by rw [hX]; exact q94)).trans hX
       refine qa0 [] [] [(5, .int .i64 ez)] (ds_ (bk ([]) (.int .i64 ez) (qo0 1 [] [4, 7] [(8, .int .i64 ez)] (on_ (ds_ (sq_ (qa [(1, .yes)] [4, 7, 8] [(22, .bool true)] ([(ez : Int) ≠ (0 : Int)]) (al1 q94) (ds_ (t_ (sq_ (qa0 [(2, .go (owns 1 0 1))] [4] [(5, .int .i64 ez)] (ds_ (bk (owns 1 0 1) (.tuple #[.agg #[.slice none 0 0], .int .i64 ez]) (qo0 4 [(5, .go (owns 3 0 1))] [8] [(9, .int .i64 ez)] (on_ (ds_ (bk (owns 3 0 1) (.tuple #[.agg #[.slice none 0 0], .int .i64 ez]) (qo0 4 [(12, .go (owns 8 0 1))] [6] [(7, .int .i64 ez)] (on_ (ds_ (rt (owns 8 0 1) (.tuple #[.agg #[.slice none 0 0], .int .i64 ez]) ?_)))))))))))))))))))))
       exact fun w' hw => by rw [show runV ts il dt = alterV (runF dt) ts (runB dt) il from rfl, alter_err q11 (show runB dt = true from decide_eq_true (by omega)) (by rw [hXf]; omega), hXf]; exact ⟨none, 0, 0, [], rfl, SlO.nil, hw.below, hw.sub (List.nil_sublist _)⟩
      ·
       refine qa [(1, .no)] [0, 3, 7, 9, 18, 19, 20] [(25, .bool false)] ([¬ ((ez : Int) ≠ (0 : Int))]) (al1 q94) (ds_ (f_ (at_skip (ds_ ?_))))
       have her0 : ez = 0 := by omega
       obtain ⟨r103, hidr103, hgkr103, hp0r103, hp1r103, htsr103, hLrr103⟩ := round_at hgq (hX.trans her0) hx91
       have hLn := hOq.len
       have hLl : L.length = ts.length := by rw [hL her0, altL_len]
       rw [← hL her0] at hLrr103
       have hUr103 := hU r103 (List.mem_of_getElem? htsr103)
       have hbr103 := hgq.bnd (List.mem_of_getElem? htsr103)
       have hln105 := hOq.len
       obtain ⟨g105, cs105, rfl, rfl, hOw105⟩ := hOq.rowOf (i := (x91).toNat) (by omega)
       refine at_calmTo (f := 2) 7 rfl (by kernel_rfl) (by kernel_rfl) (by kernel_rfl) (by kernel_rfl) (by kernel_rfl) (by kernel_rfl) ?_
       refine cm 7 [(0, .go (owns 4 0 1)), (4, .go (owns 0 0 1)), (6, .at g105 0 ((x91).toNat))] [0, 3, 18, 19, 20] [(26, .func (.func 45) #[] #[.pointer (some ⟨γ1 1, 0, none⟩)]), (32, .pointer (some ⟨g105, 0 + ((x91).toNat) * 5, none⟩))] ([(some ⟨g105, 0, none⟩ : Option Addr) = some ⟨g105, 0, none⟩, x91 = (((x91).toNat : Nat) : Int), (x91).toNat < n]) (by kernel_rfl) rfl (al2 rfl (al2 (by omega) (al1 (by omega)))) ?_
       refine calm_nil' ?_
       refine done_pre (li' := #[true, true, true, true, true, true, true, false, false]) (by kernel_rfl) ?_
       refine a1 7 rfl ?_
       refine ops_inline (g := 45) (args := #[.pointer (some ⟨g105, 0 + ((x91).toNat) * 5, none⟩), .pointer (some ⟨γ1 1, 0, none⟩)]) (by kernel_rfl) (by kernel_rfl) (by kernel_rfl) (fun args w => Try.call45 args w) Try.func45 rfl Try.ntmps45 rfl (sq_ (qa0 [] [0, 1] [] (ds_ (sq_ ?_))))
       have hmr := mul_each hbr103.2.2.1 hbr103.2.2.2.1 (show 0 ≤ dt by omega) (show dt ≤ 10000000 by omega)
       refine at_any (by kernel_rfl) ?_
       refine tk (m := 14) [0, 1, 2, 3, 5, 6, 7] [] [1] [(5, .pointer (some ⟨g105, 0 + ((x91).toNat) * 5, none⟩)), (8, .pointer (some ⟨g105, 0 + ((x91).toNat) * 5 + 2, none⟩)), (12, .pointer (some ⟨g105, 0 + ((x91).toNat) * 5 + 1, none⟩))] ([]) #[true, true, true, true, false, true, true, true, false, false, false, false, false, false, false, false, false, false, false, false, false] al0 ?_
       refine any_cut 8 #[true, true, true, true, true, true, true, true, true, true, true, true, true, false, false, false, false, false, false, false, false] ([(5, .pointer (some ⟨g105, 0 + ((x91).toNat) * 5, none⟩)), (9, .agg #[.int .u64 r103.th, .int .u64 r103.tl, .int .u64 r103.tw]), (17, .int .u64 (r103.each * dt))]) ([bx (γ21 0) (#[.slice (some ⟨g105, 0, none⟩) n cq20]) 24, bx (γ9 1) (#[.slice none 0 0]) 24, bx (γ9 0) (#[.slice p n cap]) 24, bx (γ7 4) (#[.slice none 0 0]) 24, bx (γ7 3) (#[.func (.func 45) #[] #[.pointer (some ⟨γ1 1, 0, none⟩)]]) 77, bx (γ7 2) (#[.slice pi m capi]) 41, bx (γ7 1) (#[.bool true]) 4, bx (γ7 0) (#[.slice p n cap]) 24, bx (γ1 2) (#[.slice none 0 0]) 24, bx (γ1 1) (#[.int .i64 dt]) 2, bx (γ1 0) (#[.slice p n cap]) 24, bx g89 cs89 3, bx g105 cs105 35]) ?_ (fun hm => ?_)
       rotate_left
       ·
        refine any_fork [4, 8, 10] (by kernel_rfl) (by simp) (each_cons _ rfl ?_ (each_cons _ rfl ?_ (each_cons _ rfl ?_ (each_nil))))
        ·
         refine qo 1 [(4, .go (ownps 12 (0 + ((x91).toNat) * 5 + 2) [.int .u64 r103.th, .int .u64 r103.tl, .int .u64 r103.tw]))] [1, 5, 12] [(9, .agg #[.int .u64 r103.th, .int .u64 r103.tl, .int .u64 r103.tw])] (acellsP cs105 (0 + ((x91).toNat) * 5 + 2) [.int .u64 r103.th, .int .u64 r103.tl, .int .u64 r103.tw]) (rda_part (hOw105.rdx hOq.len hLrr103) 2 _ rfl) ?_
         refine od_ ?_
         refine any_fork [8, 10] (by kernel_rfl) (by simp) (each_cons _ rfl ?_ (each_cons _ rfl ?_ (each_nil)))
         ·
          refine qo 1 [(8, .go (ownps 12 (0 + ((x91).toNat) * 5 + 1) [.int .i64 r103.each]))] [1, 5, 9] [(13, .int .i64 r103.each)] (acellsP cs105 (0 + ((x91).toNat) * 5 + 1) [.int .i64 r103.each]) (rda_part (hOw105.rdx hOq.len hLrr103) 1 _ rfl) ?_
          refine od_ ?_
          refine tk (m := 11) [9] [(9, .fit)] [1, 5, 9] [(14, .int .u64 r103.each)] ([Fit .u64 (r103.each)]) #[true, true, true, true, true, true, true, true, true, true, false, false, false, false, false, false, false, false, false, false, false] (al1 (fitU (by omega) (by omega))) ?_
          refine a1 10 rfl ?_
          refine qo0 1 [(10, .go (owns 9 0 1))] [5, 9, 14] [(15, .int .i64 dt)] ?_
          refine od_ ?_
          refine tk (m := 8) [11, 12] [(11, .fit), (12, .fit)] [5, 9] [(17, .int .u64 (r103.each * dt))] ([Fit .u64 (dt)] ++ ([Fit .u64 (r103.each * dt)])) #[true, true, true, true, true, true, true, true, true, true, true, true, true, false, false, false, false, false, false, false, false] (alA (al1 (fitU (by omega) (by omega))) (al1 (fitU (by omega) (by omega)))) ?_
          exact any_weak hm [5, 9, 17] (by kernel_rfl) rfl rfl rfl
         ·
          refine qo0 1 [(10, .go (owns 9 0 1))] [5, 9, 12] [(15, .int .i64 dt)] ?_
          refine od_ ?_
          refine tk (m := 11) [11] [(11, .fit)] [5, 9, 12] [(16, .int .u64 dt)] ([Fit .u64 (dt)]) #[true, true, true, true, true, true, true, true, false, false, true, true, false, false, false, false, false, false, false, false, false] (al1 (fitU (by omega) (by omega))) ?_
          refine a1 8 rfl ?_
          refine qo 1 [(8, .go (ownps 12 (0 + ((x91).toNat) * 5 + 1) [.int .i64 r103.each]))] [5, 9, 16] [(13, .int .i64 r103.each)] (acellsP cs105 (0 + ((x91).toNat) * 5 + 1) [.int .i64 r103.each]) (rda_part (hOw105.rdx hOq.len hLrr103) 1 _ rfl) ?_
          refine od_ ?_
          refine tk (m := 8) [9, 12] [(9, .fit), (12, .fit)] [5, 9] [(17, .int .u64 (r103.each * dt))] ([Fit .u64 (r103.each)] ++ ([Fit .u64 (r103.each * dt)])) #[true, true, true, true, true, true, true, true, true, true, true, true, true, false, false, false, false, false, false, false, false] (alA (al1 (fitU (by omega) (by omega))) (al1 (fitU (by omega) (by omega)))) ?_
          exact any_weak hm [5, 9, 17] (by kernel_rfl) rfl rfl rfl
        ·
         refine qo 1 [(8, .go (ownps 12 (0 + ((x91).toNat) * 5 + 1) [.int .i64 r103.each]))] [1, 5, 8] [(13, .int .i64 r103.each)] (acellsP cs105 (0 + ((x91).toNat) * 5 + 1) [.int .i64 r103.each]) (rda_part (hOw105.rdx hOq.len hLrr103) 1 _ rfl) ?_
         refine od_ ?_
         refine tk (m := 12) [9] [(9, .fit)] [1, 5, 8] [(14, .int .u64 r103.each)] ([Fit .u64 (r103.each)]) #[true, true, true, true, false, true, true, true, true, true, false, false, false, false, false, false, false, false, false, false, false] (al1 (fitU (by omega) (by omega))) ?_
         refine any_fork [4, 10] (by kernel_rfl) (by simp) (each_cons _ rfl ?_ (each_cons _ rfl ?_ (each_nil)))
         ·
          refine qo 1 [(4, .go (ownps 12 (0 + ((x91).toNat) * 5 + 2) [.int .u64 r103.th, .int .u64 r103.tl, .int .u64 r103.tw]))] [1, 5, 14] [(9, .agg #[.int .u64 r103.th, .int .u64 r103.tl, .int .u64 r103.tw])] (acellsP cs105 (0 + ((x91).toNat) * 5 + 2) [.int .u64 r103.th, .int .u64 r103.tl, .int .u64 r103.tw]) (rda_part (hOw105.rdx hOq.len hLrr103) 2 _ rfl) ?_
          refine od_ ?_
          refine a1 10 rfl ?_
          refine qo0 1 [(10, .go (owns 9 0 1))] [5, 9, 14] [(15, .int .i64 dt)] ?_
          refine od_ ?_
          refine tk (m := 8) [11, 12] [(11, .fit), (12, .fit)] [5, 9] [(17, .int .u64 (r103.each * dt))] ([Fit .u64 (dt)] ++ ([Fit .u64 (r103.each * dt)])) #[true, true, true, true, true, true, true, true, true, true, true, true, true, false, false, false, false, false, false, false, false] (alA (al1 (fitU (by omega) (by omega))) (al1 (fitU (by omega) (by omega)))) ?_
          exact any_weak hm [5, 9, 17] (by kernel_rfl) rfl rfl rfl
         ·
          refine qo0 1 [(10, .go (owns 9 0 1))] [5, 8, 14] [(15, .int .i64 dt)] ?_
          refine od_ ?_
          refine tk (m := 9) [11, 12] [(11, .fit), (12, .fit)] [5, 8] [(17, .int .u64 (r103.each * dt))] ([Fit .u64 (dt)] ++ ([Fit .u64 (r103.each * dt)])) #[true, true, true, true, false, true, true, true, true, true, true, true, true, false, false, false, false, false, false, false, false] (alA (al1 (fitU (by omega) (by omega))) (al1 (fitU (by omega) (by omega)))) ?_
          refine a1 4 rfl ?_
          refine qo 1 [(4, .go (ownps 12 (0 + ((x91).toNat) * 5 + 2) [.int .u64 r103.th, .int .u64 r103.tl, .int .u64 r103.tw]))] [5, 17] [(9, .agg #[.int .u64 r103.th, .int .u64 r103.tl, .int .u64 r103.tw])] (acellsP cs105 (0 + ((x91).toNat) * 5 + 2) [.int .u64 r103.th, .int .u64 r103.tl, .int .u64 r103.tw]) (rda_part (hOw105.rdx hOq.len hLrr103) 2 _ rfl) ?_
          refine od_ ?_
          exact any_weak hm [5, 9, 17] (by kernel_rfl) rfl rfl rfl
        ·
         refine qo0 1 [(10, .go (owns 9 0 1))] [5, 8, 12] [(15, .int .i64 dt)] ?_
         refine od_ ?_
         refine tk (m := 12) [11] [(11, .fit)] [5, 8, 12] [(16, .int .u64 dt)] ([Fit .u64 (dt)]) #[true, true, true, true, false, true, true, true, false, false, true, true, false, false, false, false, false, false, false, false, false] (al1 (fitU (by omega) (by omega))) ?_
         refine any_fork [4, 8] (by kernel_rfl) (by simp) (each_cons _ rfl ?_ (each_cons _ rfl ?_ (each_nil)))
         ·
          refine qo 1 [(4, .go (ownps 12 (0 + ((x91).toNat) * 5 + 2) [.int .u64 r103.th, .int .u64 r103.tl, .int .u64 r103.tw]))] [5, 12, 16] [(9, .agg #[.int .u64 r103.th, .int .u64 r103.tl, .int .u64 r103.tw])] (acellsP cs105 (0 + ((x91).toNat) * 5 + 2) [.int .u64 r103.th, .int .u64 r103.tl, .int .u64 r103.tw]) (rda_part (hOw105.rdx hOq.len hLrr103) 2 _ rfl) ?_
          refine od_ ?_
          refine a1 8 rfl ?_
          refine qo 1 [(8, .go (ownps 12 (0 + ((x91).toNat) * 5 + 1) [.int .i64 r103.each]))] [5, 9, 16] [(13, .int .i64 r103.each)] (acellsP cs105 (0 + ((x91).toNat) * 5 + 1) [.int .i64 r103.each]) (rda_part (hOw105.rdx hOq.len hLrr103) 1 _ rfl) ?_
          refine od_ ?_
          refine tk (m := 8) [9, 12] [(9, .fit), (12, .fit)] [5, 9] [(17, .int .u64 (r103.each * dt))] ([Fit .u64 (r103.each)] ++ ([Fit .u64 (r103.each * dt)])) #[true, true, true, true, true, true, true, true, true, true, true, true, true, false, false, false, false, false, false, false, false] (alA (al1 (fitU (by omega) (by omega))) (al1 (fitU (by omega) (by omega)))) ?_
          exact any_weak hm [5, 9, 17] (by kernel_rfl) rfl rfl rfl
         ·
          refine qo 1 [(8, .go (ownps 12 (0 + ((x91).toNat) * 5 + 1) [.int .i64 r103.each]))] [5, 8, 16] [(13, .int .i64 r103.each)] (acellsP cs105 (0 + ((x91).toNat) * 5 + 1) [.int .i64 r103.each]) (rda_part (hOw105.rdx hOq.len hLrr103) 1 _ rfl) ?_
          refine od_ ?_
          refine tk (m := 9) [9, 12] [(9, .fit), (12, .fit)] [5, 8] [(17, .int .u64 (r103.each * dt))] ([Fit .u64 (r103.each)] ++ ([Fit .u64 (r103.each * dt)])) #[true, true, true, true, false, true, true, true, true, true, true, true, true, false, false, false, false, false, false, false, false] (alA (al1 (fitU (by omega) (by omega))) (al1 (fitU (by omega) (by omega)))) ?_
          refine a1 4 rfl ?_
          refine qo 1 [(4, .go (ownps 12 (0 + ((x91).toNat) * 5 + 2) [.int .u64 r103.th, .int .u64 r103.tl, .int .u64 r103.tw]))] [5, 17] [(9, .agg #[.int .u64 r103.th, .int .u64 r103.tl, .int .u64 r103.tw])] (acellsP cs105 (0 + ((x91).toNat) * 5 + 2) [.int .u64 r103.th, .int .u64 r103.tl, .int .u64 r103.tw]) (rda_part (hOw105.rdx hOq.len hLrr103) 2 _ rfl) ?_
          refine od_ ?_
          exact any_weak hm [5, 9, 17] (by kernel_rfl) rfl rfl rfl
       refine a1 13 rfl ?_
       refine cD (.tuple #[.agg #[.int .u64 ((addV r103.t (r103.each * dt)).1.hi), .int .u64 ((addV r103.t (r103.each * dt)).1.lo), .int .u64 ((addV r103.t (r103.each * dt)).1.w)], .int .i64 ((addV r103.t (r103.each * dt)).2)]) Try.call18 (fun w hw => fadd_t r103.t (r103.each * dt) w hUr103.t (by omega) (by omega)) ?_
       refine od_ ?_
       refine tk (m := 2) [14, 15, 16, 17, 18] [] [] [(19, .agg #[.int .u64 ((addV r103.t (r103.each * dt)).1.hi), .int .u64 ((addV r103.t (r103.each * dt)).1.lo), .int .u64 ((addV r103.t (r103.each * dt)).1.w)]), (20, .int .i64 ((addV r103.t (r103.each * dt)).2)), (22, .pointer (some ⟨g105, 0 + ((x91).toNat) * 5 + 2, none⟩))] ([]) #[true, true, true, true, true, true, true, true, true, true, true, true, true, true, true, true, true, true, true, false, false] al0 ?_
       refine a1 19 rfl ?_
       refine mo 1 [(19, .go (ownps 12 (0 + ((x91).toNat) * 5 + 2) [undef, undef, undef]))] [20] (fun _ => []) (fun _ L => (L.set 12 (bx g105 ((((cs105).setIfInBounds (0 + ((x91).toNat) * 5 + 2) (.int .u64 ((addV r103.t (r103.each * dt)).1.hi))).setIfInBounds (0 + ((x91).toNat) * 5 + 2 + 1) (.int .u64 ((addV r103.t (r103.each * dt)).1.lo))).setIfInBounds (0 + ((x91).toNat) * 5 + 2 + 2) (.int .u64 ((addV r103.t (r103.each * dt)).1.w))) 35))) (fun _ => [0 + ((x91).toNat) * 5 + 2 < (cs105).size] ++ ([0 + ((x91).toNat) * 5 + 2 + 1 < ((cs105).setIfInBounds (0 + ((x91).toNat) * 5 + 2) (.int .u64 ((addV r103.t (r103.each * dt)).1.hi))).size] ++ ([0 + ((x91).toNat) * 5 + 2 + 2 < (((cs105).setIfInBounds (0 + ((x91).toNat) * 5 + 2) (.int .u64 ((addV r103.t (r103.each * dt)).1.hi))).setIfInBounds (0 + ((x91).toNat) * 5 + 2 + 1) (.int .u64 ((addV r103.t (r103.each * dt)).1.lo))).size]))) (fun _ => (alA (al1 (by exact hOw105.room hOq.len hLrr103 (f := 2) (by decide))) (alA (al1 (by have hrm := hOw105.room hOq.len hLrr103 (f := 3) (by decide); simp only [Array.size_setIfInBounds] at hrm ⊢; exact hrm)) (al1 (by have hrm := hOw105.room hOq.len hLrr103 (f := 4) (by decide); simp only [Array.size_setIfInBounds] at hrm ⊢; exact hrm))))) (fun _ => ?_)
       refine od_ ?_
       refine tk (m := 0) [20] [] [] [(3, .int .i64 ((addV r103.t (r103.each * dt)).2))] ([]) #[true, true, true, true, true, true, true, true, true, true, true, true, true, true, true, true, true, true, true, true, true] al0 ?_
       refine any_nil (by kernel_rfl) ?_
       refine ds_ (sq_ (qa0 [] [] [(3, .int .i64 ((addV r103.t (r103.each * dt)).2))] (ds_ (bk ([]) (.int .i64 ((addV r103.t (r103.each * dt)).2)) ?_))))
       refine od_ ?_
       refine tk (m := 0) [8] [] [0, 3, 18, 19, 20] [(7, .int .i64 ((addV r103.t (r103.each * dt)).2))] ([]) #[true, true, true, true, true, true, true, true, true] al0 ?_
       refine any_nil (by kernel_rfl) ?_
       refine done_block (ds_ (qa [(0, .fit)] [0, 3, 7, 18, 19] [(20, .int .i64 (i + 1 : Nat))] ([Fit .i64 ((i + 1 : Nat))]) (al1 (fit64 (by omega) (by omega))) ?_))
       exact dr [0, 3, 7, 18, 19, 20] (i + 1, (addV r103.t (r103.each * dt)).2, [bx g105 ((((cs105).setIfInBounds (0 + ((x91).toNat) * 5 + 2) (.int .u64 ((addV r103.t (r103.each * dt)).1.hi))).setIfInBounds (0 + ((x91).toNat) * 5 + 2 + 1) (.int .u64 ((addV r103.t (r103.each * dt)).1.lo))).setIfInBounds (0 + ((x91).toNat) * 5 + 2 + 2) (.int .u64 ((addV r103.t (r103.each * dt)).1.w))) 35], (L.set ((x91).toNat) (⟨r103.id, r103.each, (addV r103.t (r103.each * dt)).1.hi, (addV r103.t (r103.each * dt)).1.lo, (addV r103.t (r103.each * dt)).1.w⟩ : Rn))) ⟨by omega, by rw [altX_on (hX.trans her0) hidr103 hgkr103]; rfl, fun hz => (altS_eq hgq.rs htsr103 hidr103 (hL her0) (by first | rfl | simp only [List.set_set] <;> rfl)), (SlO.ofOwn (hOw105.put3 (x' := (⟨r103.id, r103.each, (addV r103.t (r103.each * dt)).1.hi, (addV r103.t (r103.each * dt)).1.lo, (addV r103.t (r103.each * dt)).1.w⟩ : Rn)) (f := 2) hOq.len hLrr103 (by decide) ⟨(⟨r103.id, r103.each, (addV r103.t (r103.each * dt)).1.hi, r103.tl, r103.tw⟩ : Rn), rfl⟩ ⟨(⟨r103.id, r103.each, (addV r103.t (r103.each * dt)).1.hi, (addV r103.t (r103.each * dt)).1.lo, r103.tw⟩ : Rn), rfl⟩ rfl) (len_set hOq.len))⟩
     ·
      refine qa [(0, .no)] [0, 3, 7, 18, 19, 20] [(21, .bool false)] ([¬ (((i : Nat) : Int) < ((nu : Nat) : Int))]) (al1 q86) (ds_ (sq_ (f_ (at_leave _ rfl (ds_ (sq_ ?_))))))
      have hXf : altX (runF dt) ts (placesE ts il) il = ez := (altX_all (by omega)).symm.trans hX
      refine qa0 [] [] [(5, .int .i64 ez)] (ds_ (bk ([]) (.int .i64 ez) (qo0 1 [] [4, 7] [(8, .int .i64 ez)] (on_ (ds_ (sq_ ?_))))))
      by_cases q150 : (ez : Int) ≠ (0 : Int)
      ·
       refine qa [(1, .yes)] [4, 7, 8] [(22, .bool true)] ([(ez : Int) ≠ (0 : Int)]) (al1 q150) (ds_ (t_ (sq_ (qa0 [(2, .go (owns 1 0 1))] [4] [(5, .int .i64 ez)] (ds_ (bk (owns 1 0 1) (.tuple #[.agg #[.slice none 0 0], .int .i64 ez]) (qo0 4 [(5, .go (owns 3 0 1))] [8] [(9, .int .i64 ez)] (on_ (ds_ (bk (owns 3 0 1) (.tuple #[.agg #[.slice none 0 0], .int .i64 ez]) (qo0 4 [(12, .go (owns 8 0 1))] [6] [(7, .int .i64 ez)] (on_ (ds_ (rt (owns 8 0 1) (.tuple #[.agg #[.slice none 0 0], .int .i64 ez]) ?_))))))))))))))
       exact fun w' hw => by rw [show runV ts il dt = alterV (runF dt) ts (runB dt) il from rfl, alter_err q11 (show runB dt = true from decide_eq_true (by omega)) (by rw [hXf]; omega), hXf]; exact ⟨none, 0, 0, [], rfl, SlO.nil, hw.below, hw.sub (List.nil_sublist _)⟩
      ·
       refine qa [(1, .no)] [4, 7, 8] [(22, .bool false)] ([¬ ((ez : Int) ≠ (0 : Int))]) (al1 q150) (ds_ (f_ (at_skip (ds_ (sq_ (ma0 [(0, .go (owns 0 0 1)), (1, .go (owns 1 0 1))] [4] (fun _ => [(5, .int .i64 0)]) (fun _ L => (L.set 1 (bx (γ9 1) (#[.slice q20 n cq20]) 24))) (fun _ => ds_ (bk (owns 1 0 1) (.tuple #[.agg #[.slice q20 n cq20], .int .i64 0]) (mo0 4 [(5, .go (owns 3 0 1))] [8] (fun _ => [(9, .int .i64 0)]) (fun _ L => (L.set 3 (bx (γ7 4) (#[.slice q20 n cq20]) 24))) (fun _ => on_ (ds_ (bk (owns 3 0 1) (.tuple #[.agg #[.slice q20 n cq20], .int .i64 0]) (mo0 4 [(12, .go (owns 8 0 1))] [6] (fun _ => [(7, .int .i64 0)]) (fun _ L => (L.set 8 (bx (γ1 2) (#[.slice q20 n cq20]) 24))) (fun _ => on_ (ds_ (rt (owns 8 0 1) (.tuple #[.agg #[.slice q20 n cq20], .int .i64 0]) ?_))))))))))))))))
       have hLf := hL (by omega)
       rw [altL_all (by omega)] at hLf
       subst hLf
       exact fun w' hw => by rw [show runV ts il dt = alterV (runF dt) ts (runB dt) il from rfl, alter_ok q11 (show runB dt = true from decide_eq_true (by omega)) (hXf.trans (by omega))]; exact ⟨_, _, _, _, rfl, hOq, hw.below, one_tail (Hs.pick [[bx (γ21 0) (#[.slice q20 n cq20]) 24], [bx (γ9 1) (#[.slice q20 n cq20]) 24], [bx (γ9 0) (#[.slice p n cap]) 24], [bx (γ7 4) (#[.slice q20 n cq20]) 24], [bx (γ7 3) (#[.func (.func 45) #[] #[.pointer (some ⟨γ1 1, 0, none⟩)]]) 77], [bx (γ7 2) (#[.slice pi m capi]) 41], [bx (γ7 1) (#[.bool true]) 4], [bx (γ7 0) (#[.slice p n cap]) 24], [bx (γ1 2) (#[.slice q20 n cq20]) 24], [bx (γ1 1) (#[.int .i64 dt]) 2], [bx (γ1 0) (#[.slice p n cap]) 24], Yo, Yq] [12] [0, 1, 2, 3, 4, 5, 6, 7, 8, 9, 10, 11] (by kernel_rfl) hw)⟩
  ·
   refine ao_ (qo 9 [(0, .go (owns 2 0 1)), (1, .go (owns 1 0 1)), (2, .yes), (4, .go (owns 1 0 1)), (5, .no)] [6] [(8, .agg #[.slice p n cap]), (14, .bool false), (15, .slice pi m capi), (16, .func (.func 45) #[] #[.pointer (some ⟨γ1 1, 0, none⟩)])] ([(dt : Int) ≥ (0 : Int)] ++ ([¬ ((dt : Int) ≤ (10000000 : Int))])) (alA (al1 q3) (al1 q5)) (ops_inline (g := 36) (args := #[.agg #[.slice p n cap], .bool false, .slice pi m capi, .func (.func 45) #[] #[.pointer (some ⟨γ1 1, 0, none⟩)]]) (by kernel_rfl) (by kernel_rfl) (by kernel_rfl) (fun args w => Try.call36 args w) Try.func36 rfl Try.ntmps36 rfl (sq_ (ma0 [] [] (fun γ160 => [(4, .pointer (some ⟨γ160 0, 0, none⟩)), (5, .pointer (some ⟨γ160 1, 0, none⟩)), (6, .pointer (some ⟨γ160 2, 0, none⟩)), (7, .pointer (some ⟨γ160 3, 0, none⟩)), (8, .pointer (some ⟨γ160 4, 0, none⟩))]) (fun γ160 L => bx (γ160 4) (#[.slice none 0 0]) 24 :: bx (γ160 3) (#[.func (.func 45) #[] #[.pointer (some ⟨γ1 1, 0, none⟩)]]) 77 :: bx (γ160 2) (#[.slice pi m capi]) 41 :: bx (γ160 1) (#[.bool false]) 4 :: bx (γ160 0) (#[.slice p n cap]) 24 :: L) (fun γ160 => ds_ (sq_ (ao_ (qo0 2 [(0, .go (owns 4 0 1))] [8] [(10, .agg #[.slice p n cap]), (11, .func (.func 68) #[] #[.pointer (some ⟨γ160 1, 0, none⟩), .pointer (some ⟨γ160 2, 0, none⟩), .pointer (some ⟨γ160 3, 0, none⟩)])] (ops_inline (g := 56) (args := #[.agg #[.slice p n cap], .func (.func 68) #[] #[.pointer (some ⟨γ160 1, 0, none⟩), .pointer (some ⟨γ160 2, 0, none⟩), .pointer (some ⟨γ160 3, 0, none⟩)]]) (by kernel_rfl) (by kernel_rfl) (by kernel_rfl) (fun args w => Try.call56 args w) Try.func56 rfl Try.ntmps56 rfl (sq_ (ma0 [] [1] (fun γ162 => [(2, .pointer (some ⟨γ162 0, 0, none⟩)), (4, .pointer (some ⟨γ162 1, 0, none⟩))]) (fun γ162 L => bx (γ162 1) (#[.slice none 0 0]) 24 :: bx (γ162 0) (#[.slice p n cap]) 24 :: L) (fun γ162 => ds_ (sq_ (sq_ (ao_ (qo0 1 [(0, .go (owns 1 0 1))] [1, 2, 4] [(9, .agg #[.slice p n cap])] ?_))))))))))))))))
   rcases q164 : chkQ ts with _ | _
   ·
    refine cD (.int .i64 200) Try.call20 (fun w hw => by have := qcheck_t p n cap ts w (hts.kept hw.below) hn (by omega); rw [q164] at this; exact this) (qo0 1 [] [1, 2, 4] [(6, .int .i64 200)] (on_ (ds_ (sq_ (qa0 [] [1, 2, 4, 6] [(12, .bool true)] (ds_ (t_ (sq_ (qa0 [(2, .go (owns 0 0 1))] [4] [(5, .int .i64 200)] (ds_ (bk (owns 0 0 1) (.tuple #[.agg #[.slice none 0 0], .int .i64 200]) (qo0 4 [(5, .go (owns 2 0 1))] [8] [(9, .int .i64 200)] (on_ (ds_ (bk (owns 2 0 1) (.tuple #[.agg #[.slice none 0 0], .int .i64 200]) (qo0 4 [(12, .go (owns 7 0 1))] [6] [(7, .int .i64 200)] (on_ (ds_ (rt (owns 7 0 1) (.tuple #[.agg #[.slice none 0 0], .int .i64 200]) ?_)))))))))))))))))))
    exact fun w' hw => by rw [show runV ts il dt = alterV (runF dt) ts (runB dt) il from rfl, alter_bad q164]; exact ⟨none, 0, 0, [], rfl, SlO.nil, hw.below, hw.sub (List.nil_sublist _)⟩
   ·
    refine cD (.int .i64 0) Try.call20 (fun w hw => by have := qcheck_t p n cap ts w (hts.kept hw.below) hn (by omega); rw [q164] at this; exact this) (qo0 1 [] [1, 2, 4] [(6, .int .i64 0)] (on_ (ds_ (sq_ (qa0 [] [1, 2, 4, 6] [(12, .bool false)] (ds_ (f_ (at_skip (ds_ (sq_ ?_))))))))))
    have hgq := chk_iff.1 q164
    have hlq := hgq.len
    refine ao_ (qo0 2 [(1, .go (owns 1 0 1))] [1, 4] [(16, .slice p n cap)] (cP (fun v L' => ∃ q_ c_ Y_, v = .slice q_ n c_ ∧ L' = List.take 10 ([bx (γ162 1) (#[.slice none 0 0]) 24, bx (γ162 0) (#[.slice p n cap]) 24, bx (γ160 4) (#[.slice none 0 0]) 24, bx (γ160 3) (#[.func (.func 45) #[] #[.pointer (some ⟨γ1 1, 0, none⟩)]]) 77, bx (γ160 2) (#[.slice pi m capi]) 41, bx (γ160 1) (#[.bool false]) 4, bx (γ160 0) (#[.slice p n cap]) 24, bx (γ1 2) (#[.slice none 0 0]) 24, bx (γ1 1) (#[.int .i64 dt]) 2, bx (γ1 0) (#[.slice p n cap]) 24]) ++ (Y_ ++ List.drop 10 ([bx (γ162 1) (#[.slice none 0 0]) 24, bx (γ162 0) (#[.slice p n cap]) 24, bx (γ160 4) (#[.slice none 0 0]) 24, bx (γ160 3) (#[.func (.func 45) #[] #[.pointer (some ⟨γ1 1, 0, none⟩)]]) 77, bx (γ160 2) (#[.slice pi m capi]) 41, bx (γ160 1) (#[.bool false]) 4, bx (γ160 0) (#[.slice p n cap]) 24, bx (γ1 2) (#[.slice none 0 0]) 24, bx (γ1 1) (#[.int .i64 dt]) 2, bx (γ1 0) (#[.slice p n cap]) 24])) ∧ SlO 35 Y_ q_ n c_ ts) Try.call78 (fun w hw => (qclone_t p n cap ts w (hts.kept hw.below) hn (by omega)).mono fun e w' ⟨q_, c_, Y_, he, hO, hb, hY⟩ => ⟨_, _, he, ⟨q_, c_, Y_, rfl, rfl, hO⟩, hw.join hb hY 10⟩) ?_))
    rintro v173 L173 ⟨q173, cq173, Y173, rfl, rfl, hO173⟩
    refine mo0 3 [(5, .go (owns 0 0 1))] [1, 4] (fun γ174 => [(7, .pointer (some ⟨γ174 0, 0, none⟩))]) (fun γ174 L => bx (γ174 0) (#[.slice q173 n cq173]) 24 :: L) (fun γ174 => on_ (ds_ (sq_ (sq_ (ao_ (qo0 1 [] [4, 7] [(19, .func (.func 68) #[] #[.pointer (some ⟨γ160 1, 0, none⟩), .pointer (some ⟨γ160 2, 0, none⟩), .pointer (some ⟨γ160 3, 0, none⟩)])] (ops_inline (g := 68) (args := #[.pointer (some ⟨γ174 0, 0, none⟩), .pointer (some ⟨γ160 1, 0, none⟩), .pointer (some ⟨γ160 2, 0, none⟩), .pointer (some ⟨γ160 3, 0, none⟩)]) (by kernel_rfl) (by kernel_rfl) (by kernel_rfl) (fun args w => Try.call68 args w) Try.func68 rfl Try.ntmps68 rfl (sq_ (qa0 [] [0, 1, 2, 3] [] (ds_ (sq_ (sq_ (qa0 [(0, .go (owns 6 0 1))] [0, 2, 3] [(11, .bool true)] (ds_ (t_ (sq_ (qa0 [] [] [(5, .int .i64 2)] (ds_ (bk ([]) (.int .i64 2) (qo0 1 [] [4, 7] [(8, .int .i64 2)] (on_ (ds_ (sq_ (qa0 [] [4, 7, 8] [(22, .bool true)] (ds_ (t_ (sq_ (qa0 [(2, .go (owns 1 0 1))] [4] [(5, .int .i64 2)] (ds_ (bk (owns 1 0 1) (.tuple #[.agg #[.slice none 0 0], .int .i64 2]) (qo0 4 [(5, .go (owns 3 0 1))] [8] [(9, .int .i64 2)] (on_ (ds_ (bk (owns 3 0 1) (.tuple #[.agg #[.slice none 0 0], .int .i64 2]) (qo0 4 [(12, .go (owns 8 0 1))] [6] [(7, .int .i64 2)] (on_ (ds_ (rt (owns 8 0 1) (.tuple #[.agg #[.slice none 0 0], .int .i64 2]) ?_))))))))))))))))))))))))))))))))))))))
    exact fun w' hw => by rw [show runV ts il dt = alterV (runF dt) ts (runB dt) il from rfl, alter_arg q164 (show runB dt = false from decide_eq_false (by omega))]; exact ⟨none, 0, 0, [], rfl, SlO.nil, hw.below, hw.sub (List.nil_sublist _)⟩
 ·
  refine ao_ (qo 9 [(0, .go (owns 2 0 1)), (1, .go (owns 1 0 1)), (2, .no)] [6] [(8, .agg #[.slice p n cap]), (14, .bool false), (15, .slice pi m capi), (16, .func (.func 45) #[] #[.pointer (some ⟨γ1 1, 0, none⟩)])] ([¬ ((dt : Int) ≥ (0 : Int))]) (al1 q3) (ops_inline (g := 36) (args := #[.agg #[.slice p n cap], .bool false, .slice pi m capi, .func (.func 45) #[] #[.pointer (some ⟨γ1 1, 0, none⟩)]]) (by kernel_rfl) (by kernel_rfl) (by kernel_rfl) (fun args w => Try.call36 args w) Try.func36 rfl Try.ntmps36 rfl (sq_ (ma0 [] [] (fun γ185 => [(4, .pointer (some ⟨γ185 0, 0, none⟩)), (5, .pointer (some ⟨γ185 1, 0, none⟩)), (6, .pointer (some ⟨γ185 2, 0, none⟩)), (7, .pointer (some ⟨γ185 3, 0, none⟩)), (8, .pointer (some ⟨γ185 4, 0, none⟩))]) (fun γ185 L => bx (γ185 4) (#[.slice none 0 0]) 24 :: bx (γ185 3) (#[.func (.func 45) #[] #[.pointer (some ⟨γ1 1, 0, none⟩)]]) 77 :: bx (γ185 2) (#[.slice pi m capi]) 41 :: bx (γ185 1) (#[.bool false]) 4 :: bx (γ185 0) (#[.slice p n cap]) 24 :: L) (fun γ185 => ds_ (sq_ (ao_ (qo0 2 [(0, .go (owns 4 0 1))] [8] [(10, .agg #[.slice p n cap]), (11, .func (.func 68) #[] #[.pointer (some ⟨γ185 1, 0, none⟩), .pointer (some ⟨γ185 2, 0, none⟩), .pointer (some ⟨γ185 3, 0, none⟩)])] (ops_inline (g := 56) (args := #[.agg #[.slice p n cap], .func (.func 68) #[] #[.pointer (some ⟨γ185 1, 0, none⟩), .pointer (some ⟨γ185 2, 0, none⟩), .pointer (some ⟨γ185 3, 0, none⟩)]]) (by kernel_rfl) (by kernel_rfl) (by kernel_rfl) (fun args w => Try.call56 args w) Try.func56 rfl Try.ntmps56 rfl (sq_ (ma0 [] [1] (fun γ187 => [(2, .pointer (some ⟨γ187 0, 0, none⟩)), (4, .pointer (some ⟨γ187 1, 0, none⟩))]) (fun γ187 L => bx (γ187 1) (#[.slice none 0 0]) 24 :: bx (γ187 0) (#[.slice p n cap]) 24 :: L) (fun γ187 => ds_ (sq_ (sq_ (ao_ (qo0 1 [(0, .go (owns 1 0 1))] [1, 2, 4] [(9, .agg #[.slice p n cap])] ?_))))))))))))))))
  rcases q189 : chkQ ts with _ | _
  ·
   refine cD (.int .i64 200) Try.call20 (fun w hw => by have := qcheck_t p n cap ts w (hts.kept hw.below) hn (by omega); rw [q189] at this; exact this) (qo0 1 [] [1, 2, 4] [(6, .int .i64 200)] (on_ (ds_ (sq_ (qa0 [] [1, 2, 4, 6] [(12, .bool true)] (ds_ (t_ (sq_ (qa0 [(2, .go (owns 0 0 1))] [4] [(5, .int .i64 200)] (ds_ (bk (owns 0 0 1) (.tuple #[.agg #[.slice none 0 0], .int .i64 200]) (qo0 4 [(5, .go (owns 2 0 1))] [8] [(9, .int .i64 200)] (on_ (ds_ (bk (owns 2 0 1) (.tuple #[.agg #[.slice none 0 0], .int .i64 200]) (qo0 4 [(12, .go (owns 7 0 1))] [6] [(7, .int .i64 200)] (on_ (ds_ (rt (owns 7 0 1) (.tuple #[.agg #[.slice none 0 0], .int .i64 200]) ?_)))))))))))))))))))
   exact fun w' hw => by rw [show runV ts il dt = alterV (runF dt) ts (runB dt) il from rfl, alter_bad q189]; exact ⟨none, 0, 0, [], rfl, SlO.nil, hw.below, hw.sub (List.nil_sublist _)⟩
  ·
   refine cD (.int .i64 0) Try.call20 (fun w hw => by have := qcheck_t p n cap ts w (hts.kept hw.below) hn (by omega); rw [q189] at this; exact this) (qo0 1 [] [1, 2, 4] [(6, .int .i64 0)] (on_ (ds_ (sq_ (qa0 [] [1, 2, 4, 6] [(12, .bool false)] (ds_ (f_ (at_skip (ds_ (sq_ ?_))))))))))
   have hgq := chk_iff.1 q189
   have hlq := hgq.len
   refine ao_ (qo0 2 [(1, .go (owns 1 0 1))] [1, 4] [(16, .slice p n cap)] (cP (fun v L' => ∃ q_ c_ Y_, v = .slice q_ n c_ ∧ L' = List.take 10 ([bx (γ187 1) (#[.slice none 0 0]) 24, bx (γ187 0) (#[.slice p n cap]) 24, bx (γ185 4) (#[.slice none 0 0]) 24, bx (γ185 3) (#[.func (.func 45) #[] #[.pointer (some ⟨γ1 1, 0, none⟩)]]) 77, bx (γ185 2) (#[.slice pi m capi]) 41, bx (γ185 1) (#[.bool false]) 4, bx (γ185 0) (#[.slice p n cap]) 24, bx (γ1 2) (#[.slice none 0 0]) 24, bx (γ1 1) (#[.int .i64 dt]) 2, bx (γ1 0) (#[.slice p n cap]) 24]) ++ (Y_ ++ List.drop 10 ([bx (γ187 1) (#[.slice none 0 0]) 24, bx (γ187 0) (#[.slice p n cap]) 24, bx (γ185 4) (#[.slice none 0 0]) 24, bx (γ185 3) (#[.func (.func 45) #[] #[.pointer (some ⟨γ1 1, 0, none⟩)]]) 77, bx (γ185 2) (#[.slice pi m capi]) 41, bx (γ185 1) (#[.bool false]) 4, bx (γ185 0) (#[.slice p n cap]) 24, bx (γ1 2) (#[.slice none 0 0]) 24, bx (γ1 1) (#[.int .i64 dt]) 2, bx (γ1 0) (#[.slice p n cap]) 24])) ∧ SlO 35 Y_ q_ n c_ ts) Try.call78 (fun w hw => (qclone_t p n cap ts w (hts.kept hw.below) hn (by omega)).mono fun e w' ⟨q_, c_, Y_, he, hO, hb, hY⟩ => ⟨_, _, he, ⟨q_, c_, Y_, rfl, rfl, hO⟩, hw.join hb hY 10⟩) ?_))
   rintro v198 L198 ⟨q198, cq198, Y198, rfl, rfl, hO198⟩
   refine mo0 3 [(5, .go (owns 0 0 1))] [1, 4] (fun γ199 => [(7, .pointer (some ⟨γ199 0, 0, none⟩))]) (fun γ199 L => bx (γ199 0) (#[.slice q198 n cq198]) 24 :: L) (fun γ199 => on_ (ds_ (sq_ (sq_ (ao_ (qo0 1 [] [4, 7] [(19, .func (.func 68) #[] #[.pointer (some ⟨γ185 1, 0, none⟩), .pointer (some ⟨γ185 2, 0, none⟩), .pointer (some ⟨γ185 3, 0, none⟩)])] (ops_inline (g := 68) (args := #[.pointer (some ⟨γ199 0, 0, none⟩), .pointer (some ⟨γ185 1, 0, none⟩), .pointer (some ⟨γ185 2, 0, none⟩), .pointer (some ⟨γ185 3, 0, none⟩)]) (by kernel_rfl) (by kernel_rfl) (by kernel_rfl) (fun args w => Try.call68 args w) Try.func68 rfl Try.ntmps68 rfl (sq_ (qa0 [] [0, 1, 2, 3] [] (ds_ (sq_ (sq_ (qa0 [(0, .go (owns 6 0 1))] [0, 2, 3] [(11, .bool true)] (ds_ (t_ (sq_ (qa0 [] [] [(5, .int .i64 2)] (ds_ (bk ([]) (.int .i64 2) (qo0 1 [] [4, 7] [(8, .int .i64 2)] (on_ (ds_ (sq_ (qa0 [] [4, 7, 8] [(22, .bool true)] (ds_ (t_ (sq_ (qa0 [(2, .go (owns 1 0 1))] [4] [(5, .int .i64 2)] (ds_ (bk (owns 1 0 1) (.tuple #[.agg #[.slice none 0 0], .int .i64 2]) (qo0 4 [(5, .go (owns 3 0 1))] [8] [(9, .int .i64 2)] (on_ (ds_ (bk (owns 3 0 1) (.tuple #[.agg #[.slice none 0 0], .int .i64 2]) (qo0 4 [(12, .go (owns 8 0 1))] [6] [(7, .int .i64 2)] (on_ (ds_ (rt (owns 8 0 1) (.tuple #[.agg #[.slice none 0 0], .int .i64 2]) ?_))))))))))))))))))))))))))))))))))))))
   exact fun w' hw => by rw [show runV ts il dt = alterV (runF dt) ts (runB dt) il from rfl, alter_arg q189 (show runB dt = false from decide_eq_false (by omega))]; exact ⟨none, 0, 0, [], rfl, SlO.nil, hw.below, hw.sub (List.nil_sublist _)⟩
end Go.Proofs.Ytnhkecfapohlgaa

/-! The layer does something. -/
namespace Go.Proofs.Ytnhkecfapohlgaa
open Go Go.RowKit
theorem lit_U0 : ∀ r ∈ [(⟨1, 1, 0, 100, 10⟩ : Rn), (⟨2, 2, 0, 300, 20⟩ : Rn)], r.U := by
 intro r hr
 simp only [List.mem_cons, List.not_mem_nil, or_false] at hr
 rcases hr with rfl | rfl <;> exact ⟨by decide, by decide, by decide, by decide, by constructor <;> decide⟩
theorem lit_U1 : ∀ r ∈ ([(⟨1, 1, 0, 100, 10⟩ : Rn), (⟨2, 2, 0, 300, 20⟩ : Rn), (⟨3, 1, 0, 360, 30⟩ : Rn)] : List Rn), r.U := by
 intro r hr
 simp only [List.mem_cons, List.not_mem_nil, or_false] at hr
 rcases hr with rfl | rfl | rfl <;> exact ⟨by decide, by decide, by decide, by decide, by constructor <;> decide⟩

set_option maxRecDepth 100000 in
theorem over_t (a b : Int) (w : World)
 : Calls Try.prog 32 #[.int .u64 a, .int .u64 b] w fun e w' => e = .returned (.agg #[.int .u64 0, .int .u64 a, .int .u64 b]) ∧ Below w.heap.size w w' := by
 refine enter (Hs.start w) Try.func32 rfl Try.ntmps32 rfl (sq_ (ma0 [] [0, 1] (fun γ1 => [(4, .pointer (some ⟨γ1 0, 0, none⟩))]) (fun γ1 L => bx (γ1 0) (#[.int .u64 0, .int .u64 0, .int .u64 0]) 33 :: L) (fun γ1 => ds_ (sq_ (ma0 [(4, .go (owns 0 0 3))] [4] (fun _ => []) (fun _ L => (L.set 0 (bx (γ1 0) (#[.int .u64 0, .int .u64 a, .int .u64 b]) 33))) (fun _ => ds_ (rt (owns 0 0 3) (.agg #[.int .u64 0, .int .u64 a, .int .u64 b]) ?_)))))))
 exact fun w' hw => ⟨rfl, hw.below⟩

set_option maxRecDepth 100000 in
theorem wakes_t  (w : World)
 : Calls Try.prog 9 #[] w fun e w' => e = .returned (.bool true) ∧ Below w.heap.size w w' := by
 refine enter (Hs.start w) Try.func9 rfl Try.ntmps9 rfl (sq_ (qa0 [] [] [] (ds_ (sq_ (ao_ (cD (.agg #[.int .u64 0, .int .u64 100, .int .u64 10]) Try.call32 (fun w hw => over_t 100 10 w) (qo0 1 [] [] [(9, .agg #[.int .i64 1, .int .i64 1, .int .u64 0, .int .u64 100, .int .u64 10])] (cD (.agg #[.int .u64 0, .int .u64 300, .int .u64 20]) Try.call32 (fun w hw => over_t 300 20 w) (mo0 5 [(7, .go (owns 0 0 1))] [] (fun γ4 => [(1, .pointer (some ⟨γ4 1, 0, none⟩))]) (fun γ4 L => bx (γ4 1) (#[.slice (some ⟨γ4 0, 0, none⟩) 2 2]) 24 :: bx (γ4 0) (#[.int .i64 1, .int .i64 1, .int .u64 0, .int .u64 100, .int .u64 10, .int .i64 2, .int .i64 2, .int .u64 0, .int .u64 300, .int .u64 20]) 35 :: L) (fun γ4 => on_ (ds_ (sq_ ?_))))))))))))
 refine at_any (by kernel_rfl) ?_
 refine any_cutX (V := (List Ob) × (Nat) × (Nat) × (Option Addr) × (Nat → Nat)) (fun ⟨Y67, c67, n67, q67, γ147⟩ => SlO 35 Y67 q67 n67 c67 ([(⟨1, 1, 0, 100, 10⟩ : Rn), (⟨2, 2, 0, 300, 20⟩ : Rn), (⟨3, 1, 0, 360, 30⟩ : Rn)] : List Rn) ∧ n67 = 3 ∧ n67 = (([(⟨1, 1, 0, 100, 10⟩ : Rn), (⟨2, 2, 0, 300, 20⟩ : Rn), (⟨3, 1, 0, 360, 30⟩ : Rn)] : List Rn)).length) 0 #[true, true, true, true, true, true, true, true, true, true] (fun ⟨Y67, c67, n67, q67, γ147⟩ => [(1, .pointer (some ⟨γ4 1, 0, none⟩)), (2, .pointer (some ⟨γ147 0, 0, none⟩)), (3, .int .i64 0)]) (fun ⟨Y67, c67, n67, q67, γ147⟩ => bx (γ147 0) (#[.slice q67 n67 c67]) 24 :: bx (γ4 1) (#[.slice (some ⟨γ4 0, 0, none⟩) 2 2]) 24 :: bx (γ4 0) (#[.int .i64 1, .int .i64 1, .int .u64 0, .int .u64 100, .int .u64 10, .int .i64 2, .int .i64 2, .int .u64 0, .int .u64 300, .int .u64 20]) 35 :: (Y67 ++ [])) ?_ (fun hmx10 => ?_)
 rotate_left
 ·
  refine any_cutX (V := (List Ob) × (Nat) × (Nat) × (Option Addr) × (Nat → Nat)) (fun ⟨Y67, c67, n67, q67, γ147⟩ => SlO 35 Y67 q67 n67 c67 ([(⟨1, 1, 0, 100, 10⟩ : Rn), (⟨2, 2, 0, 300, 20⟩ : Rn), (⟨3, 1, 0, 360, 30⟩ : Rn)] : List Rn) ∧ n67 = 3 ∧ n67 = (([(⟨1, 1, 0, 100, 10⟩ : Rn), (⟨2, 2, 0, 300, 20⟩ : Rn), (⟨3, 1, 0, 360, 30⟩ : Rn)] : List Rn)).length) 2 #[true, true, true, true, true, true, true, true, false, false] (fun ⟨Y67, c67, n67, q67, γ147⟩ => [(1, .pointer (some ⟨γ4 1, 0, none⟩)), (2, .pointer (some ⟨γ147 0, 0, none⟩)), (19, .agg #[.slice q67 n67 c67]), (20, .int .i64 0)]) (fun ⟨Y67, c67, n67, q67, γ147⟩ => bx (γ147 0) (#[.slice none 0 0]) 24 :: bx (γ4 1) (#[.slice (some ⟨γ4 0, 0, none⟩) 2 2]) 24 :: bx (γ4 0) (#[.int .i64 1, .int .i64 1, .int .u64 0, .int .u64 100, .int .u64 10, .int .i64 2, .int .i64 2, .int .u64 0, .int .u64 300, .int .u64 20]) 35 :: (Y67 ++ [])) ?_ (fun hmx9 => ?_)
  ·
   rintro ⟨Y67, c67, n67, q67, γ147⟩ ⟨hO67, hcn67, hl67⟩
   refine a1 8 rfl ?_
   refine mo0 1 [(8, .go (owns 0 0 1))] [1, 2, 20] (fun _ => []) (fun _ L => (L.set 0 (bx (γ147 0) (#[.slice q67 n67 c67]) 24))) (fun _ => ?_)
   refine od_ ?_
   refine tk (m := 0) [9] [] [1, 2] [(3, .int .i64 0)] ([]) #[true, true, true, true, true, true, true, true, true, true] al0 ?_
   exact wk (hmx10 (Y67, c67, n67, q67, γ147) ⟨hO67, hcn67, hl67⟩) [1, 2, 3] [[_], [_], [_], _] [0, 1, 2, 3] rfl rfl
  refine any_cutX (V := (List Ob) × (Nat) × (Nat) × (Option Addr)) (fun ⟨Y67, c67, n67, q67⟩ => SlO 35 Y67 q67 n67 c67 ([(⟨1, 1, 0, 100, 10⟩ : Rn), (⟨2, 2, 0, 300, 20⟩ : Rn), (⟨3, 1, 0, 360, 30⟩ : Rn)] : List Rn) ∧ n67 = 3 ∧ n67 = (([(⟨1, 1, 0, 100, 10⟩ : Rn), (⟨2, 2, 0, 300, 20⟩ : Rn), (⟨3, 1, 0, 360, 30⟩ : Rn)] : List Rn)).length) 3 #[true, true, true, true, true, true, true, false, false, false] (fun ⟨Y67, c67, n67, q67⟩ => [(1, .pointer (some ⟨γ4 1, 0, none⟩)), (19, .agg #[.slice q67 n67 c67]), (20, .int .i64 0)]) (fun ⟨Y67, c67, n67, q67⟩ => bx (γ4 1) (#[.slice (some ⟨γ4 0, 0, none⟩) 2 2]) 24 :: bx (γ4 0) (#[.int .i64 1, .int .i64 1, .int .u64 0, .int .u64 100, .int .u64 10, .int .i64 2, .int .i64 2, .int .u64 0, .int .u64 300, .int .u64 20]) 35 :: (Y67 ++ [])) ?_ (fun hmx8 => ?_)
  ·
   rintro ⟨Y67, c67, n67, q67⟩ ⟨hO67, hcn67, hl67⟩
   refine a1 7 rfl ?_
   refine mo0 1 [] [1, 19, 20] (fun γ147 => [(2, .pointer (some ⟨γ147 0, 0, none⟩))]) (fun γ147 L => bx (γ147 0) (#[.slice none 0 0]) 24 :: L) (fun γ147 => ?_)
   refine od_ ?_
   exact wk (hmx9 (Y67, c67, n67, q67, γ147) ⟨hO67, hcn67, hl67⟩) [1, 2, 19, 20] [[_], [_], [_], _] [0, 1, 2, 3] rfl rfl
  refine any_cutX (V := (Nat → Nat)) (fun γ147 => True) 6 #[true, true, true, false, false, false, false, true, false, false] (fun γ147 => [(1, .pointer (some ⟨γ4 1, 0, none⟩)), (2, .pointer (some ⟨γ147 0, 0, none⟩)), (15, .agg #[.slice (some ⟨γ4 0, 0, none⟩) 2 2]), (17, .agg #[.int .i64 3, .int .i64 1, .int .u64 0, .int .u64 0, .int .u64 30])]) (fun γ147 => [bx (γ147 0) (#[.slice none 0 0]) 24, bx (γ4 1) (#[.slice (some ⟨γ4 0, 0, none⟩) 2 2]) 24, bx (γ4 0) (#[.int .i64 1, .int .i64 1, .int .u64 0, .int .u64 100, .int .u64 10, .int .i64 2, .int .i64 2, .int .u64 0, .int .u64 300, .int .u64 20]) 35]) ?_ (fun hmx7 => ?_)
  ·
   rintro γ147 _
   refine a1 3 rfl ?_
   refine cP (fun v L' => ∃ q_ n_ c_ Y_, v = .tuple #[.agg #[.slice q_ n_ c_], .int .i64 0] ∧ L' = List.take 3 ([bx (γ147 0) (#[.slice none 0 0]) 24, bx (γ4 1) (#[.slice (some ⟨γ4 0, 0, none⟩) 2 2]) 24, bx (γ4 0) (#[.int .i64 1, .int .i64 1, .int .u64 0, .int .u64 100, .int .u64 10, .int .i64 2, .int .i64 2, .int .u64 0, .int .u64 300, .int .u64 20]) 35]) ++ (Y_ ++ List.drop 3 ([bx (γ147 0) (#[.slice none 0 0]) 24, bx (γ4 1) (#[.slice (some ⟨γ4 0, 0, none⟩) 2 2]) 24, bx (γ4 0) (#[.int .i64 1, .int .i64 1, .int .u64 0, .int .u64 100, .int .u64 10, .int .i64 2, .int .i64 2, .int .u64 0, .int .u64 300, .int .u64 20]) 35])) ∧ SlO 35 Y_ q_ n_ c_ ([(⟨1, 1, 0, 100, 10⟩ : Rn), (⟨2, 2, 0, 300, 20⟩ : Rn), (⟨3, 1, 0, 360, 30⟩ : Rn)] : List Rn)) Try.call28 (fun w hw => (join_t (some ⟨γ4 0, 0, none⟩) 2 2 [(⟨1, 1, 0, 100, 10⟩ : Rn), (⟨2, 2, 0, 300, 20⟩ : Rn)] (⟨3, 1, 0, 0, 30⟩ : Rn) 90 w (sv_row (hw.row 2 rfl) rfl) rfl (by decide) lit_U0 ⟨by decide, by decide, by decide, by decide, by constructor <;> decide⟩ (by decide)).mono fun e w' ⟨q_, n_, c_, Y_, he, hO, hb, hY⟩ => by rw [show joinV [(⟨1, 1, 0, 100, 10⟩ : Rn), (⟨2, 2, 0, 300, 20⟩ : Rn)] (⟨3, 1, 0, 0, 30⟩ : Rn) 90 = (([(⟨1, 1, 0, 100, 10⟩ : Rn), (⟨2, 2, 0, 300, 20⟩ : Rn), (⟨3, 1, 0, 360, 30⟩ : Rn)] : List Rn), 0) from by kernel_rfl] at he hO; exact ⟨_, _, he, ⟨q_, n_, c_, Y_, rfl, rfl, hO⟩, hw.join hb hY 3⟩) ?_
   rintro v67 L67 ⟨q67, n67, c67, Y67, rfl, rfl, hO67⟩
   have hl67 := hO67.len
   have hcn67 : n67 = 3 := hO67.len
   refine od_ ?_
   refine tk (m := 2) [4, 5, 6] [] [1, 2] [(19, .agg #[.slice q67 n67 c67]), (20, .int .i64 0)] ([]) #[true, true, true, true, true, true, true, true, false, false] al0 ?_
   exact wk (hmx9 (Y67, c67, n67, q67, γ147) ⟨hO67, hcn67, hl67⟩) [1, 2, 19, 20] [[_], [_], [_], _] [0, 1, 2, 3] rfl rfl
  refine any_cutX (V := (Nat → Nat)) (fun γ147 => True) 7 #[false, true, true, false, false, false, false, true, false, false] (fun γ147 => [(1, .pointer (some ⟨γ4 1, 0, none⟩)), (2, .pointer (some ⟨γ147 0, 0, none⟩)), (17, .agg #[.int .i64 3, .int .i64 1, .int .u64 0, .int .u64 0, .int .u64 30])]) (fun γ147 => [bx (γ147 0) (#[.slice none 0 0]) 24, bx (γ4 1) (#[.slice (some ⟨γ4 0, 0, none⟩) 2 2]) 24, bx (γ4 0) (#[.int .i64 1, .int .i64 1, .int .u64 0, .int .u64 100, .int .u64 10, .int .i64 2, .int .i64 2, .int .u64 0, .int .u64 300, .int .u64 20]) 35]) ?_ (fun hmx6 => ?_)
  ·
   rintro γ147 _
   refine a1 0 rfl ?_
   refine qo0 1 [(0, .go (owns 1 0 1))] [1, 2, 17] [(15, .agg #[.slice (some ⟨γ4 0, 0, none⟩) 2 2])] ?_
   refine od_ ?_
   exact wk (hmx7 γ147 trivial) [1, 2, 15, 17] [[_], [_], [_]] [0, 1, 2] rfl rfl
  refine any_cutX (V := Unit) (fun _ => True) 7 #[true, true, true, false, false, false, false, false, false, false] (fun _ => [(1, .pointer (some ⟨γ4 1, 0, none⟩)), (15, .agg #[.slice (some ⟨γ4 0, 0, none⟩) 2 2]), (17, .agg #[.int .i64 3, .int .i64 1, .int .u64 0, .int .u64 0, .int .u64 30])]) (fun _ => [bx (γ4 1) (#[.slice (some ⟨γ4 0, 0, none⟩) 2 2]) 24, bx (γ4 0) (#[.int .i64 1, .int .i64 1, .int .u64 0, .int .u64 100, .int .u64 10, .int .i64 2, .int .i64 2, .int .u64 0, .int .u64 300, .int .u64 20]) 35]) ?_ (fun hmx5 => ?_)
  ·
   rintro _ _
   refine any_fork [3, 7] (by kernel_rfl) (by simp) (each_cons _ rfl ?_ (each_cons _ rfl ?_ (each_nil)))
   ·
    refine cP (fun v L' => ∃ q_ n_ c_ Y_, v = .tuple #[.agg #[.slice q_ n_ c_], .int .i64 0] ∧ L' = List.take 2 ([bx (γ4 1) (#[.slice (some ⟨γ4 0, 0, none⟩) 2 2]) 24, bx (γ4 0) (#[.int .i64 1, .int .i64 1, .int .u64 0, .int .u64 100, .int .u64 10, .int .i64 2, .int .i64 2, .int .u64 0, .int .u64 300, .int .u64 20]) 35]) ++ (Y_ ++ List.drop 2 ([bx (γ4 1) (#[.slice (some ⟨γ4 0, 0, none⟩) 2 2]) 24, bx (γ4 0) (#[.int .i64 1, .int .i64 1, .int .u64 0, .int .u64 100, .int .u64 10, .int .i64 2, .int .i64 2, .int .u64 0, .int .u64 300, .int .u64 20]) 35])) ∧ SlO 35 Y_ q_ n_ c_ ([(⟨1, 1, 0, 100, 10⟩ : Rn), (⟨2, 2, 0, 300, 20⟩ : Rn), (⟨3, 1, 0, 360, 30⟩ : Rn)] : List Rn)) Try.call28 (fun w hw => (join_t (some ⟨γ4 0, 0, none⟩) 2 2 [(⟨1, 1, 0, 100, 10⟩ : Rn), (⟨2, 2, 0, 300, 20⟩ : Rn)] (⟨3, 1, 0, 0, 30⟩ : Rn) 90 w (sv_row (hw.row 1 rfl) rfl) rfl (by decide) lit_U0 ⟨by decide, by decide, by decide, by decide, by constructor <;> decide⟩ (by decide)).mono fun e w' ⟨q_, n_, c_, Y_, he, hO, hb, hY⟩ => by rw [show joinV [(⟨1, 1, 0, 100, 10⟩ : Rn), (⟨2, 2, 0, 300, 20⟩ : Rn)] (⟨3, 1, 0, 0, 30⟩ : Rn) 90 = (([(⟨1, 1, 0, 100, 10⟩ : Rn), (⟨2, 2, 0, 300, 20⟩ : Rn), (⟨3, 1, 0, 360, 30⟩ : Rn)] : List Rn), 0) from by kernel_rfl] at he hO; exact ⟨_, _, he, ⟨q_, n_, c_, Y_, rfl, rfl, hO⟩, hw.join hb hY 2⟩) ?_
    rintro v67 L67 ⟨q67, n67, c67, Y67, rfl, rfl, hO67⟩
    have hl67 := hO67.len
    have hcn67 : n67 = 3 := hO67.len
    refine od_ ?_
    refine tk (m := 3) [4, 5, 6] [] [1] [(19, .agg #[.slice q67 n67 c67]), (20, .int .i64 0)] ([]) #[true, true, true, true, true, true, true, false, false, false] al0 ?_
    exact wk (hmx8 (Y67, c67, n67, q67) ⟨hO67, hcn67, hl67⟩) [1, 19, 20] [[_], [_], _] [0, 1, 2] rfl rfl
   ·
    refine mo0 1 [] [1, 15, 17] (fun γ147 => [(2, .pointer (some ⟨γ147 0, 0, none⟩))]) (fun γ147 L => bx (γ147 0) (#[.slice none 0 0]) 24 :: L) (fun γ147 => ?_)
    refine od_ ?_
    exact wk (hmx7 γ147 trivial) [1, 2, 15, 17] [[_], [_], [_]] [0, 1, 2] rfl rfl
  refine any_cutX (V := (Nat → Nat)) (fun γ147 => True) 8 #[true, false, false, false, false, false, false, true, false, false] (fun γ147 => [(1, .pointer (some ⟨γ4 1, 0, none⟩)), (2, .pointer (some ⟨γ147 0, 0, none⟩)), (15, .agg #[.slice (some ⟨γ4 0, 0, none⟩) 2 2])]) (fun γ147 => [bx (γ147 0) (#[.slice none 0 0]) 24, bx (γ4 1) (#[.slice (some ⟨γ4 0, 0, none⟩) 2 2]) 24, bx (γ4 0) (#[.int .i64 1, .int .i64 1, .int .u64 0, .int .u64 100, .int .u64 10, .int .i64 2, .int .i64 2, .int .u64 0, .int .u64 300, .int .u64 20]) 35]) ?_ (fun hmx4 => ?_)
  ·
   rintro γ147 _
   refine a1 1 rfl ?_
   refine cD (.agg #[.int .u64 0, .int .u64 0, .int .u64 30]) Try.call32 (fun w hw => over_t 0 30 w) ?_
   refine od_ ?_
   refine tk (m := 6) [2] [] [1, 2, 15] [(17, .agg #[.int .i64 3, .int .i64 1, .int .u64 0, .int .u64 0, .int .u64 30])] ([]) #[true, true, true, false, false, false, false, true, false, false] al0 ?_
   exact wk (hmx7 γ147 trivial) [1, 2, 15, 17] [[_], [_], [_]] [0, 1, 2] rfl rfl
  refine any_cutX (V := Unit) (fun _ => True) 8 #[false, true, true, false, false, false, false, false, false, false] (fun _ => [(1, .pointer (some ⟨γ4 1, 0, none⟩)), (17, .agg #[.int .i64 3, .int .i64 1, .int .u64 0, .int .u64 0, .int .u64 30])]) (fun _ => [bx (γ4 1) (#[.slice (some ⟨γ4 0, 0, none⟩) 2 2]) 24, bx (γ4 0) (#[.int .i64 1, .int .i64 1, .int .u64 0, .int .u64 100, .int .u64 10, .int .i64 2, .int .i64 2, .int .u64 0, .int .u64 300, .int .u64 20]) 35]) ?_ (fun hmx3 => ?_)
  ·
   rintro _ _
   refine any_fork [0, 7] (by kernel_rfl) (by simp) (each_cons _ rfl ?_ (each_cons _ rfl ?_ (each_nil)))
   ·
    refine qo0 1 [(0, .go (owns 0 0 1))] [1, 17] [(15, .agg #[.slice (some ⟨γ4 0, 0, none⟩) 2 2])] ?_
    refine od_ ?_
    exact wk (hmx5 () trivial) [1, 15, 17] [[_], [_]] [0, 1] rfl rfl
   ·
    refine mo0 1 [] [1, 17] (fun γ147 => [(2, .pointer (some ⟨γ147 0, 0, none⟩))]) (fun γ147 L => bx (γ147 0) (#[.slice none 0 0]) 24 :: L) (fun γ147 => ?_)
    refine od_ ?_
    exact wk (hmx6 γ147 trivial) [1, 2, 17] [[_], [_], [_]] [0, 1, 2] rfl rfl
  refine any_cutX (V := (Nat → Nat)) (fun γ147 => True) 9 #[false, false, false, false, false, false, false, true, false, false] (fun γ147 => [(1, .pointer (some ⟨γ4 1, 0, none⟩)), (2, .pointer (some ⟨γ147 0, 0, none⟩))]) (fun γ147 => [bx (γ147 0) (#[.slice none 0 0]) 24, bx (γ4 1) (#[.slice (some ⟨γ4 0, 0, none⟩) 2 2]) 24, bx (γ4 0) (#[.int .i64 1, .int .i64 1, .int .u64 0, .int .u64 100, .int .u64 10, .int .i64 2, .int .i64 2, .int .u64 0, .int .u64 300, .int .u64 20]) 35]) ?_ (fun hmx2 => ?_)
  ·
   rintro γ147 _
   refine any_fork [0, 1] (by kernel_rfl) (by simp) (each_cons _ rfl ?_ (each_cons _ rfl ?_ (each_nil)))
   ·
    refine qo0 1 [(0, .go (owns 1 0 1))] [1, 2] [(15, .agg #[.slice (some ⟨γ4 0, 0, none⟩) 2 2])] ?_
    refine od_ ?_
    exact wk (hmx4 γ147 trivial) [1, 2, 15] [[_], [_], [_]] [0, 1, 2] rfl rfl
   ·
    refine cD (.agg #[.int .u64 0, .int .u64 0, .int .u64 30]) Try.call32 (fun w hw => over_t 0 30 w) ?_
    refine od_ ?_
    refine tk (m := 7) [2] [] [1, 2] [(17, .agg #[.int .i64 3, .int .i64 1, .int .u64 0, .int .u64 0, .int .u64 30])] ([]) #[false, true, true, false, false, false, false, true, false, false] al0 ?_
    exact wk (hmx6 γ147 trivial) [1, 2, 17] [[_], [_], [_]] [0, 1, 2] rfl rfl
  refine any_cutX (V := Unit) (fun _ => True) 9 #[true, false, false, false, false, false, false, false, false, false] (fun _ => [(1, .pointer (some ⟨γ4 1, 0, none⟩)), (15, .agg #[.slice (some ⟨γ4 0, 0, none⟩) 2 2])]) (fun _ => [bx (γ4 1) (#[.slice (some ⟨γ4 0, 0, none⟩) 2 2]) 24, bx (γ4 0) (#[.int .i64 1, .int .i64 1, .int .u64 0, .int .u64 100, .int .u64 10, .int .i64 2, .int .i64 2, .int .u64 0, .int .u64 300, .int .u64 20]) 35]) ?_ (fun hmx1 => ?_)
  ·
   rintro _ _
   refine any_fork [1, 7] (by kernel_rfl) (by simp) (each_cons _ rfl ?_ (each_cons _ rfl ?_ (each_nil)))
   ·
    refine cD (.agg #[.int .u64 0, .int .u64 0, .int .u64 30]) Try.call32 (fun w hw => over_t 0 30 w) ?_
    refine od_ ?_
    refine tk (m := 7) [2] [] [1, 15] [(17, .agg #[.int .i64 3, .int .i64 1, .int .u64 0, .int .u64 0, .int .u64 30])] ([]) #[true, true, true, false, false, false, false, false, false, false] al0 ?_
    exact wk (hmx5 () trivial) [1, 15, 17] [[_], [_]] [0, 1] rfl rfl
   ·
    refine mo0 1 [] [1, 15] (fun γ147 => [(2, .pointer (some ⟨γ147 0, 0, none⟩))]) (fun γ147 L => bx (γ147 0) (#[.slice none 0 0]) 24 :: L) (fun γ147 => ?_)
    refine od_ ?_
    exact wk (hmx4 γ147 trivial) [1, 2, 15] [[_], [_], [_]] [0, 1, 2] rfl rfl
  refine any_fork [0, 1, 7] (by kernel_rfl) (by simp) (each_cons _ rfl ?_ (each_cons _ rfl ?_ (each_cons _ rfl ?_ (each_nil))))
  ·
   refine qo0 1 [(0, .go (owns 0 0 1))] [1] [(15, .agg #[.slice (some ⟨γ4 0, 0, none⟩) 2 2])] ?_
   refine od_ ?_
   exact wk (hmx1 () trivial) [1, 15] [[_], [_]] [0, 1] rfl rfl
  ·
   refine cD (.agg #[.int .u64 0, .int .u64 0, .int .u64 30]) Try.call32 (fun w hw => over_t 0 30 w) ?_
   refine od_ ?_
   refine tk (m := 8) [2] [] [1] [(17, .agg #[.int .i64 3, .int .i64 1, .int .u64 0, .int .u64 0, .int .u64 30])] ([]) #[false, true, true, false, false, false, false, false, false, false] al0 ?_
   exact wk (hmx3 () trivial) [1, 17] [[_], [_]] [0, 1] rfl rfl
  ·
   refine mo0 1 [] [1] (fun γ147 => [(2, .pointer (some ⟨γ147 0, 0, none⟩))]) (fun γ147 L => bx (γ147 0) (#[.slice none 0 0]) 24 :: L) (fun γ147 => ?_)
   refine od_ ?_
   exact wk (hmx2 γ147 trivial) [1, 2] [[_], [_], [_]] [0, 1, 2] rfl rfl
 rintro ⟨Y67, c67, n67, q67, γ147⟩ ⟨hO67, hcn67, hl67⟩
 refine any_nil (by kernel_rfl) ?_
 refine ds_ (sq_ (ao_ (mo0 2 [(0, .go (owns 1 0 1))] [2, 3] (fun γ260 => [(22, .agg #[.slice (some ⟨γ4 0, 0, none⟩) 2 2]), (23, .slice (some ⟨γ260 0, 0, none⟩) 1 1)]) (fun γ260 L => bx (γ260 0) (#[.int .i64 2]) 3 :: L) (fun γ260 => cP (fun v L' => ∃ q_ n_ c_ Y_, v = .tuple #[.agg #[.slice q_ n_ c_], .int .i64 0] ∧ L' = List.take 4 (bx (γ260 0) (#[.int .i64 2]) 3 :: bx (γ147 0) (#[.slice q67 n67 c67]) 24 :: bx (γ4 1) (#[.slice (some ⟨γ4 0, 0, none⟩) 2 2]) 24 :: bx (γ4 0) (#[.int .i64 1, .int .i64 1, .int .u64 0, .int .u64 100, .int .u64 10, .int .i64 2, .int .i64 2, .int .u64 0, .int .u64 300, .int .u64 20]) 35 :: (Y67 ++ [])) ++ (Y_ ++ List.drop 4 (bx (γ260 0) (#[.int .i64 2]) 3 :: bx (γ147 0) (#[.slice q67 n67 c67]) 24 :: bx (γ4 1) (#[.slice (some ⟨γ4 0, 0, none⟩) 2 2]) 24 :: bx (γ4 0) (#[.int .i64 1, .int .i64 1, .int .u64 0, .int .u64 100, .int .u64 10, .int .i64 2, .int .i64 2, .int .u64 0, .int .u64 300, .int .u64 20]) 35 :: (Y67 ++ []))) ∧ SlO 35 Y_ q_ n_ c_ ([(⟨1, 1, 0, 100, 10⟩ : Rn), (⟨2, 2, 0, 320, 20⟩ : Rn)] : List Rn)) Try.call16 (fun w hw => (run_t (some ⟨γ4 0, 0, none⟩) 2 2 [(⟨1, 1, 0, 100, 10⟩ : Rn), (⟨2, 2, 0, 300, 20⟩ : Rn)] (some ⟨γ260 0, 0, none⟩) 1 1 [2] 10 w (sv_row (hw.row 3 rfl) rfl) rfl (by decide) lit_U0 (sv_row (hw.row 0 rfl) rfl) rfl (by decide)).mono fun e w' ⟨q_, n_, c_, Y_, he, hO, hb, hY⟩ => by rw [show runV [(⟨1, 1, 0, 100, 10⟩ : Rn), (⟨2, 2, 0, 300, 20⟩ : Rn)] [2] 10 = (([(⟨1, 1, 0, 100, 10⟩ : Rn), (⟨2, 2, 0, 320, 20⟩ : Rn)] : List Rn), 0) from by kernel_rfl] at he hO; exact ⟨_, _, he, ⟨q_, n_, c_, Y_, rfl, rfl, hO⟩, hw.join hb hY 4⟩) ?_))))
 rintro v261 L261 ⟨q261, n261, c261, Y261, rfl, rfl, hO261⟩
 have hl261 := hO261.len
 have hcn261 : n261 = 2 := hO261.len
 refine mo0 6 [(7, .go (owns 0 0 1))] [2, 3] (fun γ262 => [(4, .pointer (some ⟨γ262 0, 0, none⟩)), (5, .int .i64 0)]) (fun γ262 L => bx (γ262 0) (#[.slice q261 n261 c261]) 24 :: L) (fun γ262 => on_ (ds_ (sq_ (ao_ (qo0 1 [(0, .go (owns 2 0 1))] [3, 4, 5] [(28, .agg #[.slice q67 n67 c67])] (cD (.tuple #[.agg #[.int .i64 3, .int .i64 1, .int .u64 0, .int .u64 360, .int .u64 30], .bool true]) Try.call11 (fun w hw => by have := getq_t q67 n67 c67 ([(⟨1, 1, 0, 100, 10⟩ : Rn), (⟨2, 2, 0, 300, 20⟩ : Rn), (⟨3, 1, 0, 360, 30⟩ : Rn)] : List Rn) 3 w (hO67.atN (A := (_ :: _ :: _ :: _ :: _ :: Y261)) hw) hO67.len (by omega) lit_U1 (by decide) (by decide); rw [show getQ ([(⟨1, 1, 0, 100, 10⟩ : Rn), (⟨2, 2, 0, 300, 20⟩ : Rn), (⟨3, 1, 0, 360, 30⟩ : Rn)] : List Rn) 3 = some (⟨3, 1, 0, 360, 30⟩ : Rn) from by kernel_rfl] at this; exact this) (mo0 6 [(6, .go (owns 0 0 5))] [3, 4, 5] (fun γ264 => [(6, .pointer (some ⟨γ264 0, 0, none⟩)), (7, .bool true)]) (fun γ264 L => bx (γ264 0) (#[.int .i64 3, .int .i64 1, .int .u64 0, .int .u64 360, .int .u64 30]) 35 :: L) (fun γ264 => on_ (ds_ (sq_ ?_))))))))))
 refine at_calm rfl (by kernel_rfl) (by kernel_rfl) ?_
 refine cm 12 [(11, .go (owns 0 2 3))] [4] [(41, .bool true), (43, .agg #[.int .u64 0, .int .u64 360, .int .u64 30])] ([]) (by kernel_rfl) rfl al0 ?_
 refine cK (.agg #[.int .u64 0, .int .u64 360, .int .u64 30]) Try.call32 (fun w hw => over_t 360 30 w) ?_
 have hln267 := hO261.len
 obtain ⟨g267, cs267, rfl, rfl, hOw267⟩ := hO261.rowOf (i := 1) (by omega)
 refine cm 14 [(13, .eqs true), (17, .go (owns 1 0 1)), (19, .yes), (23, .go (owns 1 0 1)), (24, .at g267 0 1), (26, .go (ownps 6 (0 + 1 * 5 + 2) [.int .u64 0, .int .u64 320, .int .u64 20]))] [] [(53, .bool true), (58, .agg #[.int .u64 0, .int .u64 320, .int .u64 20])] ([EqRun Try.prog .eql 33 (.tmp 43) (.tmp 44) (.agg #[.int .u64 0, .int .u64 360, .int .u64 30]) (.agg #[.int .u64 0, .int .u64 360, .int .u64 30]) true] ++ ([((n261 : Nat) : Int) = (2 : Int)] ++ ([(some ⟨g267, 0, none⟩ : Option Addr) = some ⟨g267, 0, none⟩, 1 = ((1 : Nat) : Int), 1 < n261] ++ (acellsP cs267 (0 + 1 * 5 + 2) [.int .u64 0, .int .u64 320, .int .u64 20])))) (by kernel_rfl) rfl (alA (al1 (fq_eq_t (a := (⟨0, 360, 30⟩ : Fq)) (b := (⟨0, 360, 30⟩ : Fq)) rfl)) (alA (al1 (by rw [hl261]; rfl)) (alA (al2 rfl (al2 rfl (al1 (by omega)))) (rda_part (hOw267.rdx hO261.len (show ([(⟨1, 1, 0, 100, 10⟩ : Rn), (⟨2, 2, 0, 320, 20⟩ : Rn)] : List Rn)[1]? = some (⟨2, 2, 0, 320, 20⟩ : Rn) from rfl)) 2 _ rfl)))) ?_
 refine cK (.agg #[.int .u64 0, .int .u64 320, .int .u64 20]) Try.call32 (fun w hw => over_t 320 20 w) ?_
 refine cm 3 [(28, .eqs true)] [] [(0, .bool true)] ([EqRun Try.prog .eql 33 (.tmp 58) (.tmp 59) (.agg #[.int .u64 0, .int .u64 320, .int .u64 20]) (.agg #[.int .u64 0, .int .u64 320, .int .u64 20]) true]) (by kernel_rfl) rfl (al1 (fq_eq_t (a := (⟨0, 320, 20⟩ : Fq)) (b := (⟨0, 320, 20⟩ : Fq)) rfl)) ?_
 refine calm_nil' ?_
 refine ds_ (rt ([]) (.bool true) ?_)
 exact fun w' hw => ⟨rfl, hw.below⟩
end Go.Proofs.Ytnhkecfapohlgaa

/-! What is shortened, what is named. -/
namespace Go.Proofs.Ytnhkecfapohlgaa
open Go Go.RowKit

set_option maxRecDepth 100000 in
theorem rcopy_t (p : Option Addr) (n cap : Nat) (ts : List Rn) (w : World)
 (hts : Sv w p ts) (hn : n = ts.length) (hb : n ≤ 1000)
 : Calls Try.prog 33 #[.agg #[.slice p n cap]] w fun e w' => ∃ q' n' c' Y, e = .returned (.agg #[.slice q' n' c']) ∧ SlO 35 Y q' n' c' ts ∧ Below w.heap.size w w' ∧ Hs w Y w' := by
 refine enter (Hs.start w) Try.func33 rfl Try.ntmps33 rfl (sq_ (ma0 [] [] (fun γ1 => [(1, .pointer (some ⟨γ1 0, 0, none⟩)), (2, .pointer (some ⟨γ1 1, 0, none⟩))]) (fun γ1 L => bx (γ1 1) (#[.slice none 0 0]) 24 :: bx (γ1 0) (#[.slice p n cap]) 24 :: L) (fun γ1 => ds_ (sq_ (ao_ (mo0 3 [(2, .go (owns 2 0 1))] [2] (fun γ2 => [(3, .slice (some ⟨γ2 0, 0, none⟩) 0 0), (5, .slice p n cap)]) (fun γ2 L => bx (γ2 0) (#[]) 35 :: L) (fun γ2 => ops_append (α := Rn) [bx (γ1 1) (#[.slice none 0 0]) 24, bx (γ1 0) (#[.slice p n cap]) 24] ([bx (γ2 0) (#[]) 35]) ([]) (mvE rfl) rfl (by kernel_rfl) (by kernel_rfl) (p := (some ⟨γ2 0, 0, none⟩)) (n := 0) (cap := 0) (m := n) (yv := .slice p n cap) (by kernel_rfl) (by kernel_rfl) (T := 35) (by_ := 40) (by kernel_rfl) ([]) ts (SlO.lit (by rfl) (by rfl) (by simp [maxLen])) (fun w hw => src_svn Try.underlying22 (hts.kept hw.below) hn) hn (by have hmx : maxLen = 9223372036854775807 := rfl; omega) (by have hmx : maxLen = 9223372036854775807 := rfl; omega) (fun Y3 p3 cap3 hO3 => mo0 2 [(5, .go (owns 0 0 1))] [2] (fun _ => []) (fun _ L => (L.set 0 (bx (γ1 1) (#[.slice p3 (0 + n) cap3]) 24))) (fun _ => on_ (ds_ (rt (owns 0 0 1) (.agg #[.slice p3 (0 + n) cap3]) ?_)))))))))))
 exact fun w' hw => ⟨_, _, _, _, rfl, SlO.asE hO3 (by rw [List.nil_append]), hw.below, one_tail (Hs.pick [[bx (γ1 1) (#[.slice p3 (0 + n) cap3]) 24], [bx (γ1 0) (#[.slice p n cap]) 24], Y3] [2] [0, 1] (by kernel_rfl) hw)⟩

set_option maxRecDepth 100000 in
theorem short_t (p : Option Addr) (n cap : Nat) (ts : List Rn) (w : World)
 (hts : Sv w p ts) (hn : n = ts.length) (hcp : n ≤ cap) (hb : n ≤ 9223372036854775807)
 : Calls Try.prog 10 #[.agg #[.slice p n cap]] w fun e w' => ∃ q' n' c' Y, e = .returned (.agg #[.slice q' n' c']) ∧ SlO 35 Y q' n' c' (ts.take 17) ∧ Below w.heap.size w w' ∧ Hs w Y w' := by
 refine enter (Hs.start w) Try.func10 rfl Try.ntmps10 rfl (sq_ (ma0 [] [] (fun γ1 => [(1, .pointer (some ⟨γ1 0, 0, none⟩)), (2, .pointer (some ⟨γ1 1, 0, none⟩))]) (fun γ1 L => bx (γ1 1) (#[.slice none 0 0]) 24 :: bx (γ1 0) (#[.slice p n cap]) 24 :: L) (fun γ1 => ds_ (sq_ (ao_ (qo 8 [(1, .go (owns 1 0 1)), (3, .go (owns 1 0 1)), (6, .sl (.slice p (min n 17) cap))] [2] [(10, .agg #[.slice p (min n 17) cap])] ([SlRun Try.prog 22 (.slice p n cap) none (some (.int .i64 (if (17 : Int) < ((n : Nat) : Int) then 17 else (n : Nat)))) none (.slice p (min n 17) cap)]) (al1 (by rw [min_if17]; exact slE_hi (P := Try.prog) (h := (min n 17)) (T := 22) (e := 35) (k := 5) (by_ := 40) (by kernel_rfl) (by omega))) (cP (fun v L' => ∃ q_ n_ c_ Y_, v = .agg #[.slice q_ n_ c_] ∧ L' = List.take 2 ([bx (γ1 1) (#[.slice none 0 0]) 24, bx (γ1 0) (#[.slice p n cap]) 24]) ++ (Y_ ++ List.drop 2 ([bx (γ1 1) (#[.slice none 0 0]) 24, bx (γ1 0) (#[.slice p n cap]) 24])) ∧ SlO 35 Y_ q_ n_ c_ (ts.take (min n 17))) Try.call33 (fun w hw => (rcopy_t p (min n 17) cap (ts.take (min n 17)) w ((hts.kept hw.below).take (min n 17)) (by rw [List.length_take]; omega) (by omega)).mono fun e w' ⟨q_, n_, c_, Y_, he, hO, hb, hY⟩ => ⟨_, _, he, ⟨q_, n_, c_, Y_, rfl, rfl, hO⟩, hw.join hb hY 2⟩) ?_)))))))
 rintro v3 L3 ⟨q3, n3, c3, Y3, rfl, rfl, hO3⟩
 refine mo0 1 [(9, .go (owns 0 0 1))] [2] (fun _ => []) (fun _ L => (L.set 0 (bx (γ1 1) (#[.slice q3 n3 c3]) 24))) (fun _ => on_ (ds_ (rt (owns 0 0 1) (.agg #[.slice q3 n3 c3]) ?_)))
 exact fun w' hw => ⟨_, _, _, _, rfl, SlO.asE hO3 (take_min hn), hw.below, one_tail (Hs.pick [[bx (γ1 1) (#[.slice q3 n3 c3]) 24], [bx (γ1 0) (#[.slice p n cap]) 24], Y3] [2] [0, 1] (by kernel_rfl) hw)⟩

end Go.Proofs.Ytnhkecfapohlgaa
