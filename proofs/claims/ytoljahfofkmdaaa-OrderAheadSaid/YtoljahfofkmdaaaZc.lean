/- Texts of this proof, one behind the other. -/
import Derived.Test.YtoljahfofkmdaaaZb
import Derived.Test.YtoljahfofkmdaaaZa
import Derived.Test.YtoljahfofkmdaaaProg
import Derived.Scope
import Derived.Shelf.SlSortCmp.NoneTotal
/-! Fractions: which may be, how they stand. -/
namespace Go.Proofs.Ytoljahfofkmdaaa
open Go Go.RowKit

set_option maxRecDepth 100000 in
theorem weight_t (x : Int) (w : World)
 : Calls Try.prog 65 #[.int .u64 x] w fun e w' => e = .returned (.bool (wB x)) ∧ Below w.heap.size w w' := by
 refine enter (Hs.start w) Try.func65 rfl Try.ntmps65 rfl (sq_ (qa0 [] [0] [] (ds_ (sq_ ?_))))
 by_cases q3 : (x : Int) ≥ (1 : Int)
 ·
  by_cases q5 : (x : Int) ≤ (65535 : Int)
  ·
   refine qa [(1, .yes), (4, .yes)] [] [(2, .bool true)] ([(x : Int) ≥ (1 : Int)] ++ ([(x : Int) ≤ (65535 : Int)])) (alA (al1 q3) (al1 q5)) (ds_ (rt ([]) (.bool true) ?_))
   exact fun w' hw => ⟨by rw [show wB x = true from by simp only [wB, decide_eq_true_eq]; omega], hw.below⟩
  ·
   refine qa [(1, .yes), (4, .no)] [] [(2, .bool false)] ([(x : Int) ≥ (1 : Int)] ++ ([¬ ((x : Int) ≤ (65535 : Int))])) (alA (al1 q3) (al1 q5)) (ds_ (rt ([]) (.bool false) ?_))
   exact fun w' hw => ⟨by rw [show wB x = false from by simp only [wB, decide_eq_false_iff_not]; omega], hw.below⟩
 ·
  refine qa [(1, .no)] [] [(2, .bool false)] ([¬ ((x : Int) ≥ (1 : Int))]) (al1 q3) (ds_ (rt ([]) (.bool false) ?_))
  exact fun w' hw => ⟨by rw [show wB x = false from by simp only [wB, decide_eq_false_iff_not]; omega], hw.below⟩

set_option maxRecDepth 100000 in
theorem right_t (p : Option Addr) (n cap : Nat) (l : List Fq) (w : World)
 (hsl : Sv w p l) (hn : n = l.length) (hb : n ≤ 1000)
 : Calls Try.prog 45 #[.slice p n cap] w fun e w' => e = .returned (.bool (l.all Fq.ok)) ∧ Below w.heap.size w w' := by
 refine enter (Hs.start w) Try.func45 rfl Try.ntmps45 rfl (sq_ (qa0 [] [0] [] (ds_ (sq_ (sq_ (qa0 [] [] [(5, .slice p n cap), (6, .int .i64 (n : Nat)), (7, .int .i64 0)] (ds_ (at_block (at_loop (α := Nat) [5, 6, 7] (fun j => [(5, .slice p n cap), (6, .int .i64 (n : Nat)), (7, .int .i64 (j : Nat))]) (fun j => []) (fun j => j ≤ n ∧ ∀ y ∈ l.take j, y.ok = true) (fun j => n - j) 0 (by kernel_rfl) rfl ⟨Nat.zero_le _, all_take0T⟩ ?_)))))))))
 rintro j
 rintro ⟨hj, hI⟩
 refine sq_ ?_
 by_cases q4 : ((j : Nat) : Int) < ((n : Nat) : Int)
 ·
  refine qa [(0, .yes)] [5, 6, 7] [(8, .bool true)] ([((j : Nat) : Int) < ((n : Nat) : Int)]) (al1 q4) (ds_ (sq_ (t_ (at_skip (ds_ (sq_ (at_block (sq_ ?_))))))))
  obtain ⟨b7, o7, rfl⟩ := hsl.pos (i := j) (by omega)
  obtain ⟨x9, hx9⟩ := get_some (l := l) (m := j) (by omega)
  refine ma [(0, .at b7 o7 j), (1, .go (outs b7 (o7 + j * 3) [.int .u64 x9.hi, .int .u64 x9.lo, .int .u64 x9.w])), (3, .go (owns 0 0 3))] [5, 6, 7] (fun γ10 => [(4, .pointer (some ⟨γ10 0, 0, none⟩))]) (fun γ10 L => bx (γ10 0) (#[.int .u64 x9.hi, .int .u64 x9.lo, .int .u64 x9.w]) 45 :: L) (fun γ10 => [(some ⟨b7, o7, none⟩ : Option Addr) = some ⟨b7, o7, none⟩, (j : Nat) = ((j : Nat) : Int), j < n] ++ (cellsP w b7 (o7 + j * 3) [.int .u64 x9.hi, .int .u64 x9.lo, .int .u64 x9.w])) (fun γ10 => (alA (al2 rfl (al2 rfl (al1 (by omega)))) (rd_pre (hsl.get hx9) _ rfl))) (fun γ10 => ds_ (sq_ (ao_ (qo0 2 [(1, .go (owns 0 2 1))] [4, 5, 6, 7] [(12, .int .u64 x9.w)] ?_))))
  rcases q12 : wB x9.w with _ | _
  ·
   refine cD (.bool false) Try.call65 (fun w hw => by have := weight_t x9.w w; rw [q12] at this; exact this) (qo0 7 [] [5, 6, 7] [(20, .bool true)] (on_ (ds_ (t_ (sq_ (qa0 [] [] [(2, .bool false)] (ds_ (rt ([]) (.bool false) ?_))))))))
   exact fun w' hw => ⟨by rw [allF_no hx9 (ok_noW q12)], hw.below⟩
  ·
   refine cD (.bool true) Try.call65 (fun w hw => by have := weight_t x9.w w; rw [q12] at this; exact this) ?_
   by_cases q16 : (x9.hi : Int) ≥ (68719476736 : Int)
   ·
    refine qo 7 [(7, .go (owns 0 0 1)), (8, .yes)] [5, 6, 7] [(20, .bool true)] ([(x9.hi : Int) ≥ (68719476736 : Int)]) (al1 q16) (on_ (ds_ (t_ (sq_ (qa0 [] [] [(2, .bool false)] (ds_ (rt ([]) (.bool false) ?_)))))))
    exact fun w' hw => ⟨by rw [allF_no hx9 (ok_noH (by omega))], hw.below⟩
   ·
    refine qo 7 [(7, .go (owns 0 0 1)), (8, .no)] [5, 6, 7] [(20, .bool false)] ([¬ ((x9.hi : Int) ≥ (68719476736 : Int))]) (al1 q16) (on_ (ds_ (f_ (at_skip (done_block (ds_ (qa [(0, .fit)] [5, 6] [(7, .int .i64 (j + 1 : Nat))] ([Fit .i64 ((j + 1 : Nat))]) (al1 (fit64 (by omega) (by omega))) (Done.drop (L' := []) ?_ (List.Sublist.cons _ (List.Sublist.refl _))))))))))
    exact dr [5, 6, 7] (j + 1) ⟨by omega, all_onT hI hx9 (ok_yesW q12 (by omega))⟩
 ·
  refine qa [(0, .no)] [5, 6, 7] [(8, .bool false)] ([¬ (((j : Nat) : Int) < ((n : Nat) : Int))]) (al1 q4) (ds_ (sq_ (f_ (at_leave _ rfl (ds_ (sq_ (qa0 [] [] [(2, .bool true)] (ds_ (rt ([]) (.bool true) ?_)))))))))
  exact fun w' hw => ⟨by rw [allF_yes hI (by omega)], hw.below⟩

set_option maxRecDepth 100000 in
theorem fcheck_t (a : Fq) (w : World)
 : Calls Try.prog 19 #[.agg #[.int .u64 a.hi, .int .u64 a.lo, .int .u64 a.w]] w fun e w' => e = .returned (.int .i64 (if a.ok = true then 0 else 150)) ∧ Below w.heap.size w w' := by
 refine enter (Hs.start w) Try.func19 rfl Try.ntmps19 rfl (sq_ (ma0 [] [] (fun γ1 => [(1, .pointer (some ⟨γ1 0, 0, none⟩))]) (fun γ1 L => bx (γ1 0) (#[.int .u64 a.hi, .int .u64 a.lo, .int .u64 a.w]) 45 :: L) (fun γ1 => ds_ (sq_ (sq_ (ao_ (mo0 2 [(0, .go (owns 0 0 3))] [] (fun γ2 => [(4, .slice (some ⟨γ2 0, 0, none⟩) 1 1)]) (fun γ2 L => bx (γ2 0) (#[.int .u64 a.hi, .int .u64 a.lo, .int .u64 a.w]) 45 :: L) (fun γ2 => ?_))))))))
 rcases q3 : a.ok with _ | _
 ·
  refine cD (.bool false) Try.call45 (fun w hw => by have := right_t (some ⟨γ2 0, 0, none⟩) 1 1 [a] w (sv_row (hw.row 0 rfl) rfl) rfl (by decide); rw [all1, q3] at this; exact this) (qo0 1 [] [] [(6, .bool true)] (on_ (ds_ (t_ (sq_ (qa0 [] [] [(2, .int .i64 150)] (ds_ (rt ([]) (.int .i64 150) ?_))))))))
  exact fun w' hw => ⟨rfl, hw.below⟩
 ·
  refine cD (.bool true) Try.call45 (fun w hw => by have := right_t (some ⟨γ2 0, 0, none⟩) 1 1 [a] w (sv_row (hw.row 0 rfl) rfl) rfl (by decide); rw [all1, q3] at this; exact this) (qo0 1 [] [] [(6, .bool false)] (on_ (ds_ (f_ (at_skip (ds_ (sq_ (qa0 [] [] [(2, .int .i64 0)] (ds_ (rt ([]) (.int .i64 0) ?_))))))))))
  exact fun w' hw => ⟨rfl, hw.below⟩

set_option maxRecDepth 100000 in
theorem times_t (a : Fq) (m : Int) (w : World)
 (hU : a.U) (hk : a.ok = true) (hm : wB m = true)
 : Calls Try.prog 47 #[.agg #[.int .u64 a.hi, .int .u64 a.lo], .int .u64 m] w fun e w' => e = .returned (iv (hiV (a.num * m)) (loV (a.num * m))) ∧ Below w.heap.size w w' := by
 refine enter (Hs.start w) Try.func47 rfl Try.ntmps47 rfl (sq_ (ma0 [] [1] (fun γ1 => [(2, .pointer (some ⟨γ1 0, 0, none⟩)), (4, .pointer (some ⟨γ1 1, 0, none⟩))]) (fun γ1 L => bx (γ1 1) (#[.int .u64 0, .int .u64 0]) 43 :: bx (γ1 0) (#[.int .u64 a.hi, .int .u64 a.lo]) 43 :: L) (fun γ1 => ds_ (sq_ (ao_ (qo0 2 [(0, .go (owns 1 0 2))] [4] [(8, .agg #[.int .u64 a.hi, .int .u64 a.lo]), (9, .int .u64 m)] (cD (.tuple #[.agg #[.int .u64 (hiV (a.num * m)), .int .u64 (loV (a.num * m))], .int .i64 0]) Try.call66 (fun w hw => ftimes_v hU hk hm w) (mo0 6 [(7, .go (owns 0 0 2))] [4] (fun γ3 => [(5, .pointer (some ⟨γ3 0, 0, none⟩))]) (fun γ3 L => bx (γ3 0) (#[.int .u64 (hiV (a.num * m)), .int .u64 (loV (a.num * m))]) 43 :: L) (fun γ3 => on_ (ds_ (sq_ (ma0 [(0, .go (owns 0 0 2)), (1, .go (owns 1 0 2))] [4] (fun _ => []) (fun _ L => (L.set 1 (bx (γ1 1) (#[.int .u64 (hiV (a.num * m)), .int .u64 (loV (a.num * m))]) 43))) (fun _ => ds_ (rt (owns 1 0 2) (.agg #[.int .u64 (hiV (a.num * m)), .int .u64 (loV (a.num * m))]) ?_))))))))))))))
 exact fun w' hw => ⟨rfl, hw.below⟩

set_option maxRecDepth 100000 in
theorem fcmp_t (a b : Fq) (w : World)
 (hU : a.U) (hV : b.U)
 : Calls Try.prog 17 #[.agg #[.int .u64 a.hi, .int .u64 a.lo, .int .u64 a.w], .agg #[.int .u64 b.hi, .int .u64 b.lo, .int .u64 b.w]] w fun e w' => e = .returned (.int .i64 (cmpF a b)) ∧ Below w.heap.size w w' := by
 refine enter (Hs.start w) Try.func17 rfl Try.ntmps17 rfl (sq_ (ma0 [] [] (fun γ1 => [(2, .pointer (some ⟨γ1 0, 0, none⟩)), (3, .pointer (some ⟨γ1 1, 0, none⟩))]) (fun γ1 L => bx (γ1 1) (#[.int .u64 b.hi, .int .u64 b.lo, .int .u64 b.w]) 45 :: bx (γ1 0) (#[.int .u64 a.hi, .int .u64 a.lo, .int .u64 a.w]) 45 :: L) (fun γ1 => ds_ (sq_ (sq_ (ao_ (mo0 3 [(0, .go (owns 1 0 3)), (1, .go (owns 0 0 3))] [2, 3] (fun γ2 => [(7, .slice (some ⟨γ2 0, 0, none⟩) 2 2)]) (fun γ2 L => bx (γ2 0) (#[.int .u64 a.hi, .int .u64 a.lo, .int .u64 a.w, .int .u64 b.hi, .int .u64 b.lo, .int .u64 b.w]) 45 :: L) (fun γ2 => ?_))))))))
 rcases q3 : (a.ok && b.ok) with _ | _
 ·
  refine cD (.bool false) Try.call45 (fun w hw => by have := right_t (some ⟨γ2 0, 0, none⟩) 2 2 [a, b] w (sv_row (hw.row 0 rfl) rfl) rfl (by decide); rw [all2, q3] at this; exact this) (qo0 1 [] [2, 3] [(9, .bool true)] (on_ (ds_ (t_ (sq_ (qa0 [] [] [(4, .int .i64 0)] (ds_ (rt ([]) (.int .i64 0) ?_))))))))
  exact fun w' hw => ⟨by rw [cmpF_no q3], hw.below⟩
 ·
  refine cD (.bool true) Try.call45 (fun w hw => by have := right_t (some ⟨γ2 0, 0, none⟩) 2 2 [a, b] w (sv_row (hw.row 0 rfl) rfl) rfl (by decide); rw [all2, q3] at this; exact this) (qo0 1 [] [2, 3] [(9, .bool false)] (on_ (ds_ (f_ (at_skip (ds_ (sq_ ?_)))))))
  refine at_calm rfl (by kernel_rfl) (by kernel_rfl) ?_
  refine cm 4 [(1, .go (owns 2 0 2)), (3, .go (owns 1 2 1))] [2, 3] [(11, .agg #[.int .u64 a.hi, .int .u64 a.lo]), (13, .int .u64 b.w)] ([]) (by kernel_rfl) rfl al0 ?_
  refine cK (.agg #[.int .u64 (hiV (a.num * b.w)), .int .u64 (loV (a.num * b.w))]) Try.call47 (fun w hw => times_t a b.w w hU (and_l q3) (wB_of (and_r q3))) ?_
  refine cm 4 [(6, .go (owns 1 0 2)), (8, .go (owns 2 2 1))] [14] [(16, .agg #[.int .u64 b.hi, .int .u64 b.lo]), (18, .int .u64 a.w)] ([]) (by kernel_rfl) rfl al0 ?_
  refine cK (.agg #[.int .u64 (hiV (b.num * a.w)), .int .u64 (loV (b.num * a.w))]) Try.call47 (fun w hw => times_t b a.w w hV (and_r q3) (wB_of (and_l q3))) ?_
  refine cK (.int .i64 (cmpI (a.num * b.w) (b.num * a.w))) Try.call46 (fun w hw => wcmp_v (Int.mul_nonneg hU.n0 hV.w0) (Int.mul_nonneg hV.n0 hU.w0) w) ?_
  refine cm 1 [] [] [(4, .int .i64 (cmpI (a.num * b.w) (b.num * a.w)))] ([]) (by kernel_rfl) rfl al0 ?_
  refine calm_nil' ?_
  refine ds_ (rt ([]) (.int .i64 (cmpI (a.num * b.w) (b.num * a.w))) ?_)
  exact fun w' hw => ⟨by rw [cmpF_yes q3], hw.below⟩
end Go.Proofs.Ytoljahfofkmdaaa

/-! Fractions: what is reckoned with them. -/
namespace Go.Proofs.Ytoljahfofkmdaaa
open Go Go.RowKit
end Go.Proofs.Ytoljahfofkmdaaa

/-! Queues: which may be; which are one. -/
namespace Go.Proofs.Ytoljahfofkmdaaa
open Go Go.RowKit
section
variable {P : Program} {ρ : Operand → Value} {T U : TypeId} {x y : Operand} {a b : Int} {o : Oper}
end
theorem fq_eqRun (op : BinOp) (hop : op = .eql ∨ op = .neq) (x y : Operand) (a b : Fq) (r : Bool) (hr : r = (if op = .eql then decide (a = b) else !decide (a = b))) : EqRun Try.prog op 45 x y (.agg #[.int .u64 a.hi, .int .u64 a.lo, .int .u64 a.w]) (.agg #[.int .u64 b.hi, .int .u64 b.lo, .int .u64 b.w]) r := by
 intro w
 subst hr
 have hS : Try.prog.underlying 45 = some (.struct (Try.prog.fieldsOf 45)) := by kernel_rfl
 have hp : Try.prog.stoodInHeld 45 = false := by kernel_rfl
 have hg : Try.prog.eqGuardType Try.prog.depth 45 = false := by kernel_rfl
 have key : (Op.equal 45 (.agg #[.int .u64 a.hi, .int .u64 a.lo, .int .u64 a.w]) (.agg #[.int .u64 b.hi, .int .u64 b.lo, .int .u64 b.w])).run Try.prog w = .ok (decide (a = b)) w := by
  unfold Op.equal
  rw [show Op.maxDepth = 9999 + 1 from rfl, run_equalIn_struct w 9999 45 _ _ hS hp]
  simp only [Program.fieldsOf, Try.underlying45]
  go_simp
  obtain ⟨a0, a1, a2⟩ := a
  obtain ⟨b0, b1, b2⟩ := b
  simp only [Fq.mk.injEq]
  by_cases h0 : a0 = b0 <;> by_cases h1 : a1 = b1 <;> by_cases h2 : a2 = b2 <;> simp [h0, h1, h2]
 have guard : (eqGuard op 45 x y (.agg #[.int .u64 a.hi, .int .u64 a.lo, .int .u64 a.w]) (.agg #[.int .u64 b.hi, .int .u64 b.lo, .int .u64 b.w])).run Try.prog w = .ok () w := by
  unfold eqGuard
  rcases hop with rfl | rfl <;> simp [hg]
 rw [Sem.run_bind, guard]
 simp only [Result.andThen_ok]
 rcases hop with rfl | rfl <;> simp [binOp, Sem.run_bind, key]
theorem fq_ne_t {x y : Operand} {a b : Fq} (h : a = b) : EqRun Try.prog .neq 45 x y (.agg #[.int .u64 a.hi, .int .u64 a.lo, .int .u64 a.w]) (.agg #[.int .u64 b.hi, .int .u64 b.lo, .int .u64 b.w]) false := fq_eqRun _ (.inr rfl) x y a b _ (by simp [h])
theorem fq_ne_f {x y : Operand} {a b : Fq} (h : ¬ a = b) : EqRun Try.prog .neq 45 x y (.agg #[.int .u64 a.hi, .int .u64 a.lo, .int .u64 a.w]) (.agg #[.int .u64 b.hi, .int .u64 b.lo, .int .u64 b.w]) true := fq_eqRun _ (.inr rfl) x y a b _ (by simp [h])

set_option maxRecDepth 100000 in
theorem id_t (k : Int) (w : World)
 : Calls Try.prog 84 #[.int .i64 k] w fun e w' => e = .returned (.bool (idV k)) ∧ Below w.heap.size w w' := by
 refine enter (Hs.start w) Try.func84 rfl Try.ntmps84 rfl (sq_ (qa0 [] [0] [] (ds_ (sq_ ?_))))
 by_cases q3 : (k : Int) ≥ (1 : Int)
 ·
  by_cases q5 : (k : Int) ≤ (16 : Int)
  ·
   refine qa [(1, .yes), (4, .yes)] [] [(2, .bool true)] ([(k : Int) ≥ (1 : Int)] ++ ([(k : Int) ≤ (16 : Int)])) (alA (al1 q3) (al1 q5)) (ds_ (rt ([]) (.bool true) ?_))
   exact fun w' hw => ⟨by rw [show idV k = true from by simp only [idV, decide_eq_true_eq]; omega], hw.below⟩
  ·
   refine qa [(1, .yes), (4, .no)] [] [(2, .bool false)] ([(k : Int) ≥ (1 : Int)] ++ ([¬ ((k : Int) ≤ (16 : Int))])) (alA (al1 q3) (al1 q5)) (ds_ (rt ([]) (.bool false) ?_))
   exact fun w' hw => ⟨by rw [show idV k = false from by simp only [idV, decide_eq_false_iff_not]; omega], hw.below⟩
 ·
  refine qa [(1, .no)] [] [(2, .bool false)] ([¬ ((k : Int) ≥ (1 : Int))]) (al1 q3) (ds_ (rt ([]) (.bool false) ?_))
  exact fun w' hw => ⟨by rw [show idV k = false from by simp only [idV, decide_eq_false_iff_not]; omega], hw.below⟩

set_option maxRecDepth 100000 in
theorem each_t (k : Int) (w : World)
 : Calls Try.prog 85 #[.int .i64 k] w fun e w' => e = .returned (.bool (eachV k)) ∧ Below w.heap.size w w' := by
 refine enter (Hs.start w) Try.func85 rfl Try.ntmps85 rfl (sq_ (qa0 [] [0] [] (ds_ (sq_ ?_))))
 by_cases q3 : (k : Int) ≥ (1 : Int)
 ·
  by_cases q5 : (k : Int) ≤ (8 : Int)
  ·
   refine qa [(1, .yes), (4, .yes)] [] [(2, .bool true)] ([(k : Int) ≥ (1 : Int)] ++ ([(k : Int) ≤ (8 : Int)])) (alA (al1 q3) (al1 q5)) (ds_ (rt ([]) (.bool true) ?_))
   exact fun w' hw => ⟨by rw [show eachV k = true from by simp only [eachV, decide_eq_true_eq]; omega], hw.below⟩
  ·
   refine qa [(1, .yes), (4, .no)] [] [(2, .bool false)] ([(k : Int) ≥ (1 : Int)] ++ ([¬ ((k : Int) ≤ (8 : Int))])) (alA (al1 q3) (al1 q5)) (ds_ (rt ([]) (.bool false) ?_))
   exact fun w' hw => ⟨by rw [show eachV k = false from by simp only [eachV, decide_eq_false_iff_not]; omega], hw.below⟩
 ·
  refine qa [(1, .no)] [] [(2, .bool false)] ([¬ ((k : Int) ≥ (1 : Int))]) (al1 q3) (ds_ (rt ([]) (.bool false) ?_))
  exact fun w' hw => ⟨by rw [show eachV k = false from by simp only [eachV, decide_eq_false_iff_not]; omega], hw.below⟩

set_option maxRecDepth 100000 in
theorem crun_t (r : Rn) (w : World)
 : Calls Try.prog 62 #[.agg #[.int .i64 r.id, .int .i64 r.each, .int .u64 r.th, .int .u64 r.tl, .int .u64 r.tw]] w fun e w' => e = .returned (.int .i64 (if rnB r = true then 0 else 2)) ∧ Below w.heap.size w w' := by
 refine enter (Hs.start w) Try.func62 rfl Try.ntmps62 rfl (sq_ (ma0 [] [] (fun γ1 => [(1, .pointer (some ⟨γ1 0, 0, none⟩))]) (fun γ1 L => bx (γ1 0) (#[.int .i64 r.id, .int .i64 r.each, .int .u64 r.th, .int .u64 r.tl, .int .u64 r.tw]) 67 :: L) (fun γ1 => ds_ (sq_ (sq_ (ao_ (qo0 2 [(1, .go (owns 0 0 1))] [1] [(4, .int .i64 r.id)] ?_)))))))
 rcases q3 : idV r.id with _ | _
 ·
  refine cD (.bool false) Try.call84 (fun w hw => by have := id_t r.id w; rw [q3] at this; exact this) (qo0 13 [] [] [(18, .bool true)] (on_ (ds_ (t_ (sq_ (qa0 [] [] [(2, .int .i64 2)] (ds_ (rt ([]) (.int .i64 2) ?_))))))))
  exact fun w' hw => ⟨by rw [rn_noI q3]; rfl, hw.below⟩
 ·
  refine cD (.bool true) Try.call84 (fun w hw => by have := id_t r.id w; rw [q3] at this; exact this) (qo0 4 [(6, .go (owns 0 1 1))] [1] [(7, .bool false), (9, .int .i64 r.each)] ?_)
  rcases q7 : eachV r.each with _ | _
  ·
   refine cD (.bool false) Try.call85 (fun w hw => by have := each_t r.each w; rw [q7] at this; exact this) (qo0 8 [] [] [(18, .bool true)] (on_ (ds_ (t_ (sq_ (qa0 [] [] [(2, .int .i64 2)] (ds_ (rt ([]) (.int .i64 2) ?_))))))))
   exact fun w' hw => ⟨by rw [rn_noE q7]; rfl, hw.below⟩
  ·
   refine cD (.bool true) Try.call85 (fun w hw => by have := each_t r.each w; rw [q7] at this; exact this) (qo0 5 [(12, .go (owns 0 2 3))] [] [(13, .bool false), (15, .agg #[.int .u64 r.th, .int .u64 r.tl, .int .u64 r.tw])] ?_)
   rcases q11 : r.t.ok with _ | _
   ·
    refine cD (.int .i64 150) Try.call19 (fun w hw => by have := fcheck_t r.t w; rw [q11] at this; exact this) (qo0 2 [] [] [(18, .bool true)] (on_ (ds_ (t_ (sq_ (qa0 [] [] [(2, .int .i64 2)] (ds_ (rt ([]) (.int .i64 2) ?_))))))))
    exact fun w' hw => ⟨by rw [rn_noT q11]; rfl, hw.below⟩
   ·
    refine cD (.int .i64 0) Try.call19 (fun w hw => by have := fcheck_t r.t w; rw [q11] at this; exact this) (qo0 2 [] [] [(18, .bool false)] (on_ (ds_ (f_ (at_skip (ds_ (sq_ (qa0 [] [] [(2, .int .i64 0)] (ds_ (rt ([]) (.int .i64 0) ?_))))))))))
    exact fun w' hw => ⟨by rw [rn_yes q3 q7 q11]; rfl, hw.below⟩

set_option maxRecDepth 100000 in
theorem qcheck_t (p : Option Addr) (n cap : Nat) (ts : List Rn) (w : World)
 (hts : Sv w p ts) (hn : n = ts.length) (hb : n ≤ 1000)
 : Calls Try.prog 39 #[.agg #[.slice p n cap]] w fun e w' => e = .returned (.int .i64 (if chkQ ts = true then 0 else 200)) ∧ Below w.heap.size w w' := by
 refine enter (Hs.start w) Try.func39 rfl Try.ntmps39 rfl (sq_ (ma0 [] [] (fun γ1 => [(1, .pointer (some ⟨γ1 0, 0, none⟩))]) (fun γ1 L => bx (γ1 0) (#[.slice p n cap]) 26 :: L) (fun γ1 => ds_ (sq_ (qa0 [] [1] [(3, .int .i64 0)] (ds_ (sq_ (sq_ (qa0 [(1, .go (owns 0 0 1))] [3] [(7, .slice p n cap), (8, .int .i64 (n : Nat)), (9, .int .i64 0)] (ds_ (at_block (at_loop (α := Nat × Int) [3, 7, 8, 9] (fun ⟨j, la⟩ => [(3, .int .i64 la), (7, .slice p n cap), (8, .int .i64 (n : Nat)), (9, .int .i64 (j : Nat))]) (fun ⟨j, la⟩ => [bx (γ1 0) (#[.slice p n cap]) 26]) (fun ⟨j, la⟩ => j ≤ n ∧ lastI ts j = la ∧ Ris Rn.id (ts.take j) ∧ ∀ y ∈ ts.take j, rnB y = true) (fun ⟨j, la⟩ => n - j) (0, 0) (by kernel_rfl) rfl ⟨Nat.zero_le _, rfl, ris_take0T, all_take0T⟩ ?_))))))))))))
 rintro ⟨j, la⟩
 rintro ⟨hj, hl, hR, hA⟩
 refine sq_ ?_
 by_cases q5 : ((j : Nat) : Int) < ((n : Nat) : Int)
 ·
  refine qa [(0, .yes)] [3, 7, 8, 9] [(10, .bool true)] ([((j : Nat) : Int) < ((n : Nat) : Int)]) (al1 q5) (ds_ (sq_ (t_ (at_skip (ds_ (sq_ (at_block (sq_ ?_))))))))
  obtain ⟨b8, o8, rfl⟩ := hts.pos (i := j) (by omega)
  obtain ⟨x10, hx10⟩ := get_some (l := ts) (m := j) (by omega)
  refine ma [(0, .at b8 o8 j), (1, .go (outs b8 (o8 + j * 5) [.int .i64 x10.id, .int .i64 x10.each, .int .u64 x10.th, .int .u64 x10.tl, .int .u64 x10.tw])), (3, .go (owns 0 0 5))] [3, 7, 8, 9] (fun γ11 => [(5, .pointer (some ⟨γ11 0, 0, none⟩))]) (fun γ11 L => bx (γ11 0) (#[.int .i64 x10.id, .int .i64 x10.each, .int .u64 x10.th, .int .u64 x10.tl, .int .u64 x10.tw]) 67 :: L) (fun γ11 => [(some ⟨b8, o8, none⟩ : Option Addr) = some ⟨b8, o8, none⟩, (j : Nat) = ((j : Nat) : Int), j < n] ++ (cellsP w b8 (o8 + j * 5) [.int .i64 x10.id, .int .i64 x10.each, .int .u64 x10.th, .int .u64 x10.tl, .int .u64 x10.tw])) (fun γ11 => (alA (al2 rfl (al2 rfl (al1 (by omega)))) (rd_pre (hts.get hx10) _ rfl))) (fun γ11 => ds_ (sq_ (sq_ (ao_ (qo0 1 [(0, .go (owns 0 0 5))] [3, 5, 7, 8, 9] [(13, .agg #[.int .i64 x10.id, .int .i64 x10.each, .int .u64 x10.th, .int .u64 x10.tl, .int .u64 x10.tw])] ?_)))))
  rcases q13 : rnB x10 with _ | _
  ·
   refine cD (.int .i64 2) Try.call62 (fun w hw => by have := crun_t x10 w; rw [q13] at this; exact this) (qo0 7 [] [5, 7, 8, 9] [(21, .bool true)] (on_ (ds_ (t_ (sq_ (qa0 [] [] [(2, .int .i64 200)] (ds_ (rt ([]) (.int .i64 200) ?_))))))))
   exact fun w' hw => ⟨by rw [chk_badR hx10 q13]; rfl, hw.below⟩
  ·
   refine cD (.int .i64 0) Try.call62 (fun w hw => by have := crun_t x10 w; rw [q13] at this; exact this) ?_
   by_cases q17 : (x10.id : Int) ≤ (la : Int)
   ·
    refine qo 7 [(5, .go (owns 0 0 1)), (7, .yes)] [5, 7, 8, 9] [(21, .bool true)] ([(x10.id : Int) ≤ (la : Int)]) (al1 q17) (on_ (ds_ (t_ (sq_ (qa0 [] [] [(2, .int .i64 200)] (ds_ (rt ([]) (.int .i64 200) ?_)))))))
    exact fun w' hw => ⟨by rw [chk_badL hx10 hl q13 (by omega)]; rfl, hw.below⟩
   ·
    refine qo 7 [(5, .go (owns 0 0 1)), (7, .no)] [5, 7, 8, 9] [(21, .bool false)] ([¬ ((x10.id : Int) ≤ (la : Int))]) (al1 q17) (on_ (ds_ (f_ (at_skip (ds_ (qa0 [(1, .go (owns 0 0 1))] [7, 8, 9] [(3, .int .i64 x10.id)] (done_block (ds_ (qa [(0, .fit)] [3, 7, 8] [(9, .int .i64 (j + 1 : Nat))] ([Fit .i64 ((j + 1 : Nat))]) (al1 (fit64 (by omega) (by omega))) (Done.drop (L' := [bx (γ1 0) (#[.slice (some ⟨b8, o8, none⟩) n cap]) 26]) ?_ (List.Sublist.cons _ (List.Sublist.cons_cons _ (List.Sublist.refl _)))))))))))))
    exact dr [3, 7, 8, 9] (j + 1, x10.id) ⟨by omega, last_on hx10, ris_onL hR hx10 hl (by omega), all_onT hA hx10 q13⟩
 ·
  refine qa [(0, .no)] [3, 7, 8, 9] [(10, .bool false)] ([¬ (((j : Nat) : Int) < ((n : Nat) : Int))]) (al1 q5) (ds_ (sq_ (f_ (at_leave _ rfl (ds_ (sq_ (qa0 [] [] [(2, .int .i64 0)] (ds_ (rt ([]) (.int .i64 0) ?_)))))))))
  exact fun w' hw => ⟨by rw [chk_good hR hA (by omega)]; rfl, hw.below⟩
end Go.Proofs.Ytoljahfofkmdaaa

/-! The document's answers. -/
namespace Go.Proofs.Ytoljahfofkmdaaa
open Go Go.RowKit

set_option maxRecDepth 100000 in
theorem rweight_t (k : Int) (w : World)
 : Calls Try.prog 87 #[.int .u64 k] w fun e w' => e = .returned (.bool (wB k)) ∧ Below w.heap.size w w' := by
 refine enter (Hs.start w) Try.func87 rfl Try.ntmps87 rfl (sq_ (qa0 [] [0] [] (ds_ (sq_ ?_))))
 by_cases q3 : (k : Int) ≥ (1 : Int)
 ·
  by_cases q5 : (k : Int) ≤ (65535 : Int)
  ·
   refine qa [(1, .yes), (4, .yes)] [] [(2, .bool true)] ([(k : Int) ≥ (1 : Int)] ++ ([(k : Int) ≤ (65535 : Int)])) (alA (al1 q3) (al1 q5)) (ds_ (rt ([]) (.bool true) ?_))
   exact fun w' hw => ⟨by rw [show wB k = true from by simp only [wB, decide_eq_true_eq]; omega], hw.below⟩
  ·
   refine qa [(1, .yes), (4, .no)] [] [(2, .bool false)] ([(k : Int) ≥ (1 : Int)] ++ ([¬ ((k : Int) ≤ (65535 : Int))])) (alA (al1 q3) (al1 q5)) (ds_ (rt ([]) (.bool false) ?_))
   exact fun w' hw => ⟨by rw [show wB k = false from by simp only [wB, decide_eq_false_iff_not]; omega], hw.below⟩
 ·
  refine qa [(1, .no)] [] [(2, .bool false)] ([¬ ((k : Int) ≥ (1 : Int))]) (al1 q3) (ds_ (rt ([]) (.bool false) ?_))
  exact fun w' hw => ⟨by rw [show wB k = false from by simp only [wB, decide_eq_false_iff_not]; omega], hw.below⟩

set_option maxRecDepth 100000 in
theorem r05right_t (a : Fq) (w : World)
 : Calls Try.prog 67 #[.agg #[.int .u64 a.hi, .int .u64 a.lo, .int .u64 a.w]] w fun e w' => e = .returned (.bool a.ok) ∧ Below w.heap.size w w' := by
 refine enter (Hs.start w) Try.func67 rfl Try.ntmps67 rfl (sq_ (ma0 [] [] (fun γ1 => [(1, .pointer (some ⟨γ1 0, 0, none⟩))]) (fun γ1 L => bx (γ1 0) (#[.int .u64 a.hi, .int .u64 a.lo, .int .u64 a.w]) 45 :: L) (fun γ1 => ds_ (sq_ (ao_ (qo0 2 [(1, .go (owns 0 2 1))] [1] [(4, .int .u64 a.w)] ?_))))))
 rcases q3 : wB a.w with _ | _
 ·
  refine cD (.bool false) Try.call87 (fun w hw => by have := rweight_t a.w w; rw [q3] at this; exact this) (qo0 7 [] [] [(2, .bool false)] (on_ (ds_ (rt ([]) (.bool false) ?_))))
  exact fun w' hw => ⟨by rw [ok_noW q3], hw.below⟩
 ·
  refine cD (.bool true) Try.call87 (fun w hw => by have := rweight_t a.w w; rw [q3] at this; exact this) ?_
  by_cases q6 : (a.hi : Int) < (68719476736 : Int)
  ·
   refine qo 7 [(6, .go (owns 0 0 1)), (7, .yes)] [] [(2, .bool true)] ([(a.hi : Int) < (68719476736 : Int)]) (al1 q6) (on_ (ds_ (rt ([]) (.bool true) ?_)))
   exact fun w' hw => ⟨by rw [ok_yesW q3 (by omega)], hw.below⟩
  ·
   refine qo 7 [(6, .go (owns 0 0 1)), (7, .no)] [] [(2, .bool false)] ([¬ ((a.hi : Int) < (68719476736 : Int))]) (al1 q6) (on_ (ds_ (rt ([]) (.bool false) ?_)))
   exact fun w' hw => ⟨by rw [ok_noH (by omega)], hw.below⟩

end Go.Proofs.Ytoljahfofkmdaaa

/-! Order: comparing. -/
namespace Go.Proofs.Ytoljahfofkmdaaa
open Go Go.RowKit
theorem bool_eqRun (op : BinOp) (hop : op = .eql ∨ op = .neq) (x y : Operand) (a b r : Bool) (hr : r = (if op = .eql then a == b else !(a == b))) : EqRun Try.prog op 4 x y (.bool a) (.bool b) r := by
 intro w
 subst hr
 have hg : Try.prog.eqGuardType Try.prog.depth 4 = false := by kernel_rfl
 have key : (Op.equal 4 (.bool a) (.bool b)).run Try.prog w = .ok (a == b) w := by
  unfold Op.equal
  rw [show Op.maxDepth = 9999 + 1 from rfl]
  exact run_equalIn_bool' w 9999 4 a b Try.underlying4
 have guard : (eqGuard op 4 x y (.bool a) (.bool b)).run Try.prog w = .ok () w := by
  unfold eqGuard
  rcases hop with rfl | rfl <;> simp [hg]
 rw [Sem.run_bind, guard]
 simp only [Result.andThen_ok]
 rcases hop with rfl | rfl <;> simp [binOp, Sem.run_bind, key]
theorem bool_same {x y : Operand} (a : Bool) : EqRun Try.prog .neq 4 x y (.bool a) (.bool a) false := bool_eqRun _ (.inr rfl) x y a a _ (by simp)
theorem bool_ne {x y : Operand} (a b : Bool) : EqRun Try.prog .neq 4 x y (.bool a) (.bool b) (!(a == b)) := bool_eqRun _ (.inr rfl) x y a b _ (by simp)
set_option maxRecDepth 100000 in
theorem isnan_int (a : Int) (w : World)
 : Calls Try.prog 83 #[.int .i64 a] w fun e w' => e = .returned (.bool false) ∧ Below w.heap.size w w' := by
 refine enter (Hs.start w) Try.func83 rfl Try.ntmps83 rfl (sq_ (qa0 [] [0] [] (ds_ (sq_ (qa [(2, .no)] [] [(2, .bool false)] ([¬ ((a : Int) ≠ (a : Int))]) (al1 (fun h => h rfl)) (ds_ (rt ([]) (.bool false) ?_)))))))
 exact fun w' hw => ⟨rfl, hw.below⟩

set_option maxRecDepth 100000 in
theorem cmp_int (a b : Int) (w : World)
 : Calls Try.prog 61 #[.int .i64 a, .int .i64 b] w fun e w' => e = .returned (.int .i64 (cmpT a b)) ∧ Below w.heap.size w w' := by
 refine enter (Hs.start w) Try.func61 rfl Try.ntmps61 rfl (sq_ (qa0 [] [0, 1] [] (ds_ (sq_ (ao_ (qo0 1 [] [0, 1] [(7, .int .i64 a)] (cD (.bool false) Try.call83 (fun w hw => isnan_int a w) (qo0 1 [] [0, 1] [(5, .bool false)] (on_ (ds_ (sq_ (ao_ (qo0 1 [] [0, 1, 5] [(9, .int .i64 b)] (cD (.bool false) Try.call83 (fun w hw => isnan_int b w) (qo0 1 [] [0, 1, 5] [(6, .bool false)] (on_ (ds_ (sq_ (sq_ (qa0 [] [0, 1, 6] [(11, .bool false)] (ds_ (f_ (at_skip (ds_ (sq_ (sq_ (qa0 [] [0, 1] [(13, .bool false)] (ds_ (f_ (at_skip (ds_ (sq_ (sq_ ?_)))))))))))))))))))))))))))))))))
 by_cases q9 : (a : Int) < (b : Int)
 ·
  refine qa [(2, .yes)] [0, 1] [(16, .bool true)] ([(a : Int) < (b : Int)]) (al1 q9) (ds_ (t_ (sq_ (qa0 [] [] [(4, .int .i64 (-1))] (ds_ (rt ([]) (.int .i64 (-1)) ?_))))))
  exact fun w' hw => ⟨by rw [show cmpT a b = -1 from by simp only [cmpT, if_pos q9]], hw.below⟩
 ·
  refine qa [(2, .no)] [0, 1] [(16, .bool false)] ([¬ ((a : Int) < (b : Int))]) (al1 q9) (ds_ (f_ (at_skip (ds_ (sq_ (sq_ ?_))))))
  by_cases q14 : (a : Int) > (b : Int)
  ·
   refine qa [(2, .yes)] [] [(19, .bool true)] ([(a : Int) > (b : Int)]) (al1 q14) (ds_ (t_ (sq_ (qa0 [] [] [(4, .int .i64 1)] (ds_ (rt ([]) (.int .i64 1) ?_))))))
   exact fun w' hw => ⟨by rw [show cmpT a b = 1 from by simp only [cmpT, if_neg q9, if_pos q14]], hw.below⟩
  ·
   refine qa [(2, .no)] [] [(19, .bool false)] ([¬ ((a : Int) > (b : Int))]) (al1 q14) (ds_ (f_ (at_skip (ds_ (sq_ (qa0 [] [] [(4, .int .i64 0)] (ds_ (rt ([]) (.int .i64 0) ?_))))))))
   exact fun w' hw => ⟨by rw [show cmpT a b = 0 from by simp only [cmpT, if_neg q9, if_neg q14]], hw.below⟩

set_option maxRecDepth 100000 in
theorem isnan_uint64 (a : Int) (w : World)
 : Calls Try.prog 82 #[.int .u64 a] w fun e w' => e = .returned (.bool false) ∧ Below w.heap.size w w' := by
 refine enter (Hs.start w) Try.func82 rfl Try.ntmps82 rfl (sq_ (qa0 [] [0] [] (ds_ (sq_ (qa [(2, .no)] [] [(2, .bool false)] ([¬ ((a : Int) ≠ (a : Int))]) (al1 (fun h => h rfl)) (ds_ (rt ([]) (.bool false) ?_)))))))
 exact fun w' hw => ⟨rfl, hw.below⟩

set_option maxRecDepth 100000 in
theorem cmp_uint64 (a b : Int) (w : World)
 : Calls Try.prog 60 #[.int .u64 a, .int .u64 b] w fun e w' => e = .returned (.int .i64 (cmpT a b)) ∧ Below w.heap.size w w' := by
 refine enter (Hs.start w) Try.func60 rfl Try.ntmps60 rfl (sq_ (qa0 [] [0, 1] [] (ds_ (sq_ (ao_ (qo0 1 [] [0, 1] [(7, .int .u64 a)] (cD (.bool false) Try.call82 (fun w hw => isnan_uint64 a w) (qo0 1 [] [0, 1] [(5, .bool false)] (on_ (ds_ (sq_ (ao_ (qo0 1 [] [0, 1, 5] [(9, .int .u64 b)] (cD (.bool false) Try.call82 (fun w hw => isnan_uint64 b w) (qo0 1 [] [0, 1, 5] [(6, .bool false)] (on_ (ds_ (sq_ (sq_ (qa0 [] [0, 1, 6] [(11, .bool false)] (ds_ (f_ (at_skip (ds_ (sq_ (sq_ (qa0 [] [0, 1] [(13, .bool false)] (ds_ (f_ (at_skip (ds_ (sq_ (sq_ ?_)))))))))))))))))))))))))))))))))
 by_cases q9 : (a : Int) < (b : Int)
 ·
  refine qa [(2, .yes)] [0, 1] [(16, .bool true)] ([(a : Int) < (b : Int)]) (al1 q9) (ds_ (t_ (sq_ (qa0 [] [] [(4, .int .i64 (-1))] (ds_ (rt ([]) (.int .i64 (-1)) ?_))))))
  exact fun w' hw => ⟨by rw [show cmpT a b = -1 from by simp only [cmpT, if_pos q9]], hw.below⟩
 ·
  refine qa [(2, .no)] [0, 1] [(16, .bool false)] ([¬ ((a : Int) < (b : Int))]) (al1 q9) (ds_ (f_ (at_skip (ds_ (sq_ (sq_ ?_))))))
  by_cases q14 : (a : Int) > (b : Int)
  ·
   refine qa [(2, .yes)] [] [(19, .bool true)] ([(a : Int) > (b : Int)]) (al1 q14) (ds_ (t_ (sq_ (qa0 [] [] [(4, .int .i64 1)] (ds_ (rt ([]) (.int .i64 1) ?_))))))
   exact fun w' hw => ⟨by rw [show cmpT a b = 1 from by simp only [cmpT, if_neg q9, if_pos q14]], hw.below⟩
  ·
   refine qa [(2, .no)] [] [(19, .bool false)] ([¬ ((a : Int) > (b : Int))]) (al1 q14) (ds_ (f_ (at_skip (ds_ (sq_ (qa0 [] [] [(4, .int .i64 0)] (ds_ (rt ([]) (.int .i64 0) ?_))))))))
   exact fun w' hw => ⟨by rw [show cmpT a b = 0 from by simp only [cmpT, if_neg q9, if_neg q14]], hw.below⟩
end Go.Proofs.Ytoljahfofkmdaaa

/-! Order: who may be asked, who stands ahead. -/
namespace Go.Proofs.Ytoljahfofkmdaaa
open Go Go.RowKit

set_option maxRecDepth 100000 in
theorem orl_t (p : Option Addr) (n cap : Nat) (l : List Int) (w : World)
 (hsl : Sv w p l) (hn : n = l.length) (hb : n ≤ 1000)
 : Calls Try.prog 59 #[.slice p n cap] w fun e w' => e = .returned (.int .i64 (orL l)) ∧ Below w.heap.size w w' := by
 refine enter (Hs.start w) Try.func59 rfl Try.ntmps59 rfl (sq_ (qa0 [] [0] [] (ds_ (sq_ (qa0 [] [0] [(3, .int .i64 0)] (ds_ (sq_ (sq_ (qa0 [] [3] [(6, .slice p n cap), (7, .int .i64 (n : Nat)), (8, .int .i64 0)] (ds_ (at_block (at_loop (α := Nat) [3, 6, 7, 8] (fun j => [(3, .int .i64 0), (6, .slice p n cap), (7, .int .i64 (n : Nat)), (8, .int .i64 (j : Nat))]) (fun j => []) (fun j => j ≤ n ∧ ∀ y ∈ l.take j, y = 0) (fun j => n - j) 0 (by kernel_rfl) rfl ⟨Nat.zero_le _, all_take0T⟩ ?_))))))))))))
 rintro j
 rintro ⟨hj, hI⟩
 refine sq_ ?_
 by_cases q5 : ((j : Nat) : Int) < ((n : Nat) : Int)
 ·
  refine qa [(0, .yes)] [3, 6, 7, 8] [(9, .bool true)] ([((j : Nat) : Int) < ((n : Nat) : Int)]) (al1 q5) (ds_ (sq_ (t_ (at_skip (ds_ (sq_ (at_block (sq_ ?_))))))))
  obtain ⟨b8, o8, rfl⟩ := hsl.pos (i := j) (by omega)
  obtain ⟨x10, hx10⟩ := get_some (l := l) (m := j) (by omega)
  refine qa [(0, .at b8 o8 j), (1, .go (outs b8 (o8 + j * 1) [.int .i64 x10]))] [3, 6, 7, 8] [(5, .int .i64 x10)] ([(some ⟨b8, o8, none⟩ : Option Addr) = some ⟨b8, o8, none⟩, (j : Nat) = ((j : Nat) : Int), j < n] ++ (cellsP w b8 (o8 + j * 1) [.int .i64 x10])) (alA (al2 rfl (al2 rfl (al1 (by omega)))) (rd_pre (hsl.get hx10) _ rfl)) (ds_ (sq_ ?_))
  by_cases q13 : (x10 : Int) ≠ (0 : Int)
  ·
   refine qa [(2, .yes)] [3, 5, 6, 7, 8] [(14, .bool true)] ([(x10 : Int) ≠ (0 : Int)]) (al1 q13) (ds_ (t_ (sq_ (qa0 [] [] [(2, .int .i64 x10)] (ds_ (rt ([]) (.int .i64 x10) ?_))))))
   exact fun w' hw => ⟨by rw [or_yes hI hx10 q13], hw.below⟩
  ·
   refine qa [(2, .no)] [3, 5, 6, 7, 8] [(14, .bool false)] ([¬ ((x10 : Int) ≠ (0 : Int))]) (al1 q13) (ds_ (f_ (at_skip (done_block (ds_ (qa [(0, .fit)] [3, 6, 7] [(8, .int .i64 (j + 1 : Nat))] ([Fit .i64 ((j + 1 : Nat))]) (al1 (fit64 (by omega) (by omega))) ?_))))))
   exact dr [3, 6, 7, 8] (j + 1) ⟨by omega, all_onT hI hx10 (by omega)⟩
 ·
  refine qa [(0, .no)] [3, 6, 7, 8] [(9, .bool false)] ([¬ (((j : Nat) : Int) < ((n : Nat) : Int))]) (al1 q5) (ds_ (sq_ (f_ (at_leave _ rfl (ds_ (sq_ (qa0 [] [] [(2, .int .i64 0)] (ds_ (rt ([]) (.int .i64 0) ?_)))))))))
  rw [List.take_of_length_le (by omega)] at hI
  exact fun w' hw => ⟨by rw [or_no hI], hw.below⟩

set_option maxRecDepth 100000 in
theorem oright_t (a : EnA) (w : World)
 (ra : a.Reads w)
 : Calls Try.prog 48 #[.agg #[.slice a.p a.n a.cap, .int .u64 a.th, .int .u64 a.tl, .int .u64 a.tw, .int .u64 a.ord, .bool a.fresh]] w fun e w' => e = .returned (.bool (rightE a.val)) ∧ Below w.heap.size w w' := by
 have hsa : Sv w a.p a.l := ra.sv
 have hna : a.n = a.l.length := ra.hn
 have hca := ra.hc
 have hba := ra.hb
 refine enter (Hs.start w) Try.func48 rfl Try.ntmps48 rfl (sq_ (ma0 [] [] (fun γ1 => [(1, .pointer (some ⟨γ1 0, 0, none⟩))]) (fun γ1 L => bx (γ1 0) (#[.slice a.p a.n a.cap, .int .u64 a.th, .int .u64 a.tl, .int .u64 a.tw, .int .u64 a.ord, .bool a.fresh]) 47 :: L) (fun γ1 => ds_ (sq_ ?_))))
 by_cases q3 : ((a.n : Nat) : Int) > (0 : Int)
 ·
  refine ao_ (qo 7 [(1, .go (owns 0 0 1)), (3, .yes), (6, .go (owns 0 1 3))] [] [(7, .bool true), (9, .agg #[.int .u64 a.th, .int .u64 a.tl, .int .u64 a.tw])] ([((a.n : Nat) : Int) > (0 : Int)]) (al1 q3) ?_)
  rcases q5 : a.t.ok with _ | _
  ·
   refine cD (.int .i64 150) Try.call19 (fun w hw => by have := fcheck_t a.t w; rw [q5] at this; exact this) (qo0 3 [] [] [(2, .bool false)] (on_ (ds_ (rt ([]) (.bool false) ?_))))
   exact fun w' hw => ⟨by rw [rt_noT (a := a.val) q5], hw.below⟩
  ·
   refine cD (.int .i64 0) Try.call19 (fun w hw => by have := fcheck_t a.t w; rw [q5] at this; exact this) (qo0 3 [] [] [(2, .bool true)] (on_ (ds_ (rt ([]) (.bool true) ?_))))
   exact fun w' hw => ⟨by rw [rt_yes (a := a.val) (by show 0 < a.l.length; omega) q5], hw.below⟩
 ·
  refine qa [(1, .go (owns 0 0 1)), (3, .no)] [] [(2, .bool false)] ([¬ (((a.n : Nat) : Int) > (0 : Int))]) (al1 q3) (ds_ (rt ([]) (.bool false) ?_))
  exact fun w' hw => ⟨by rw [rt_no0 (a := a.val) (by show ¬ 0 < a.l.length; omega)], hw.below⟩

set_option maxRecDepth 100000 in
theorem compare_t (a b : EnA) (w : World)
 (ra : a.Reads w)
 (rb : b.Reads w)
 (h0a : 0 < a.l.length) (h0b : 0 < b.l.length)
 : Calls Try.prog 38 #[.agg #[.slice a.p a.n a.cap, .int .u64 a.th, .int .u64 a.tl, .int .u64 a.tw, .int .u64 a.ord, .bool a.fresh], .agg #[.slice b.p b.n b.cap, .int .u64 b.th, .int .u64 b.tl, .int .u64 b.tw, .int .u64 b.ord, .bool b.fresh]] w fun e w' => e = .returned (.int .i64 (cmpE a.val b.val)) ∧ Below w.heap.size w w' := by
 have hsa : Sv w a.p a.l := ra.sv
 have hna : a.n = a.l.length := ra.hn
 have hca := ra.hc
 have hba := ra.hb
 have hsb : Sv w b.p b.l := rb.sv
 have hnb : b.n = b.l.length := rb.hn
 have hcb := rb.hc
 have hbb := rb.hb
 refine enter (Hs.start w) Try.func38 rfl Try.ntmps38 rfl (sq_ (ma0 [] [] (fun γ1 => [(2, .pointer (some ⟨γ1 0, 0, none⟩)), (3, .pointer (some ⟨γ1 1, 0, none⟩))]) (fun γ1 L => bx (γ1 1) (#[.slice b.p b.n b.cap, .int .u64 b.th, .int .u64 b.tl, .int .u64 b.tw, .int .u64 b.ord, .bool b.fresh]) 47 :: bx (γ1 0) (#[.slice a.p a.n a.cap, .int .u64 a.th, .int .u64 a.tl, .int .u64 a.tw, .int .u64 a.ord, .bool a.fresh]) 47 :: L) (fun γ1 => ds_ (sq_ (sq_ ?_)))))
 rcases q3 : a.fresh with _ | _
 ·
  rcases q5 : b.fresh with _ | _
  ·
   refine qa [(1, .go (owns 1 5 1)), (3, .go (owns 0 5 1)), (4, .eqs false)] [2, 3] [(9, .bool false)] ([EqRun Try.prog .neq 4 (.tmp 6) (.tmp 8) (.bool false) (.bool false) false]) (al1 (bool_ne false false)) (ds_ (f_ (at_skip (ds_ (sq_ ?_)))))
   obtain ⟨b7, o7, hbo7⟩ := hsa.pos (i := 0) (by omega)
   have hsv7 := hsa
   rw [hbo7] at hsv7
   obtain ⟨x8, hx8⟩ := get_some (l := a.l) (m := 0) (by omega)
   obtain ⟨b9, o9, hbo9⟩ := hsb.pos (i := 0) (by omega)
   have hsv9 := hsb
   rw [hbo9] at hsv9
   obtain ⟨x10, hx10⟩ := get_some (l := b.l) (m := 0) (by omega)
   refine at_calmTo (f := 3) 19 rfl (by kernel_rfl) (by kernel_rfl) (by kernel_rfl) (by kernel_rfl) (by kernel_rfl) (by kernel_rfl) ?_
   refine cm 4 [(1, .go (owns 1 1 3)), (3, .go (owns 0 1 3))] [2, 3] [(13, .agg #[.int .u64 a.th, .int .u64 a.tl, .int .u64 a.tw]), (15, .agg #[.int .u64 b.th, .int .u64 b.tl, .int .u64 b.tw])] ([]) (by kernel_rfl) rfl al0 ?_
   refine cK (.int .i64 (cmpF a.t b.t)) Try.call17 (fun w hw => fcmp_t a.t b.t w ra.tU rb.tU) ?_
   refine cm 4 [(6, .go (owns 1 4 1)), (8, .go (owns 0 4 1))] [2, 3, 16] [(18, .int .u64 a.ord), (20, .int .u64 b.ord)] ([]) (by kernel_rfl) rfl al0 ?_
   refine cK (.int .i64 (cmpT a.ord b.ord)) Try.call60 (fun w hw => cmp_uint64 a.ord b.ord w) ?_
   refine cm 8 [(11, .go (owns 1 0 1)), (12, .at b7 o7 0), (13, .go (outs b7 (o7 + 0 * 1) [.int .i64 x8])), (15, .go (owns 0 0 1)), (16, .at b9 o9 0), (17, .go (outs b9 (o9 + 0 * 1) [.int .i64 x10]))] [16, 21] [(25, .int .i64 x8), (29, .int .i64 x10)] ([(a.p : Option Addr) = some ⟨b7, o7, none⟩, 0 = ((0 : Nat) : Int), 0 < a.n] ++ (cellsP w b7 (o7 + 0 * 1) [.int .i64 x8] ++ ([(b.p : Option Addr) = some ⟨b9, o9, none⟩, 0 = ((0 : Nat) : Int), 0 < b.n] ++ (cellsP w b9 (o9 + 0 * 1) [.int .i64 x10])))) (by kernel_rfl) rfl (alA (al2 hbo7 (al2 rfl (al1 (by omega)))) (alA (rd_pre (hsv7.get hx8) _ rfl) (alA (al2 hbo9 (al2 rfl (al1 (by omega)))) (rd_pre (hsv9.get hx10) _ rfl)))) ?_
   refine cK (.int .i64 (cmpT x8 x10)) Try.call61 (fun w hw => cmp_int x8 x10 w) ?_
   refine calm_nil' ?_
   refine done_pre (li' := #[true, true, true, true, true, true, true, true, true, true, true, true, true, true, true, true, true, true, true, false, false, false]) (by kernel_rfl) ?_
   refine any_cutX (V := (Nat → Nat)) (fun γ397 => True) 0 #[true, true, true, true, true, true, true, true, true, true, true, true, true, true, true, true, true, true, true, true, true, true] (fun γ397 => [(4, .int .i64 (orL [(cmpF a.t b.t), (cmpT a.ord b.ord), (cmpT x8 x10)]))]) (fun γ397 => [bx (γ397 0) (#[.int .i64 (cmpF a.t b.t), .int .i64 (cmpT a.ord b.ord), .int .i64 (cmpT x8 x10)]) 3, bx (γ1 1) (#[.slice b.p b.n b.cap, .int .u64 b.th, .int .u64 b.tl, .int .u64 b.tw, .int .u64 b.ord, .bool false]) 47, bx (γ1 0) (#[.slice a.p a.n a.cap, .int .u64 a.th, .int .u64 a.tl, .int .u64 a.tw, .int .u64 a.ord, .bool false]) 47]) ?_ (fun hmx2 => ?_)
   rotate_left
   ·
    refine any_cutX (V := (Nat → Nat)) (fun γ397 => True) 2 #[true, true, true, true, true, true, true, true, true, true, true, true, true, true, true, true, true, true, true, true, false, false] (fun γ397 => [(31, .slice (some ⟨γ397 0, 0, none⟩) 3 3)]) (fun γ397 => [bx (γ397 0) (#[.int .i64 (cmpF a.t b.t), .int .i64 (cmpT a.ord b.ord), .int .i64 (cmpT x8 x10)]) 3, bx (γ1 1) (#[.slice b.p b.n b.cap, .int .u64 b.th, .int .u64 b.tl, .int .u64 b.tw, .int .u64 b.ord, .bool false]) 47, bx (γ1 0) (#[.slice a.p a.n a.cap, .int .u64 a.th, .int .u64 a.tl, .int .u64 a.tw, .int .u64 a.ord, .bool false]) 47]) ?_ (fun hmx1 => ?_)
    ·
     rintro γ397 _
     refine a1 20 rfl ?_
     refine cD (.int .i64 (orL [(cmpF a.t b.t), (cmpT a.ord b.ord), (cmpT x8 x10)])) Try.call59 (fun w hw => orl_t (some ⟨γ397 0, 0, none⟩) 3 3 [(cmpF a.t b.t), (cmpT a.ord b.ord), (cmpT x8 x10)] w (sv_row (hw.row 0 rfl) rfl) rfl (by decide)) ?_
     refine od_ ?_
     refine tk (m := 0) [21] [] [] [(4, .int .i64 (orL [(cmpF a.t b.t), (cmpT a.ord b.ord), (cmpT x8 x10)]))] ([]) #[true, true, true, true, true, true, true, true, true, true, true, true, true, true, true, true, true, true, true, true, true, true] al0 ?_
     exact wk (hmx2 γ397 trivial) [4] [[_], [_], [_]] [0, 1, 2] rfl rfl
    refine a1 19 rfl ?_
    refine mo0 1 [] [] (fun γ397 => [(31, .slice (some ⟨γ397 0, 0, none⟩) 3 3)]) (fun γ397 L => bx (γ397 0) (#[.int .i64 (cmpF a.t b.t), .int .i64 (cmpT a.ord b.ord), .int .i64 (cmpT x8 x10)]) 3 :: L) (fun γ397 => ?_)
    refine od_ ?_
    exact wk (hmx1 γ397 trivial) [31] [[_], [_], [_]] [0, 1, 2] rfl rfl
   rintro γ397 _
   refine any_nil (by kernel_rfl) ?_
   refine ds_ (rt ([]) (.int .i64 (orL [(cmpF a.t b.t), (cmpT a.ord b.ord), (cmpT x8 x10)])) ?_)
   exact fun w' hw => ⟨by rw [cmpE_s (a := a.val) (b := b.val) (q3.trans q5.symm) hx8 hx10]; rfl, hw.below⟩
  ·
   refine qa [(1, .go (owns 1 5 1)), (3, .go (owns 0 5 1)), (4, .eqs true)] [2, 3] [(9, .bool true)] ([EqRun Try.prog .neq 4 (.tmp 6) (.tmp 8) (.bool false) (.bool true) true]) (al1 (bool_ne false true)) (ds_ (t_ (sq_ (sq_ (qa0 [(1, .go (owns 1 5 1))] [] [(11, .bool false)] (ds_ (f_ (at_skip (ds_ (sq_ (qa0 [] [] [(4, .int .i64 1)] (ds_ (rt ([]) (.int .i64 1) ?_)))))))))))))
   exact fun w' hw => ⟨by rw [cmpE_r (a := a.val) (b := b.val) q3 q5], hw.below⟩
 ·
  rcases q502 : b.fresh with _ | _
  ·
   refine qa [(1, .go (owns 1 5 1)), (3, .go (owns 0 5 1)), (4, .eqs true)] [2, 3] [(9, .bool true)] ([EqRun Try.prog .neq 4 (.tmp 6) (.tmp 8) (.bool true) (.bool false) true]) (al1 (bool_ne true false)) (ds_ (t_ (sq_ (sq_ (qa0 [(1, .go (owns 1 5 1))] [] [(11, .bool true)] (ds_ (t_ (sq_ (qa0 [] [] [(4, .int .i64 (-1))] (ds_ (rt ([]) (.int .i64 (-1)) ?_)))))))))))
   exact fun w' hw => ⟨by rw [cmpE_l (a := a.val) (b := b.val) q3 q502], hw.below⟩
  ·
   refine qa [(1, .go (owns 1 5 1)), (3, .go (owns 0 5 1)), (4, .eqs false)] [2, 3] [(9, .bool false)] ([EqRun Try.prog .neq 4 (.tmp 6) (.tmp 8) (.bool true) (.bool true) false]) (al1 (bool_ne true true)) (ds_ (f_ (at_skip (ds_ (sq_ ?_)))))
   obtain ⟨b507, o507, hbo507⟩ := hsa.pos (i := 0) (by omega)
   have hsv507 := hsa
   rw [hbo507] at hsv507
   obtain ⟨x508, hx508⟩ := get_some (l := a.l) (m := 0) (by omega)
   obtain ⟨b509, o509, hbo509⟩ := hsb.pos (i := 0) (by omega)
   have hsv509 := hsb
   rw [hbo509] at hsv509
   obtain ⟨x510, hx510⟩ := get_some (l := b.l) (m := 0) (by omega)
   refine at_calmTo (f := 3) 19 rfl (by kernel_rfl) (by kernel_rfl) (by kernel_rfl) (by kernel_rfl) (by kernel_rfl) (by kernel_rfl) ?_
   refine cm 4 [(1, .go (owns 1 1 3)), (3, .go (owns 0 1 3))] [2, 3] [(13, .agg #[.int .u64 a.th, .int .u64 a.tl, .int .u64 a.tw]), (15, .agg #[.int .u64 b.th, .int .u64 b.tl, .int .u64 b.tw])] ([]) (by kernel_rfl) rfl al0 ?_
   refine cK (.int .i64 (cmpF a.t b.t)) Try.call17 (fun w hw => fcmp_t a.t b.t w ra.tU rb.tU) ?_
   refine cm 4 [(6, .go (owns 1 4 1)), (8, .go (owns 0 4 1))] [2, 3, 16] [(18, .int .u64 a.ord), (20, .int .u64 b.ord)] ([]) (by kernel_rfl) rfl al0 ?_
   refine cK (.int .i64 (cmpT a.ord b.ord)) Try.call60 (fun w hw => cmp_uint64 a.ord b.ord w) ?_
   refine cm 8 [(11, .go (owns 1 0 1)), (12, .at b507 o507 0), (13, .go (outs b507 (o507 + 0 * 1) [.int .i64 x508])), (15, .go (owns 0 0 1)), (16, .at b509 o509 0), (17, .go (outs b509 (o509 + 0 * 1) [.int .i64 x510]))] [16, 21] [(25, .int .i64 x508), (29, .int .i64 x510)] ([(a.p : Option Addr) = some ⟨b507, o507, none⟩, 0 = ((0 : Nat) : Int), 0 < a.n] ++ (cellsP w b507 (o507 + 0 * 1) [.int .i64 x508] ++ ([(b.p : Option Addr) = some ⟨b509, o509, none⟩, 0 = ((0 : Nat) : Int), 0 < b.n] ++ (cellsP w b509 (o509 + 0 * 1) [.int .i64 x510])))) (by kernel_rfl) rfl (alA (al2 hbo507 (al2 rfl (al1 (by omega)))) (alA (rd_pre (hsv507.get hx508) _ rfl) (alA (al2 hbo509 (al2 rfl (al1 (by omega)))) (rd_pre (hsv509.get hx510) _ rfl)))) ?_
   refine cK (.int .i64 (cmpT x508 x510)) Try.call61 (fun w hw => cmp_int x508 x510 w) ?_
   refine calm_nil' ?_
   refine done_pre (li' := #[true, true, true, true, true, true, true, true, true, true, true, true, true, true, true, true, true, true, true, false, false, false]) (by kernel_rfl) ?_
   refine any_cutX (V := (Nat → Nat)) (fun γ897 => True) 0 #[true, true, true, true, true, true, true, true, true, true, true, true, true, true, true, true, true, true, true, true, true, true] (fun γ897 => [(4, .int .i64 (orL [(cmpF a.t b.t), (cmpT a.ord b.ord), (cmpT x508 x510)]))]) (fun γ897 => [bx (γ897 0) (#[.int .i64 (cmpF a.t b.t), .int .i64 (cmpT a.ord b.ord), .int .i64 (cmpT x508 x510)]) 3, bx (γ1 1) (#[.slice b.p b.n b.cap, .int .u64 b.th, .int .u64 b.tl, .int .u64 b.tw, .int .u64 b.ord, .bool true]) 47, bx (γ1 0) (#[.slice a.p a.n a.cap, .int .u64 a.th, .int .u64 a.tl, .int .u64 a.tw, .int .u64 a.ord, .bool true]) 47]) ?_ (fun hmx2 => ?_)
   rotate_left
   ·
    refine any_cutX (V := (Nat → Nat)) (fun γ897 => True) 2 #[true, true, true, true, true, true, true, true, true, true, true, true, true, true, true, true, true, true, true, true, false, false] (fun γ897 => [(31, .slice (some ⟨γ897 0, 0, none⟩) 3 3)]) (fun γ897 => [bx (γ897 0) (#[.int .i64 (cmpF a.t b.t), .int .i64 (cmpT a.ord b.ord), .int .i64 (cmpT x508 x510)]) 3, bx (γ1 1) (#[.slice b.p b.n b.cap, .int .u64 b.th, .int .u64 b.tl, .int .u64 b.tw, .int .u64 b.ord, .bool true]) 47, bx (γ1 0) (#[.slice a.p a.n a.cap, .int .u64 a.th, .int .u64 a.tl, .int .u64 a.tw, .int .u64 a.ord, .bool true]) 47]) ?_ (fun hmx1 => ?_)
    ·
     rintro γ897 _
     refine a1 20 rfl ?_
     refine cD (.int .i64 (orL [(cmpF a.t b.t), (cmpT a.ord b.ord), (cmpT x508 x510)])) Try.call59 (fun w hw => orl_t (some ⟨γ897 0, 0, none⟩) 3 3 [(cmpF a.t b.t), (cmpT a.ord b.ord), (cmpT x508 x510)] w (sv_row (hw.row 0 rfl) rfl) rfl (by decide)) ?_
     refine od_ ?_
     refine tk (m := 0) [21] [] [] [(4, .int .i64 (orL [(cmpF a.t b.t), (cmpT a.ord b.ord), (cmpT x508 x510)]))] ([]) #[true, true, true, true, true, true, true, true, true, true, true, true, true, true, true, true, true, true, true, true, true, true] al0 ?_
     exact wk (hmx2 γ897 trivial) [4] [[_], [_], [_]] [0, 1, 2] rfl rfl
    refine a1 19 rfl ?_
    refine mo0 1 [] [] (fun γ897 => [(31, .slice (some ⟨γ897 0, 0, none⟩) 3 3)]) (fun γ897 L => bx (γ897 0) (#[.int .i64 (cmpF a.t b.t), .int .i64 (cmpT a.ord b.ord), .int .i64 (cmpT x508 x510)]) 3 :: L) (fun γ897 => ?_)
    refine od_ ?_
    exact wk (hmx1 γ897 trivial) [31] [[_], [_], [_]] [0, 1, 2] rfl rfl
   rintro γ897 _
   refine any_nil (by kernel_rfl) ?_
   refine ds_ (rt ([]) (.int .i64 (orL [(cmpF a.t b.t), (cmpT a.ord b.ord), (cmpT x508 x510)])) ?_)
   exact fun w' hw => ⟨by rw [cmpE_s (a := a.val) (b := b.val) (q3.trans q502.symm) hx508 hx510]; rfl, hw.below⟩

set_option maxRecDepth 100000 in
theorem ahead_t (a b : EnA) (w : World)
 (ra : a.Reads w)
 (rb : b.Reads w)
 : Calls Try.prog 20 #[.agg #[.slice a.p a.n a.cap, .int .u64 a.th, .int .u64 a.tl, .int .u64 a.tw, .int .u64 a.ord, .bool a.fresh], .agg #[.slice b.p b.n b.cap, .int .u64 b.th, .int .u64 b.tl, .int .u64 b.tw, .int .u64 b.ord, .bool b.fresh]] w fun e w' => e = .returned (.bool (aheadE a.val b.val)) ∧ Below w.heap.size w w' := by
 have hsa : Sv w a.p a.l := ra.sv
 have hna : a.n = a.l.length := ra.hn
 have hca := ra.hc
 have hba := ra.hb
 have hsb : Sv w b.p b.l := rb.sv
 have hnb : b.n = b.l.length := rb.hn
 have hcb := rb.hc
 have hbb := rb.hb
 refine enter (Hs.start w) Try.func20 rfl Try.ntmps20 rfl (sq_ (ma0 [] [] (fun γ1 => [(2, .pointer (some ⟨γ1 0, 0, none⟩)), (3, .pointer (some ⟨γ1 1, 0, none⟩))]) (fun γ1 L => bx (γ1 1) (#[.slice b.p b.n b.cap, .int .u64 b.th, .int .u64 b.tl, .int .u64 b.tw, .int .u64 b.ord, .bool b.fresh]) 47 :: bx (γ1 0) (#[.slice a.p a.n a.cap, .int .u64 a.th, .int .u64 a.tl, .int .u64 a.tw, .int .u64 a.ord, .bool a.fresh]) 47 :: L) (fun γ1 => ds_ (sq_ (ao_ (qo0 1 [(0, .go (owns 1 0 6))] [2, 3] [(5, .agg #[.slice a.p a.n a.cap, .int .u64 a.th, .int .u64 a.tl, .int .u64 a.tw, .int .u64 a.ord, .bool a.fresh])] ?_))))))
 rcases q3 : rightE a.val with _ | _
 ·
  refine cD (.bool false) Try.call48 (fun w hw => by have := oright_t a w (ra.kept hw.below); rw [q3] at this; exact this) (qo0 11 [] [] [(4, .bool false)] (on_ (ds_ (rt ([]) (.bool false) ?_))))
  exact fun w' hw => ⟨by rw [ah_no1 (a := a.val) q3], hw.below⟩
 ·
  refine cD (.bool true) Try.call48 (fun w hw => by have := oright_t a w (ra.kept hw.below); rw [q3] at this; exact this) (qo0 2 [(3, .go (owns 0 0 6))] [2, 3] [(7, .bool true), (8, .agg #[.slice b.p b.n b.cap, .int .u64 b.th, .int .u64 b.tl, .int .u64 b.tw, .int .u64 b.ord, .bool b.fresh])] ?_)
  rcases q6 : rightE b.val with _ | _
  ·
   refine cD (.bool false) Try.call48 (fun w hw => by have := oright_t b w (rb.kept hw.below); rw [q6] at this; exact this) (qo0 8 [] [] [(4, .bool false)] (on_ (ds_ (rt ([]) (.bool false) ?_))))
   exact fun w' hw => ⟨by rw [ah_no2 (b := b.val) q6], hw.below⟩
  ·
   refine cD (.bool true) Try.call48 (fun w hw => by have := oright_t b w (rb.kept hw.below); rw [q6] at this; exact this) (qo0 4 [(7, .go (owns 1 0 6)), (8, .go (owns 0 0 6))] [] [(11, .bool true), (12, .agg #[.slice a.p a.n a.cap, .int .u64 a.th, .int .u64 a.tl, .int .u64 a.tw, .int .u64 a.ord, .bool a.fresh]), (13, .agg #[.slice b.p b.n b.cap, .int .u64 b.th, .int .u64 b.tl, .int .u64 b.tw, .int .u64 b.ord, .bool b.fresh])] (cD (.int .i64 (cmpE a.val b.val)) Try.call38 (fun w hw => compare_t a b w (ra.kept hw.below) (rb.kept hw.below) (rt_iff.1 q3).1 (rt_iff.1 q6).1) ?_))
   by_cases q10 : ((cmpE a.val b.val) : Int) < (0 : Int)
   ·
    refine qo 3 [(10, .yes)] [] [(4, .bool true)] ([((cmpE a.val b.val) : Int) < (0 : Int)]) (al1 q10) (on_ (ds_ (rt ([]) (.bool true) ?_)))
    exact fun w' hw => ⟨by rw [ah_yes q3 q6, decide_eq_true (by omega)], hw.below⟩
   ·
    refine qo 3 [(10, .no)] [] [(4, .bool false)] ([¬ (((cmpE a.val b.val) : Int) < (0 : Int))]) (al1 q10) (on_ (ds_ (rt ([]) (.bool false) ?_)))
    exact fun w' hw => ⟨by rw [ah_yes q3 q6, decide_eq_false (by omega)], hw.below⟩
end Go.Proofs.Ytoljahfofkmdaaa

/-! Order: what the document says of entities. -/
namespace Go.Proofs.Ytoljahfofkmdaaa
open Go Go.RowKit

set_option maxRecDepth 100000 in
theorem rright_t (a : EnA) (w : World)
    (ra : a.Reads w)
    : Calls Try.prog 49 #[.agg #[.slice a.p a.n a.cap, .int .u64 a.th, .int .u64 a.tl, .int .u64 a.tw, .int .u64 a.ord, .bool a.fresh]] w fun e w' => e = .returned (.bool (rightE a.val)) ∧ Below w.heap.size w w' := by
  have hsa : Sv w a.p a.l := ra.sv
  have hna : a.n = a.l.length := ra.hn
  have hca := ra.hc
  have hba := ra.hb
  refine enter (Hs.start w) Try.func49 rfl Try.ntmps49 rfl (sq_ (ma0 [] [] (fun γ1 => [(1, .pointer (some ⟨γ1 0, 0, none⟩))]) (fun γ1 L => bx (γ1 0) (#[.slice a.p a.n a.cap, .int .u64 a.th, .int .u64 a.tl, .int .u64 a.tw, .int .u64 a.ord, .bool a.fresh]) 47 :: L) (fun γ1 => ds_ (sq_ ?_))))
  by_cases q3 : ((a.n : Nat) : Int) > (0 : Int)
  ·
    refine ao_ (qo 7 [(1, .go (owns 0 0 1)), (3, .yes), (6, .go (owns 0 1 3))] [] [(7, .bool true), (9, .agg #[.int .u64 a.th, .int .u64 a.tl, .int .u64 a.tw])] ([((a.n : Nat) : Int) > (0 : Int)]) (al1 q3) ?_)
    rcases q5 : a.t.ok with _ | _
    ·
      refine cD (.bool false) Try.call67 (fun w hw => by have := r05right_t a.t w; rw [q5] at this; exact this) (qo0 2 [] [] [(2, .bool false)] (on_ (ds_ (rt ([]) (.bool false) ?_))))
      exact fun w' hw => ⟨by rw [rt_noT (a := a.val) q5], hw.below⟩
    ·
      refine cD (.bool true) Try.call67 (fun w hw => by have := r05right_t a.t w; rw [q5] at this; exact this) (qo0 2 [] [] [(2, .bool true)] (on_ (ds_ (rt ([]) (.bool true) ?_))))
      exact fun w' hw => ⟨by rw [rt_yes (a := a.val) (by show 0 < a.l.length; omega) q5], hw.below⟩
  ·
    refine qa [(1, .go (owns 0 0 1)), (3, .no)] [] [(2, .bool false)] ([¬ (((a.n : Nat) : Int) > (0 : Int))]) (al1 q3) (ds_ (rt ([]) (.bool false) ?_))
    exact fun w' hw => ⟨by rw [rt_no0 (a := a.val) (by show ¬ 0 < a.l.length; omega)], hw.below⟩

set_option maxRecDepth 100000 in
theorem rahead_t (a b : EnA) (w : World)
    (ra : a.Reads w)
    (rb : b.Reads w)
    : Calls Try.prog 24 #[.agg #[.slice a.p a.n a.cap, .int .u64 a.th, .int .u64 a.tl, .int .u64 a.tw, .int .u64 a.ord, .bool a.fresh], .agg #[.slice b.p b.n b.cap, .int .u64 b.th, .int .u64 b.tl, .int .u64 b.tw, .int .u64 b.ord, .bool b.fresh]] w fun e w' => e = .returned (.bool (aheadE a.val b.val)) ∧ Below w.heap.size w w' := by
  have hsa : Sv w a.p a.l := ra.sv
  have hna : a.n = a.l.length := ra.hn
  have hca := ra.hc
  have hba := ra.hb
  have hsb : Sv w b.p b.l := rb.sv
  have hnb : b.n = b.l.length := rb.hn
  have hcb := rb.hc
  have hbb := rb.hb
  refine enter (Hs.start w) Try.func24 rfl Try.ntmps24 rfl (sq_ (ma0 [] [] (fun γ1 => [(2, .pointer (some ⟨γ1 0, 0, none⟩)), (3, .pointer (some ⟨γ1 1, 0, none⟩))]) (fun γ1 L => bx (γ1 1) (#[.slice b.p b.n b.cap, .int .u64 b.th, .int .u64 b.tl, .int .u64 b.tw, .int .u64 b.ord, .bool b.fresh]) 47 :: bx (γ1 0) (#[.slice a.p a.n a.cap, .int .u64 a.th, .int .u64 a.tl, .int .u64 a.tw, .int .u64 a.ord, .bool a.fresh]) 47 :: L) (fun γ1 => ds_ (sq_ (sq_ (ao_ (qo0 1 [(0, .go (owns 1 0 6))] [2, 3] [(6, .agg #[.slice a.p a.n a.cap, .int .u64 a.th, .int .u64 a.tl, .int .u64 a.tw, .int .u64 a.ord, .bool a.fresh])] ?_)))))))
  rcases q3 : rightE a.val with _ | _
  ·
    refine cD (.bool false) Try.call49 (fun w hw => by have := rright_t a w (ra.kept hw.below); rw [q3] at this; exact this) (qo0 6 [] [2, 3] [(13, .bool true)] (on_ (ds_ (t_ (sq_ (qa0 [] [] [(4, .bool false)] (ds_ (rt ([]) (.bool false) ?_))))))))
    exact fun w' hw => ⟨by rw [ah_no1 (a := a.val) q3], hw.below⟩
  ·
    refine cD (.bool true) Try.call49 (fun w hw => by have := rright_t a w (ra.kept hw.below); rw [q3] at this; exact this) (qo0 3 [(4, .go (owns 0 0 6))] [2, 3] [(9, .bool false), (10, .agg #[.slice b.p b.n b.cap, .int .u64 b.th, .int .u64 b.tl, .int .u64 b.tw, .int .u64 b.ord, .bool b.fresh])] ?_)
    rcases q7 : rightE b.val with _ | _
    ·
      refine cD (.bool false) Try.call49 (fun w hw => by have := rright_t b w (rb.kept hw.below); rw [q7] at this; exact this) (qo0 2 [] [2, 3] [(13, .bool true)] (on_ (ds_ (t_ (sq_ (qa0 [] [] [(4, .bool false)] (ds_ (rt ([]) (.bool false) ?_))))))))
      exact fun w' hw => ⟨by rw [ah_no2 (b := b.val) q7], hw.below⟩
    ·
      refine cD (.bool true) Try.call49 (fun w hw => by have := rright_t b w (rb.kept hw.below); rw [q7] at this; exact this) (qo0 2 [] [2, 3] [(13, .bool false)] (on_ (ds_ (f_ (at_skip (ds_ (sq_ ?_)))))))
      have h0a := rt_first q3
      have h0b := rt_first q7
      refine ao_ (qo0 4 [(1, .go (owns 1 1 3)), (3, .go (owns 0 1 3))] [2, 3] [(15, .agg #[.int .u64 a.th, .int .u64 a.tl, .int .u64 a.tw]), (17, .agg #[.int .u64 b.th, .int .u64 b.tl, .int .u64 b.tw])] (cD (.int .i64 (cmpF a.t b.t)) Try.call50 (fun w hw => by have := rcmp_t a.t b.t w ra.tU rb.tU; rw [show cmpI (a.t.num * b.t.w) (b.t.num * a.t.w) = cmpF a.t b.t from (cmpF_p (a := a.val) (b := b.val) (rt_iff.1 q3).2 (rt_iff.1 q7).2).symm] at this; exact this) (qo0 1 [] [2, 3] [(5, .int .i64 (cmpF a.t b.t))] (on_ (ds_ (sq_ (at_block (sq_ ?_))))))))
      rcases q14 : a.fresh with _ | _
      ·
        rcases q16 : b.fresh with _ | _
        ·
          refine qa [(1, .go (owns 1 5 1)), (3, .go (owns 0 5 1)), (4, .eqs false)] [2, 3, 5] [(19, .bool false)] ([EqRun Try.prog .neq 4 (.tmp 21) (.tmp 23) (.bool false) (.bool false) false]) (al1 (bool_ne false false)) (ds_ (f_ (sq_ ?_)))
          by_cases q19 : ((cmpF a.t b.t) : Int) ≠ (0 : Int)
          ·
            refine qa [(1, .yes)] [2, 3, 5] [(27, .bool true)] ([((cmpF a.t b.t) : Int) ≠ (0 : Int)]) (al1 q19) (ds_ (t_ (sq_ ?_)))
            by_cases q22 : ((cmpF a.t b.t) : Int) < (0 : Int)
            ·
              refine qa [(1, .yes)] [] [(4, .bool true)] ([((cmpF a.t b.t) : Int) < (0 : Int)]) (al1 q22) (ds_ (rt ([]) (.bool true) ?_))
              obtain ⟨u, hu⟩ := get_some (l := a.l) (m := 0) h0a
              obtain ⟨v, hv⟩ := get_some (l := b.l) (m := 0) h0b
              have e1 : a.val.t = a.t := rfl
              have e2 : b.val.t = b.t := rfl
              have e3 : a.val.ord = a.ord := rfl
              have e4 : b.val.ord = b.ord := rfl
              exact fun w' hw => ⟨by rw [ahd_s (a := a.val) (b := b.val) q3 q7 (q14.trans q16.symm) hu hv, e1, e2, e3, e4, decide_eq_true (by omega)], hw.below⟩
            ·
              refine qa [(1, .no)] [] [(4, .bool false)] ([¬ (((cmpF a.t b.t) : Int) < (0 : Int))]) (al1 q22) (ds_ (rt ([]) (.bool false) ?_))
              obtain ⟨u, hu⟩ := get_some (l := a.l) (m := 0) h0a
              obtain ⟨v, hv⟩ := get_some (l := b.l) (m := 0) h0b
              have e1 : a.val.t = a.t := rfl
              have e2 : b.val.t = b.t := rfl
              have e3 : a.val.ord = a.ord := rfl
              have e4 : b.val.ord = b.ord := rfl
              exact fun w' hw => ⟨by rw [ahd_s (a := a.val) (b := b.val) q3 q7 (q14.trans q16.symm) hu hv, e1, e2, e3, e4, decide_eq_false (by omega)], hw.below⟩
          ·
            refine qa [(1, .no)] [2, 3, 5] [(27, .bool false)] ([¬ (((cmpF a.t b.t) : Int) ≠ (0 : Int))]) (al1 q19) (ds_ (f_ (sq_ ?_)))
            by_cases q27 : (a.ord : Int) ≠ (b.ord : Int)
            ·
              refine qa [(1, .go (owns 1 4 1)), (3, .go (owns 0 4 1)), (4, .yes)] [2, 3] [(32, .bool true)] ([(a.ord : Int) ≠ (b.ord : Int)]) (al1 q27) (ds_ (t_ (sq_ ?_)))
              by_cases q30 : (a.ord : Int) < (b.ord : Int)
              ·
                refine qa [(1, .go (owns 1 4 1)), (3, .go (owns 0 4 1)), (4, .yes)] [] [(4, .bool true)] ([(a.ord : Int) < (b.ord : Int)]) (al1 q30) (ds_ (rt ([]) (.bool true) ?_))
                obtain ⟨u, hu⟩ := get_some (l := a.l) (m := 0) h0a
                obtain ⟨v, hv⟩ := get_some (l := b.l) (m := 0) h0b
                have e1 : a.val.t = a.t := rfl
                have e2 : b.val.t = b.t := rfl
                have e3 : a.val.ord = a.ord := rfl
                have e4 : b.val.ord = b.ord := rfl
                exact fun w' hw => ⟨by rw [ahd_s (a := a.val) (b := b.val) q3 q7 (q14.trans q16.symm) hu hv, e1, e2, e3, e4, decide_eq_true (by omega)], hw.below⟩
              ·
                refine qa [(1, .go (owns 1 4 1)), (3, .go (owns 0 4 1)), (4, .no)] [] [(4, .bool false)] ([¬ ((a.ord : Int) < (b.ord : Int))]) (al1 q30) (ds_ (rt ([]) (.bool false) ?_))
                obtain ⟨u, hu⟩ := get_some (l := a.l) (m := 0) h0a
                obtain ⟨v, hv⟩ := get_some (l := b.l) (m := 0) h0b
                have e1 : a.val.t = a.t := rfl
                have e2 : b.val.t = b.t := rfl
                have e3 : a.val.ord = a.ord := rfl
                have e4 : b.val.ord = b.ord := rfl
                exact fun w' hw => ⟨by rw [ahd_s (a := a.val) (b := b.val) q3 q7 (q14.trans q16.symm) hu hv, e1, e2, e3, e4, decide_eq_false (by omega)], hw.below⟩
            ·
              refine qa [(1, .go (owns 1 4 1)), (3, .go (owns 0 4 1)), (4, .no)] [2, 3] [(32, .bool false)] ([¬ ((a.ord : Int) ≠ (b.ord : Int))]) (al1 q27) (ds_ (f_ (at_skip (done_block (ds_ (sq_ ?_))))))
              obtain ⟨b35, o35, hbo35⟩ := hsa.pos (i := 0) (by omega)
              have hsv35 := hsa
              rw [hbo35] at hsv35
              obtain ⟨x37, hx37⟩ := get_some (l := a.l) (m := 0) (by omega)
              obtain ⟨b39, o39, hbo39⟩ := hsb.pos (i := 0) (by omega)
              have hsv39 := hsb
              rw [hbo39] at hsv39
              obtain ⟨x41, hx41⟩ := get_some (l := b.l) (m := 0) (by omega)
              by_cases q43 : (x37 : Int) < (x41 : Int)
              ·
                refine cq [(1, .go (owns 1 0 1)), (2, .at b35 o35 0), (3, .go (outs b35 (o35 + 0 * 1) [.int .i64 x37])), (5, .go (owns 0 0 1)), (6, .at b39 o39 0), (7, .go (outs b39 (o39 + 0 * 1) [.int .i64 x41])), (8, .yes)] [] [(4, .bool true)] ([(a.p : Option Addr) = some ⟨b35, o35, none⟩, 0 = ((0 : Nat) : Int), 0 < a.n] ++ (cellsP w b35 (o35 + 0 * 1) [.int .i64 x37] ++ ([(b.p : Option Addr) = some ⟨b39, o39, none⟩, 0 = ((0 : Nat) : Int), 0 < b.n] ++ (cellsP w b39 (o39 + 0 * 1) [.int .i64 x41] ++ ([(x37 : Int) < (x41 : Int)]))))) rfl (by kernel_rfl) (by kernel_rfl) (by kernel_rfl) (alA (al2 hbo35 (al2 rfl (al1 (by omega)))) (alA (rd_pre (hsv35.get hx37) _ rfl) (alA (al2 hbo39 (al2 rfl (al1 (by omega)))) (alA (rd_pre (hsv39.get hx41) _ rfl) (al1 q43))))) (ds_ (rt ([]) (.bool true) ?_))
                have e1 : a.val.t = a.t := rfl
                have e2 : b.val.t = b.t := rfl
                have e3 : a.val.ord = a.ord := rfl
                have e4 : b.val.ord = b.ord := rfl
                exact fun w' hw => ⟨by rw [ahd_s (a := a.val) (b := b.val) q3 q7 (q14.trans q16.symm) hx37 hx41, e1, e2, e3, e4, decide_eq_true (by omega)], hw.below⟩
              ·
                refine cq [(1, .go (owns 1 0 1)), (2, .at b35 o35 0), (3, .go (outs b35 (o35 + 0 * 1) [.int .i64 x37])), (5, .go (owns 0 0 1)), (6, .at b39 o39 0), (7, .go (outs b39 (o39 + 0 * 1) [.int .i64 x41])), (8, .no)] [] [(4, .bool false)] ([(a.p : Option Addr) = some ⟨b35, o35, none⟩, 0 = ((0 : Nat) : Int), 0 < a.n] ++ (cellsP w b35 (o35 + 0 * 1) [.int .i64 x37] ++ ([(b.p : Option Addr) = some ⟨b39, o39, none⟩, 0 = ((0 : Nat) : Int), 0 < b.n] ++ (cellsP w b39 (o39 + 0 * 1) [.int .i64 x41] ++ ([¬ ((x37 : Int) < (x41 : Int))]))))) rfl (by kernel_rfl) (by kernel_rfl) (by kernel_rfl) (alA (al2 hbo35 (al2 rfl (al1 (by omega)))) (alA (rd_pre (hsv35.get hx37) _ rfl) (alA (al2 hbo39 (al2 rfl (al1 (by omega)))) (alA (rd_pre (hsv39.get hx41) _ rfl) (al1 q43))))) (ds_ (rt ([]) (.bool false) ?_))
                have e1 : a.val.t = a.t := rfl
                have e2 : b.val.t = b.t := rfl
                have e3 : a.val.ord = a.ord := rfl
                have e4 : b.val.ord = b.ord := rfl
                exact fun w' hw => ⟨by rw [ahd_s (a := a.val) (b := b.val) q3 q7 (q14.trans q16.symm) hx37 hx41, e1, e2, e3, e4, decide_eq_false (by omega)], hw.below⟩
        ·
          refine qa [(1, .go (owns 1 5 1)), (3, .go (owns 0 5 1)), (4, .eqs true)] [2, 3, 5] [(19, .bool true)] ([EqRun Try.prog .neq 4 (.tmp 21) (.tmp 23) (.bool false) (.bool true) true]) (al1 (bool_ne false true)) (ds_ (t_ (sq_ (qa0 [(1, .go (owns 1 5 1))] [] [(4, .bool false)] (ds_ (rt ([]) (.bool false) ?_))))))
          exact fun w' hw => ⟨by rw [ahd_f (a := a.val) (b := b.val) q3 q7 (fun h => by have h2 : a.fresh = b.fresh := h; rw [q14, q16] at h2; cases h2), show a.val.fresh = false from q14], hw.below⟩
      ·
        rcases q49 : b.fresh with _ | _
        ·
          refine qa [(1, .go (owns 1 5 1)), (3, .go (owns 0 5 1)), (4, .eqs true)] [2, 3, 5] [(19, .bool true)] ([EqRun Try.prog .neq 4 (.tmp 21) (.tmp 23) (.bool true) (.bool false) true]) (al1 (bool_ne true false)) (ds_ (t_ (sq_ (qa0 [(1, .go (owns 1 5 1))] [] [(4, .bool true)] (ds_ (rt ([]) (.bool true) ?_))))))
          exact fun w' hw => ⟨by rw [ahd_f (a := a.val) (b := b.val) q3 q7 (fun h => by have h2 : a.fresh = b.fresh := h; rw [q14, q49] at h2; cases h2), show a.val.fresh = true from q14], hw.below⟩
        ·
          refine qa [(1, .go (owns 1 5 1)), (3, .go (owns 0 5 1)), (4, .eqs false)] [2, 3, 5] [(19, .bool false)] ([EqRun Try.prog .neq 4 (.tmp 21) (.tmp 23) (.bool true) (.bool true) false]) (al1 (bool_ne true true)) (ds_ (f_ (sq_ ?_)))
          by_cases q54 : ((cmpF a.t b.t) : Int) ≠ (0 : Int)
          ·
            refine qa [(1, .yes)] [2, 3, 5] [(27, .bool true)] ([((cmpF a.t b.t) : Int) ≠ (0 : Int)]) (al1 q54) (ds_ (t_ (sq_ ?_)))
            by_cases q57 : ((cmpF a.t b.t) : Int) < (0 : Int)
            ·
              refine qa [(1, .yes)] [] [(4, .bool true)] ([((cmpF a.t b.t) : Int) < (0 : Int)]) (al1 q57) (ds_ (rt ([]) (.bool true) ?_))
              obtain ⟨u, hu⟩ := get_some (l := a.l) (m := 0) h0a
              obtain ⟨v, hv⟩ := get_some (l := b.l) (m := 0) h0b
              have e1 : a.val.t = a.t := rfl
              have e2 : b.val.t = b.t := rfl
              have e3 : a.val.ord = a.ord := rfl
              have e4 : b.val.ord = b.ord := rfl
              exact fun w' hw => ⟨by rw [ahd_s (a := a.val) (b := b.val) q3 q7 (q14.trans q49.symm) hu hv, e1, e2, e3, e4, decide_eq_true (by omega)], hw.below⟩
            ·
              refine qa [(1, .no)] [] [(4, .bool false)] ([¬ (((cmpF a.t b.t) : Int) < (0 : Int))]) (al1 q57) (ds_ (rt ([]) (.bool false) ?_))
              obtain ⟨u, hu⟩ := get_some (l := a.l) (m := 0) h0a
              obtain ⟨v, hv⟩ := get_some (l := b.l) (m := 0) h0b
              have e1 : a.val.t = a.t := rfl
              have e2 : b.val.t = b.t := rfl
              have e3 : a.val.ord = a.ord := rfl
              have e4 : b.val.ord = b.ord := rfl
              exact fun w' hw => ⟨by rw [ahd_s (a := a.val) (b := b.val) q3 q7 (q14.trans q49.symm) hu hv, e1, e2, e3, e4, decide_eq_false (by omega)], hw.below⟩
          ·
            refine qa [(1, .no)] [2, 3, 5] [(27, .bool false)] ([¬ (((cmpF a.t b.t) : Int) ≠ (0 : Int))]) (al1 q54) (ds_ (f_ (sq_ ?_)))
            by_cases q62 : (a.ord : Int) ≠ (b.ord : Int)
            ·
              refine qa [(1, .go (owns 1 4 1)), (3, .go (owns 0 4 1)), (4, .yes)] [2, 3] [(32, .bool true)] ([(a.ord : Int) ≠ (b.ord : Int)]) (al1 q62) (ds_ (t_ (sq_ ?_)))
              by_cases q65 : (a.ord : Int) < (b.ord : Int)
              ·
                refine qa [(1, .go (owns 1 4 1)), (3, .go (owns 0 4 1)), (4, .yes)] [] [(4, .bool true)] ([(a.ord : Int) < (b.ord : Int)]) (al1 q65) (ds_ (rt ([]) (.bool true) ?_))
                obtain ⟨u, hu⟩ := get_some (l := a.l) (m := 0) h0a
                obtain ⟨v, hv⟩ := get_some (l := b.l) (m := 0) h0b
                have e1 : a.val.t = a.t := rfl
                have e2 : b.val.t = b.t := rfl
                have e3 : a.val.ord = a.ord := rfl
                have e4 : b.val.ord = b.ord := rfl
                exact fun w' hw => ⟨by rw [ahd_s (a := a.val) (b := b.val) q3 q7 (q14.trans q49.symm) hu hv, e1, e2, e3, e4, decide_eq_true (by omega)], hw.below⟩
              ·
                refine qa [(1, .go (owns 1 4 1)), (3, .go (owns 0 4 1)), (4, .no)] [] [(4, .bool false)] ([¬ ((a.ord : Int) < (b.ord : Int))]) (al1 q65) (ds_ (rt ([]) (.bool false) ?_))
                obtain ⟨u, hu⟩ := get_some (l := a.l) (m := 0) h0a
                obtain ⟨v, hv⟩ := get_some (l := b.l) (m := 0) h0b
                have e1 : a.val.t = a.t := rfl
                have e2 : b.val.t = b.t := rfl
                have e3 : a.val.ord = a.ord := rfl
                have e4 : b.val.ord = b.ord := rfl
                exact fun w' hw => ⟨by rw [ahd_s (a := a.val) (b := b.val) q3 q7 (q14.trans q49.symm) hu hv, e1, e2, e3, e4, decide_eq_false (by omega)], hw.below⟩
            ·
              refine qa [(1, .go (owns 1 4 1)), (3, .go (owns 0 4 1)), (4, .no)] [2, 3] [(32, .bool false)] ([¬ ((a.ord : Int) ≠ (b.ord : Int))]) (al1 q62) (ds_ (f_ (at_skip (done_block (ds_ (sq_ ?_))))))
              obtain ⟨b70, o70, hbo70⟩ := hsa.pos (i := 0) (by omega)
              have hsv70 := hsa
              rw [hbo70] at hsv70
              obtain ⟨x72, hx72⟩ := get_some (l := a.l) (m := 0) (by omega)
              obtain ⟨b74, o74, hbo74⟩ := hsb.pos (i := 0) (by omega)
              have hsv74 := hsb
              rw [hbo74] at hsv74
              obtain ⟨x76, hx76⟩ := get_some (l := b.l) (m := 0) (by omega)
              by_cases q78 : (x72 : Int) < (x76 : Int)
              ·
                refine cq [(1, .go (owns 1 0 1)), (2, .at b70 o70 0), (3, .go (outs b70 (o70 + 0 * 1) [.int .i64 x72])), (5, .go (owns 0 0 1)), (6, .at b74 o74 0), (7, .go (outs b74 (o74 + 0 * 1) [.int .i64 x76])), (8, .yes)] [] [(4, .bool true)] ([(a.p : Option Addr) = some ⟨b70, o70, none⟩, 0 = ((0 : Nat) : Int), 0 < a.n] ++ (cellsP w b70 (o70 + 0 * 1) [.int .i64 x72] ++ ([(b.p : Option Addr) = some ⟨b74, o74, none⟩, 0 = ((0 : Nat) : Int), 0 < b.n] ++ (cellsP w b74 (o74 + 0 * 1) [.int .i64 x76] ++ ([(x72 : Int) < (x76 : Int)]))))) rfl (by kernel_rfl) (by kernel_rfl) (by kernel_rfl) (alA (al2 hbo70 (al2 rfl (al1 (by omega)))) (alA (rd_pre (hsv70.get hx72) _ rfl) (alA (al2 hbo74 (al2 rfl (al1 (by omega)))) (alA (rd_pre (hsv74.get hx76) _ rfl) (al1 q78))))) (ds_ (rt ([]) (.bool true) ?_))
                have e1 : a.val.t = a.t := rfl
                have e2 : b.val.t = b.t := rfl
                have e3 : a.val.ord = a.ord := rfl
                have e4 : b.val.ord = b.ord := rfl
                exact fun w' hw => ⟨by rw [ahd_s (a := a.val) (b := b.val) q3 q7 (q14.trans q49.symm) hx72 hx76, e1, e2, e3, e4, decide_eq_true (by omega)], hw.below⟩
              ·
                refine cq [(1, .go (owns 1 0 1)), (2, .at b70 o70 0), (3, .go (outs b70 (o70 + 0 * 1) [.int .i64 x72])), (5, .go (owns 0 0 1)), (6, .at b74 o74 0), (7, .go (outs b74 (o74 + 0 * 1) [.int .i64 x76])), (8, .no)] [] [(4, .bool false)] ([(a.p : Option Addr) = some ⟨b70, o70, none⟩, 0 = ((0 : Nat) : Int), 0 < a.n] ++ (cellsP w b70 (o70 + 0 * 1) [.int .i64 x72] ++ ([(b.p : Option Addr) = some ⟨b74, o74, none⟩, 0 = ((0 : Nat) : Int), 0 < b.n] ++ (cellsP w b74 (o74 + 0 * 1) [.int .i64 x76] ++ ([¬ ((x72 : Int) < (x76 : Int))]))))) rfl (by kernel_rfl) (by kernel_rfl) (by kernel_rfl) (alA (al2 hbo70 (al2 rfl (al1 (by omega)))) (alA (rd_pre (hsv70.get hx72) _ rfl) (alA (al2 hbo74 (al2 rfl (al1 (by omega)))) (alA (rd_pre (hsv74.get hx76) _ rfl) (al1 q78))))) (ds_ (rt ([]) (.bool false) ?_))
                have e1 : a.val.t = a.t := rfl
                have e2 : b.val.t = b.t := rfl
                have e3 : a.val.ord = a.ord := rfl
                have e4 : b.val.ord = b.ord := rfl
                exact fun w' hw => ⟨by rw [ahd_s (a := a.val) (b := b.val) q3 q7 (q14.trans q49.symm) hx72 hx76, e1, e2, e3, e4, decide_eq_false (by omega)], hw.below⟩

set_option maxRecDepth 100000 in
theorem has_t (p : Option Addr) (n cap : Nat) (l : List Int) (k : Int) (w : World)
    (hsl : Sv w p l) (hn : n = l.length) (hb : n ≤ 1000)
    : Calls Try.prog 43 #[.slice p n cap, .int .i64 k] w fun e w' => e = .returned (.bool (decide (k ∈ l))) ∧ Below w.heap.size w w' := by
  refine enter (Hs.start w) Try.func43 rfl Try.ntmps43 rfl (sq_ (qa0 [] [0, 1] [] (ds_ (sq_ (sq_ (qa0 [] [1] [(7, .slice p n cap), (8, .int .i64 (n : Nat)), (9, .int .i64 0)] (ds_ (at_block (at_loop (α := Nat) [1, 7, 8, 9] (fun j => [(1, .int .i64 k), (7, .slice p n cap), (8, .int .i64 (n : Nat)), (9, .int .i64 (j : Nat))]) (fun j => []) (fun j => j ≤ n ∧ ∀ t y, t < j → l[t]? = some y → ¬ y = k) (fun j => n - j) 0 (by kernel_rfl) rfl ⟨Nat.zero_le _, fun t y h => by omega⟩ ?_)))))))))
  rintro j
  rintro ⟨hj, hI⟩
  refine sq_ ?_
  by_cases q4 : ((j : Nat) : Int) < ((n : Nat) : Int)
  ·
    refine qa [(0, .yes)] [1, 7, 8, 9] [(10, .bool true)] ([((j : Nat) : Int) < ((n : Nat) : Int)]) (al1 q4) (ds_ (sq_ (t_ (at_skip (ds_ (sq_ (at_block (sq_ ?_))))))))
    obtain ⟨b7, o7, rfl⟩ := hsl.pos (i := j) (by omega)
    obtain ⟨x9, hx9⟩ := get_some (l := l) (m := j) (by omega)
    refine qa [(0, .at b7 o7 j), (1, .go (outs b7 (o7 + j * 1) [.int .i64 x9]))] [1, 7, 8, 9] [(6, .int .i64 x9)] ([(some ⟨b7, o7, none⟩ : Option Addr) = some ⟨b7, o7, none⟩, (j : Nat) = ((j : Nat) : Int), j < n] ++ (cellsP w b7 (o7 + j * 1) [.int .i64 x9])) (alA (al2 rfl (al2 rfl (al1 (by omega)))) (rd_pre (hsl.get hx9) _ rfl)) (ds_ (sq_ ?_))
    by_cases q12 : (x9 : Int) = (k : Int)
    ·
      refine qa [(2, .yes)] [1, 7, 8, 9] [(15, .bool true)] ([(x9 : Int) = (k : Int)]) (al1 q12) (ds_ (t_ (sq_ (qa0 [] [] [(4, .bool true)] (ds_ (rt ([]) (.bool true) ?_))))))
      exact fun w' hw => ⟨by rw [mem_yes hx9 q12], hw.below⟩
    ·
      refine qa [(2, .no)] [1, 7, 8, 9] [(15, .bool false)] ([¬ ((x9 : Int) = (k : Int))]) (al1 q12) (ds_ (f_ (at_skip (done_block (ds_ (qa [(0, .fit)] [1, 7, 8] [(9, .int .i64 (j + 1 : Nat))] ([Fit .i64 ((j + 1 : Nat))]) (al1 (fit64 (by omega) (by omega))) ?_))))))
      exact dr [1, 7, 8, 9] (j + 1) ⟨by omega, mem_onT hI hx9 q12⟩
  ·
    refine qa [(0, .no)] [1, 7, 8, 9] [(10, .bool false)] ([¬ (((j : Nat) : Int) < ((n : Nat) : Int))]) (al1 q4) (ds_ (sq_ (f_ (at_leave _ rfl (ds_ (sq_ (qa0 [] [] [(4, .bool false)] (ds_ (rt ([]) (.bool false) ?_)))))))))
    exact fun w' hw => ⟨by rw [mem_no hI (by omega)], hw.below⟩

set_option maxRecDepth 100000 in
theorem index_t (p : Option Addr) (n cap : Nat) (l : List Int) (k : Int) (w : World)
    (hsl : Sv w p l) (hn : n = l.length) (hb : n ≤ 1000)
    : Calls Try.prog 71 #[.slice p n cap, .int .i64 k] w fun e w' => e = .returned (.int .i64 (idxF (fun y => decide (y = k)) l)) ∧ Below w.heap.size w w' := by
  refine enter (Hs.start w) Try.func71 rfl Try.ntmps71 rfl (sq_ (qa0 [] [0, 1] [] (ds_ (sq_ (sq_ (qa0 [] [0, 1] [(7, .int .i64 (n : Nat)), (8, .int .i64 0)] (ds_ (at_block (at_loop (α := Nat) [0, 1, 7, 8] (fun j => [(0, .slice p n cap), (1, .int .i64 k), (7, .int .i64 (n : Nat)), (8, .int .i64 (j : Nat))]) (fun j => []) (fun j => j ≤ n ∧ ∀ t y, t < j → l[t]? = some y → ¬ y = k) (fun j => n - j) 0 (by kernel_rfl) rfl ⟨Nat.zero_le _, fun t y h => by omega⟩ ?_)))))))))
  rintro j
  rintro ⟨hj, hI⟩
  refine sq_ ?_
  by_cases q4 : ((j : Nat) : Int) < ((n : Nat) : Int)
  ·
    refine qa [(0, .yes)] [0, 1, 7, 8] [(9, .bool true)] ([((j : Nat) : Int) < ((n : Nat) : Int)]) (al1 q4) (ds_ (sq_ (t_ (at_skip (ds_ (sq_ (at_block (sq_ (qa0 [] [0, 1, 7, 8] [(5, .int .i64 (j : Nat))] (ds_ (sq_ ?_)))))))))))
    obtain ⟨b8, o8, rfl⟩ := hsl.pos (i := j) (by omega)
    obtain ⟨x10, hx10⟩ := get_some (l := l) (m := j) (by omega)
    by_cases q12 : (k : Int) = (x10 : Int)
    ·
      refine qa [(3, .at b8 o8 j), (4, .go (outs b8 (o8 + j * 1) [.int .i64 x10])), (5, .yes)] [0, 1, 5, 7, 8] [(16, .bool true)] ([(some ⟨b8, o8, none⟩ : Option Addr) = some ⟨b8, o8, none⟩, (j : Nat) = ((j : Nat) : Int), j < n] ++ (cellsP w b8 (o8 + j * 1) [.int .i64 x10] ++ ([(k : Int) = (x10 : Int)]))) (alA (al2 rfl (al2 rfl (al1 (by omega)))) (alA (rd_pre (hsl.get hx10) _ rfl) (al1 q12))) (ds_ (t_ (sq_ (qa0 [] [] [(4, .int .i64 (j : Nat))] (ds_ (rt ([]) (.int .i64 (j : Nat)) ?_))))))
      exact fun w' hw => ⟨by rw [idxF_hit (fun t y ht hy => decide_eq_false (hI t y ht hy)) hx10 (decide_eq_true q12.symm)], hw.below⟩
    ·
      refine qa [(3, .at b8 o8 j), (4, .go (outs b8 (o8 + j * 1) [.int .i64 x10])), (5, .no)] [0, 1, 5, 7, 8] [(16, .bool false)] ([(some ⟨b8, o8, none⟩ : Option Addr) = some ⟨b8, o8, none⟩, (j : Nat) = ((j : Nat) : Int), j < n] ++ (cellsP w b8 (o8 + j * 1) [.int .i64 x10] ++ ([¬ ((k : Int) = (x10 : Int))]))) (alA (al2 rfl (al2 rfl (al1 (by omega)))) (alA (rd_pre (hsl.get hx10) _ rfl) (al1 q12))) (ds_ (f_ (at_skip (done_block (ds_ (qa [(0, .fit)] [0, 1, 7] [(8, .int .i64 (j + 1 : Nat))] ([Fit .i64 ((j + 1 : Nat))]) (al1 (fit64 (by omega) (by omega))) ?_))))))
      exact dr [0, 1, 7, 8] (j + 1) ⟨by omega, mem_onT hI hx10 (fun h => q12 h.symm)⟩
  ·
    refine qa [(0, .no)] [0, 1, 7, 8] [(9, .bool false)] ([¬ (((j : Nat) : Int) < ((n : Nat) : Int))]) (al1 q4) (ds_ (sq_ (f_ (at_leave _ rfl (ds_ (sq_ (qa0 [] [] [(4, .int .i64 (-1))] (ds_ (rt ([]) (.int .i64 (-1)) ?_)))))))))
    exact fun w' hw => ⟨by rw [idxF_miss (fun t y ht hy => decide_eq_false (hI t y ht hy)) (by omega)], hw.below⟩

set_option maxRecDepth 100000 in
theorem contains_t (p : Option Addr) (n cap : Nat) (l : List Int) (k : Int) (w : World)
    (hsl : Sv w p l) (hn : n = l.length) (hb : n ≤ 1000)
    : Calls Try.prog 53 #[.slice p n cap, .int .i64 k] w fun e w' => e = .returned (.bool (decide (k ∈ l))) ∧ Below w.heap.size w w' := by
  refine enter (Hs.start w) Try.func53 rfl Try.ntmps53 rfl (sq_ (qa0 [] [0, 1] [] (ds_ (sq_ (ao_ (qo0 2 [] [] [(5, .slice p n cap), (6, .int .i64 k)] (cD (.int .i64 (idxF (fun y => decide (y = k)) l)) Try.call71 (fun w hw => index_t p n cap l k w (hsl.kept hw.below) hn (by omega)) ?_)))))))
  by_cases q4 : ((idxF (fun y => decide (y = k)) l) : Int) ≥ (0 : Int)
  ·
    refine qo 2 [(3, .yes)] [] [(4, .bool true)] ([((idxF (fun y => decide (y = k)) l) : Int) ≥ (0 : Int)]) (al1 q4) (on_ (ds_ (rt ([]) (.bool true) ?_)))
    exact fun w' hw => ⟨by rw [idx_no q4], hw.below⟩
  ·
    refine qo 2 [(3, .no)] [] [(4, .bool false)] ([¬ (((idxF (fun y => decide (y = k)) l) : Int) ≥ (0 : Int))]) (al1 q4) (on_ (ds_ (rt ([]) (.bool false) ?_)))
    exact fun w' hw => ⟨by rw [idx_yes q4], hw.below⟩
theorem rd_one12 {w : World} {g : Nat} {v : Value} {T : TypeId} {f : Nat × Nat} (h : w.heap[g]? = some (.cells #[v] T f)) : Rd w g (0 + 0 * 1) [v] := fun j u hj => by
  match j, hj with
  | 0, hj => rw [show (⟨g, 0 + 0 * 1 + 0, none⟩ : Addr) = ⟨g, 0, none⟩ from rfl, cell_own h]; simpa using hj

set_option maxRecDepth 100000 in
theorem place1_t (x : EnA) (g : Nat) (k : Int) (w : World)
    (hk : Rd w g (0 + 0 * 1) [.int .i64 k]) (hsx : Sv w x.p x.l) (hnx : x.n = x.l.length) (hm9x : x.n ≤ 1000)
    : Calls Try.prog 52 #[.agg #[.slice x.p x.n x.cap, .int .u64 x.th, .int .u64 x.tl, .int .u64 x.tw, .int .u64 x.ord, .bool x.fresh], .pointer (some ⟨g, 0 + 0 * 1, none⟩)] w fun e w' => e = .returned (.bool (hasA k x)) ∧ Below w.heap.size w w' := by
  refine enter (Hs.start w) Try.func52 rfl Try.ntmps52 rfl (sq_ (ma0 [] [1] (fun γ1 => [(2, .pointer (some ⟨γ1 0, 0, none⟩))]) (fun γ1 L => bx (γ1 0) (#[.slice x.p x.n x.cap, .int .u64 x.th, .int .u64 x.tl, .int .u64 x.tw, .int .u64 x.ord, .bool x.fresh]) 47 :: L) (fun γ1 => ds_ (sq_ (ao_ (qo 3 [(1, .go (owns 0 0 1)), (2, .go (outs g (0 + 0 * 1) [.int .i64 k]))] [] [(5, .slice x.p x.n x.cap), (6, .int .i64 k)] (cellsP w g (0 + 0 * 1) [.int .i64 k]) (rd_pre hk _ rfl) ?_))))))
  rcases q3 : decide (k ∈ x.l) with _ | _
  ·
    refine cD (.bool false) Try.call53 (fun w hw => by have := contains_t x.p x.n x.cap x.l k w (hsx.kept hw.below) hnx (by omega); rw [q3] at this; exact this) (qo0 1 [] [] [(3, .bool false)] (on_ (ds_ (rt ([]) (.bool false) ?_))))
    exact fun w' hw => ⟨by rw [show hasA k x = false from q3], hw.below⟩
  ·
    refine cD (.bool true) Try.call53 (fun w hw => by have := contains_t x.p x.n x.cap x.l k w (hsx.kept hw.below) hnx (by omega); rw [q3] at this; exact this) (qo0 1 [] [] [(3, .bool true)] (on_ (ds_ (rt ([]) (.bool true) ?_))))
    exact fun w' hw => ⟨by rw [show hasA k x = true from q3], hw.below⟩

set_option maxRecDepth 100000 in
theorem eindexf_t (w0 : World) (X : List Ob) (pg : FuncId) (pcb : Array Value) (pd : EnA → Bool) (p : Option Addr) (n cap : Nat) (l : List EnA) (w : World)
    (he : ∀ args w, (callFunc pg args).run Try.prog w = .ok (.enter pg args) w)
    (hX : Hs w0 X w) (hsl : Sv w p l) (hn : n = l.length) (hb : n ≤ 4611686018427387903)
    (hc : ∀ x ∈ l, ∀ w', Hs w0 X w' → Calls Try.prog pg (#[.agg #[.slice x.p x.n x.cap, .int .u64 x.th, .int .u64 x.tl, .int .u64 x.tw, .int .u64 x.ord, .bool x.fresh]] ++ pcb) w' fun e w1 => e = .returned (.bool (pd x)) ∧ Below w'.heap.size w' w1)
    : Calls Try.prog 51 #[.slice p n cap, .func (.func pg) #[] pcb] w fun e w' => e = .returned (.int .i64 (idxF pd l)) ∧ Below w.heap.size w w' := by
  refine enter (Hs.start w) Try.func51 rfl Try.ntmps51 rfl (sq_ (qa0 [] [0, 1] [] (ds_ (sq_ (sq_ (qa0 [] [0, 1] [(7, .int .i64 (n : Nat)), (8, .int .i64 0)] (ds_ (at_block (at_loop (α := Nat) [0, 1, 7, 8] (fun j => [(0, .slice p n cap), (1, .func (.func pg) #[] pcb), (7, .int .i64 (n : Nat)), (8, .int .i64 (j : Nat))]) (fun j => []) (fun j => j ≤ n ∧ ∀ (t : Nat) (y : EnA), t < j → l[t]? = some y → pd y = false) (fun j => n - j) 0 (by kernel_rfl) rfl ⟨Nat.zero_le _, fun t y h => by omega⟩ ?_)))))))))
  rintro j
  rintro ⟨hj, hI⟩
  refine sq_ ?_
  by_cases q4 : ((j : Nat) : Int) < ((n : Nat) : Int)
  ·
    refine qa [(0, .yes)] [0, 1, 7, 8] [(9, .bool true)] ([((j : Nat) : Int) < ((n : Nat) : Int)]) (al1 q4) (ds_ (sq_ (t_ (at_skip (ds_ (sq_ (at_block (sq_ (qa0 [] [0, 1, 7, 8] [(5, .int .i64 (j : Nat))] (ds_ (sq_ ?_)))))))))))
    obtain ⟨b8, o8, rfl⟩ := hsl.pos (i := j) (by omega)
    obtain ⟨x10, hx10⟩ := get_some (l := l) (m := j) (by omega)
    refine ao_ (qo 5 [(3, .at b8 o8 j), (4, .go (outs b8 (o8 + j * 6) [.slice x10.p x10.n x10.cap, .int .u64 x10.th, .int .u64 x10.tl, .int .u64 x10.tw, .int .u64 x10.ord, .bool x10.fresh]))] [0, 1, 5, 7, 8] [(11, .func (.func pg) #[] pcb), (15, .agg #[.slice x10.p x10.n x10.cap, .int .u64 x10.th, .int .u64 x10.tl, .int .u64 x10.tw, .int .u64 x10.ord, .bool x10.fresh])] ([(some ⟨b8, o8, none⟩ : Option Addr) = some ⟨b8, o8, none⟩, (j : Nat) = ((j : Nat) : Int), j < n] ++ (cellsP w b8 (o8 + j * 6) [.slice x10.p x10.n x10.cap, .int .u64 x10.th, .int .u64 x10.tl, .int .u64 x10.tw, .int .u64 x10.ord, .bool x10.fresh])) (alA (al2 rfl (al2 rfl (al1 (by omega)))) (rd_pre (hsl.get hx10) _ rfl)) ?_)
    rcases q12 : pd x10 with _ | _
    ·
      refine cD (.bool false) he (fun w hw => by have := hc x10 (List.mem_of_getElem? hx10) w (hX.kept hw.below); rw [q12] at this; exact this) (on_ (ds_ (f_ (at_skip (done_block (ds_ (qa [(0, .fit)] [0, 1, 7] [(8, .int .i64 (j + 1 : Nat))] ([Fit .i64 ((j + 1 : Nat))]) (al1 (fit64 (by omega) (by omega))) ?_)))))))
      exact done_round [0, 1, 7, 8] (j + 1) (by kernel_rfl) rfl ⟨by omega, fun t y ht e => by
          by_cases htj : t = j
          · subst htj; rw [hx10] at e; cases e; exact q12
          · exact hI t y (by omega) e⟩ (by first | omega | (simp only; omega))
    ·
      refine cD (.bool true) he (fun w hw => by have := hc x10 (List.mem_of_getElem? hx10) w (hX.kept hw.below); rw [q12] at this; exact this) (on_ (ds_ (t_ (sq_ (qa0 [] [] [(4, .int .i64 (j : Nat))] (ds_ (rt ([]) (.int .i64 (j : Nat)) ?_)))))))
      exact fun w' hw => ⟨by rw [idxF_hit hI hx10 q12], hw.below⟩
  ·
    refine qa [(0, .no)] [0, 1, 7, 8] [(9, .bool false)] ([¬ (((j : Nat) : Int) < ((n : Nat) : Int))]) (al1 q4) (ds_ (sq_ (f_ (at_leave _ rfl (ds_ (sq_ (qa0 [] [] [(4, .int .i64 (-1))] (ds_ (rt ([]) (.int .i64 (-1)) ?_)))))))))
    exact fun w' hw => ⟨by rw [idxF_miss hI (by omega)], hw.below⟩

set_option maxRecDepth 100000 in
theorem place_t (q : Option Addr) (m capq : Nat) (al : List EnA) (k : Int) (w : World)
    (hal : Sv w q al) (hma : m = al.length) (hbm : m ≤ 1000) (hnm : ∀ x ∈ al, x.Reads w)
    (hm9 : ∀ x ∈ al, x.n ≤ 1000)
    : Calls Try.prog 28 #[.slice q m capq, .int .i64 k] w fun e w' => e = .returned (.tuple #[.int .i64 (plc k (al.map EnA.val)), .bool (decide (0 ≤ idxE k (al.map EnA.val)))]) ∧ Below w.heap.size w w' := by
  refine enter (Hs.start w) Try.func28 rfl Try.ntmps28 rfl (sq_ (ma0 [] [0] (fun γ1 => [(3, .pointer (some ⟨γ1 0, 0, none⟩))]) (fun γ1 L => bx (γ1 0) (#[.int .i64 k]) 3 :: L) (fun γ1 => ds_ (sq_ (ao_ (qo0 2 [] [] [(7, .slice q m capq), (8, .func (.func 52) #[] #[.pointer (some ⟨γ1 0, 0, none⟩)])] (cD (.int .i64 (idxF (hasA k) al)) Try.call51 (fun w hw => eindexf_t _ _ 52 #[.pointer (some ⟨γ1 0, 0, none⟩)] (hasA k) q m capq al w (fun args w => Try.call52 args w) hw (hal.kept hw.below) hma (by omega) (fun x hx w' hX => place1_t x (γ1 0) k w' (rd_one12 (hX.row 0 rfl)) ((hnm x hx).kept hX.below).sv (hnm x hx).hn (hm9 x hx))) (qo0 1 [] [] [(6, .int .i64 (idxF (hasA k) al))] (on_ (ds_ (sq_ ?_)))))))))))
  by_cases q5 : ((idxF (hasA k) al) : Int) ≥ (0 : Int)
  ·
    refine qa [(3, .yes)] [] [(4, .int .i64 (if ((idxF (hasA k) al) : Int) < (0 : Int) then 0 else (idxF (hasA k) al))), (5, .bool true)] ([((idxF (hasA k) al) : Int) ≥ (0 : Int)]) (al1 q5) (ds_ (rt ([]) (.tuple #[.int .i64 (if ((idxF (hasA k) al) : Int) < (0 : Int) then 0 else (idxF (hasA k) al)), .bool true]) ?_))
    exact fun w' hw => ⟨by rw [plc_val, ← idx_val, show decide (0 ≤ idxF (hasA k) al) = true from decide_eq_true (by omega)], hw.below⟩
  ·
    refine qa [(3, .no)] [] [(4, .int .i64 (if ((idxF (hasA k) al) : Int) < (0 : Int) then 0 else (idxF (hasA k) al))), (5, .bool false)] ([¬ (((idxF (hasA k) al) : Int) ≥ (0 : Int))]) (al1 q5) (ds_ (rt ([]) (.tuple #[.int .i64 (if ((idxF (hasA k) al) : Int) < (0 : Int) then 0 else (idxF (hasA k) al)), .bool false]) ?_))
    exact fun w' hw => ⟨by rw [plc_val, ← idx_val, show decide (0 ≤ idxF (hasA k) al) = false from decide_eq_false (by omega)], hw.below⟩

set_option maxRecDepth 100000 in
theorem rplace_t (q : Option Addr) (m capq : Nat) (al : List EnA) (k : Int) (w : World)
    (hal : Sv w q al) (hma : m = al.length) (hbm : m ≤ 1000) (hnm : ∀ x ∈ al, x.Reads w)
    (hm9 : ∀ x ∈ al, x.n ≤ 1000)
    : Calls Try.prog 29 #[.slice q m capq, .int .i64 k] w fun e w' => e = .returned (.tuple #[.int .i64 (plc k (al.map EnA.val)), .bool (decide (0 ≤ idxE k (al.map EnA.val)))]) ∧ Below w.heap.size w w' := by
  refine enter (Hs.start w) Try.func29 rfl Try.ntmps29 rfl (sq_ (qa0 [] [0, 1] [] (ds_ (sq_ (sq_ (qa0 [] [1] [(8, .slice q m capq), (9, .int .i64 (m : Nat)), (10, .int .i64 0)] (ds_ (at_block (at_loop (α := Nat) [1, 8, 9, 10] (fun i => [(1, .int .i64 k), (8, .slice q m capq), (9, .int .i64 (m : Nat)), (10, .int .i64 (i : Nat))]) (fun i => []) (fun i => i ≤ m ∧ ∀ (t : Nat) (y : EnA), t < i → al[t]? = some y → hasA k y = false) (fun i => m - i) 0 (by kernel_rfl) rfl ⟨Nat.zero_le _, fun t y h => by omega⟩ ?_)))))))))
  rintro i
  rintro ⟨hi, hI⟩
  refine sq_ ?_
  by_cases q4 : ((i : Nat) : Int) < ((m : Nat) : Int)
  ·
    refine qa [(0, .yes)] [1, 8, 9, 10] [(11, .bool true)] ([((i : Nat) : Int) < ((m : Nat) : Int)]) (al1 q4) (ds_ (sq_ (t_ (at_skip (ds_ (sq_ (at_block (sq_ ?_))))))))
    obtain ⟨b7, o7, rfl⟩ := hal.pos (i := i) (by omega)
    obtain ⟨x9, hx9⟩ := get_some (l := al) (m := i) (by omega)
    have hrx9 := hnm x9 (List.mem_of_getElem? hx9)
    have hsx9 : Sv w x9.p x9.l := hrx9.sv
    have hnx9 : x9.n = x9.l.length := hrx9.hn
    have hcx9 : x9.n ≤ x9.cap := hrx9.hc
    have hbx9 : x9.cap ≤ 9223372036854775807 := hrx9.hb
    have h9x9 := hm9 x9 (List.mem_of_getElem? hx9)
    refine ma [(1, .at b7 o7 i), (2, .go (outs b7 (o7 + i * 6) [.slice x9.p x9.n x9.cap, .int .u64 x9.th, .int .u64 x9.tl, .int .u64 x9.tw, .int .u64 x9.ord, .bool x9.fresh])), (5, .go (owns 0 0 6))] [1, 8, 9, 10] (fun γ10 => [(6, .int .i64 (i : Nat)), (7, .pointer (some ⟨γ10 0, 0, none⟩))]) (fun γ10 L => bx (γ10 0) (#[.slice x9.p x9.n x9.cap, .int .u64 x9.th, .int .u64 x9.tl, .int .u64 x9.tw, .int .u64 x9.ord, .bool x9.fresh]) 47 :: L) (fun γ10 => [(some ⟨b7, o7, none⟩ : Option Addr) = some ⟨b7, o7, none⟩, (i : Nat) = ((i : Nat) : Int), i < m] ++ (cellsP w b7 (o7 + i * 6) [.slice x9.p x9.n x9.cap, .int .u64 x9.th, .int .u64 x9.tl, .int .u64 x9.tw, .int .u64 x9.ord, .bool x9.fresh])) (fun γ10 => (alA (al2 rfl (al2 rfl (al1 (by omega)))) (rd_pre (hal.get hx9) _ rfl))) (fun γ10 => ds_ (sq_ (ao_ (qo0 3 [(1, .go (owns 0 0 1))] [1, 6, 8, 9, 10] [(16, .slice x9.p x9.n x9.cap), (17, .int .i64 k)] ?_))))
    rcases q12 : decide (k ∈ x9.l) with _ | _
    ·
      refine cD (.bool false) Try.call43 (fun w hw => by have := has_t x9.p x9.n x9.cap x9.l k w (hsx9.kept hw.below) hnx9 (by omega); rw [q12] at this; exact this) (on_ (ds_ (f_ (at_skip (done_block (ds_ (qa [(0, .fit)] [1, 8, 9] [(10, .int .i64 (i + 1 : Nat))] ([Fit .i64 ((i + 1 : Nat))]) (al1 (fit64 (by omega) (by omega))) (Done.drop (L' := []) ?_ (List.Sublist.cons _ (List.Sublist.refl _))))))))))
      exact done_round [1, 8, 9, 10] (i + 1) (by kernel_rfl) rfl ⟨by omega, fun t y ht e => by
          by_cases htj : t = i
          · subst htj; rw [hx9] at e; cases e; exact q12
          · exact hI t y (by omega) e⟩ (by first | omega | (simp only; omega))
    ·
      refine cD (.bool true) Try.call43 (fun w hw => by have := has_t x9.p x9.n x9.cap x9.l k w (hsx9.kept hw.below) hnx9 (by omega); rw [q12] at this; exact this) (on_ (ds_ (t_ (sq_ (qa0 [] [] [(4, .int .i64 (i : Nat)), (5, .bool true)] (ds_ (rt ([]) (.tuple #[.int .i64 (i : Nat), .bool true]) ?_)))))))
      have hix := idxF_hit hI hx9 q12
      exact fun w' hw => ⟨by rw [plc_val, ← idx_val, hix, if_neg (by omega), decide_eq_true (by omega)], hw.below⟩
  ·
    refine qa [(0, .no)] [1, 8, 9, 10] [(11, .bool false)] ([¬ (((i : Nat) : Int) < ((m : Nat) : Int))]) (al1 q4) (ds_ (sq_ (f_ (at_leave _ rfl (ds_ (sq_ (qa0 [] [] [(4, .int .i64 0), (5, .bool false)] (ds_ (rt ([]) (.tuple #[.int .i64 0, .bool false]) ?_)))))))))
    have hix := idxF_miss hI (by omega)
    exact fun w' hw => ⟨by rw [plc_val, ← idx_val, hix]; rfl, hw.below⟩
end Go.Proofs.Ytoljahfofkmdaaa

/-! The walker: a scope without a goto, a label. -/
namespace Go.Proofs.Ytoljahfofkmdaaa
open Go Go.RowKit
section
variable {P : Program} {b : Frame} {a : Act} {ks : List Item} {cs : List Frame} {w : World} {F : Fence} {n : Nat} {Q : Exit → Act → World → Prop}
theorem stepR_scope {c : Code} : step P (lone (b.atR a (.code (.scope c) :: ks)) cs w) = .next (lone (b.atR a (.code c :: .inScope c :: ks)) cs w) :=
  step_lone_go (by simp [stepG, stepG.exec, Frame.atR])
theorem stepR_inScope {c : Code} : step P (lone (b.atR a (.inScope c :: ks)) cs w) = .next (lone (b.atR a ks) cs w) :=
  step_lone_go (by simp [stepG, stepG.exec, Frame.atR])
theorem wpIn_scope {c : Code} (hq0 : ∀ j a w, ¬ Q (.goto j) a w) (h : c.wpIn F n P Q a w) : (Code.scope c).wpIn F n P Q a w := by
  intro b k cs hro hb hr
  have h0 : (lone (b.atR a (.code (.scope c) :: k)) cs w).fenced P F := fenced_calm hb hr rfl
  obtain ⟨e, a₁, w₁, hq, harr⟩ := h b (.inScope c :: k) cs hro hb hr
  cases e with
  | normal => exact ⟨.normal, a₁, w₁, hq, .head h0 stepR_scope (StepsIn.trans harr (.one (fenced_calm hb hr rfl) stepR_inScope))⟩
  | exit id =>
    have hx : exitTo id (.inScope c :: k) = exitTo id k := by simp [exitTo]
    exact ⟨.exit id, a₁, w₁, hq, fun k' hk => .head h0 stepR_scope (harr.1 k' (by rw [hx]; exact hk)),
      fun hr' hk => let ⟨k₁, h1, h2⟩ := harr.2 hr' (by rw [hx]; exact hk); ⟨k₁, h1, .head h0 stepR_scope h2⟩⟩
  | goto l => exact absurd hq (hq0 l a₁ w₁)
  | ret => exact ⟨_, a₁, w₁, hq, .of_steps (.one h0 stepR_scope) harr⟩
  | panic ch => exact ⟨_, a₁, w₁, hq, .of_steps (.one h0 stepR_scope) harr⟩
  | outgrown => exact ⟨_, a₁, w₁, hq, .of_steps (.one h0 stepR_scope) harr⟩
end
section
variable {E : Env} {k : List Fr} {l : Sl} {L : List Ob}
theorem post_goto {j : Nat} {a : Act} {w : World} : ∀ {k : List Fr}, postF E.rd E.P E.R k (.goto j) a w → E.R (.goto j) a w
  | [], h => h
  | .seq c :: k, h => post_goto (k := k) h
  | .block id :: k, h => post_goto (k := k) h
  | .loop I :: k, h => post_goto (k := k) h
theorem at_scope {c : Code} (hg : ∀ j a w, ¬ E.R (.goto j) a w) (h : At E k c l L) : At E k (.scope c) l L := ⟨fun _ _ ha hw => wpIn_scope (fun _ _ _ hq => hg _ _ _ (post_goto hq)) (h.out _ _ ha hw)⟩
theorem at_label {j : Nat} (h : Done E k l L) : At E k (.label j) l L := ⟨fun _ _ ha hw => wpIn_label (h.out _ _ ha hw)⟩
end
end Go.Proofs.Ytoljahfofkmdaaa

/-! Order: who is first; the same entities. -/
namespace Go.Proofs.Ytoljahfofkmdaaa
open Go Go.RowKit

set_option maxRecDepth 100000 in
theorem first_t (q : Option Addr) (m capq : Nat) (al : List EnA) (w : World)
    (hal : Sv w q al) (hma : m = al.length) (hbm : m ≤ 1000) (hnm : ∀ x ∈ al, x.Reads w)
    : Calls Try.prog 25 #[.slice q m capq] w fun e w' => e = .returned (.tuple #[.agg #[.slice ((firstA al).getD zE).p ((firstA al).getD zE).n ((firstA al).getD zE).cap, .int .u64 ((firstA al).getD zE).th, .int .u64 ((firstA al).getD zE).tl, .int .u64 ((firstA al).getD zE).tw, .int .u64 ((firstA al).getD zE).ord, .bool ((firstA al).getD zE).fresh], .bool (firstA al).isSome]) ∧ Below w.heap.size w w' := by
  refine enter (Hs.start w) Try.func25 rfl Try.ntmps25 rfl (sq_ (ma0 [] [0] (fun γ1 => [(2, .pointer (some ⟨γ1 0, 0, none⟩))]) (fun γ1 L => bx (γ1 0) (#[.slice none 0 0, .int .u64 0, .int .u64 0, .int .u64 0, .int .u64 0, .bool false]) 47 :: L) (fun γ1 => ds_ (at_scope (fun _ _ _ h => h) (sq_ (at_label (ds_ (sq_ (sq_ (qa0 [] [0, 2] [(8, .slice q m capq), (9, .int .i64 (m : Nat)), (10, .int .i64 0)] (ds_ (at_block (at_loop (α := Nat) [0, 2, 8, 9, 10] (fun i => [(0, .slice q m capq), (2, .pointer (some ⟨γ1 0, 0, none⟩)), (8, .slice q m capq), (9, .int .i64 (m : Nat)), (10, .int .i64 (i : Nat))]) (fun i => [bx (γ1 0) (#[.slice none 0 0, .int .u64 0, .int .u64 0, .int .u64 0, .int .u64 0, .bool false]) 47]) (fun i => i ≤ m ∧ ∀ (t : Nat) (y : EnA), t < i → al[t]? = some y → goodA al y = false) (fun i => m - i) 0 (by kernel_rfl) rfl ⟨Nat.zero_le _, fun t y h => by omega⟩ ?_)))))))))))))
  rintro i
  rintro ⟨hi, hI⟩
  refine sq_ ?_
  by_cases q4 : ((i : Nat) : Int) < ((m : Nat) : Int)
  ·
    refine qa [(0, .yes)] [0, 2, 8, 9, 10] [(11, .bool true)] ([((i : Nat) : Int) < ((m : Nat) : Int)]) (al1 q4) (ds_ (sq_ (t_ (at_skip (ds_ (sq_ (at_block (sq_ ?_))))))))
    obtain ⟨b7, o7, rfl⟩ := hal.pos (i := i) (by omega)
    obtain ⟨x9, hx9⟩ := get_some (l := al) (m := i) (by omega)
    have hrx9 := hnm x9 (List.mem_of_getElem? hx9)
    have hsx9 : Sv w x9.p x9.l := hrx9.sv
    have hnx9 : x9.n = x9.l.length := hrx9.hn
    have hcx9 : x9.n ≤ x9.cap := hrx9.hc
    have hbx9 : x9.cap ≤ 9223372036854775807 := hrx9.hb
    refine ma [(0, .at b7 o7 i), (1, .go (outs b7 (o7 + i * 6) [.slice x9.p x9.n x9.cap, .int .u64 x9.th, .int .u64 x9.tl, .int .u64 x9.tw, .int .u64 x9.ord, .bool x9.fresh])), (3, .go (owns 0 0 6))] [0, 2, 8, 9, 10] (fun γ10 => [(5, .pointer (some ⟨γ10 0, 0, none⟩))]) (fun γ10 L => bx (γ10 0) (#[.slice x9.p x9.n x9.cap, .int .u64 x9.th, .int .u64 x9.tl, .int .u64 x9.tw, .int .u64 x9.ord, .bool x9.fresh]) 47 :: L) (fun γ10 => [(some ⟨b7, o7, none⟩ : Option Addr) = some ⟨b7, o7, none⟩, (i : Nat) = ((i : Nat) : Int), i < m] ++ (cellsP w b7 (o7 + i * 6) [.slice x9.p x9.n x9.cap, .int .u64 x9.th, .int .u64 x9.tl, .int .u64 x9.tw, .int .u64 x9.ord, .bool x9.fresh])) (fun γ10 => (alA (al2 rfl (al2 rfl (al1 (by omega)))) (rd_pre (hal.get hx9) _ rfl))) (fun γ10 => ds_ (sq_ (sq_ (ao_ (qo0 1 [(0, .go (owns 0 0 6))] [0, 2, 5, 8, 9, 10] [(14, .agg #[.slice x9.p x9.n x9.cap, .int .u64 x9.th, .int .u64 x9.tl, .int .u64 x9.tw, .int .u64 x9.ord, .bool x9.fresh])] ?_)))))
    rcases q12 : rightE x9.val with _ | _
    ·
      refine cD (.bool false) Try.call48 (fun w hw => by have := oright_t x9 w (hrx9.kept hw.below); rw [q12] at this; exact this) (qo0 1 [] [0, 2, 5, 8, 9, 10] [(16, .bool true)] (on_ (ds_ (t_ (at_leave _ rfl (ds_ (qa [(0, .fit)] [0, 2, 8, 9] [(10, .int .i64 (i + 1 : Nat))] ([Fit .i64 ((i + 1 : Nat))]) (al1 (fit64 (by omega) (by omega))) (Done.drop (L' := [bx (γ1 0) (#[.slice none 0 0, .int .u64 0, .int .u64 0, .int .u64 0, .int .u64 0, .bool false]) 47]) ?_ (List.Sublist.cons _ (List.Sublist.cons_cons _ (List.Sublist.refl _)))))))))))
      exact done_round [0, 2, 8, 9, 10] (i + 1) (by kernel_rfl) rfl ⟨by omega, fun t y ht e => by
          by_cases htj : t = i
          · subst htj; rw [hx9] at e; cases e; exact good_r q12
          · exact hI t y (by omega) e⟩ (by first | omega | (simp only; omega))
    ·
      refine cD (.bool true) Try.call48 (fun w hw => by have := oright_t x9 w (hrx9.kept hw.below); rw [q12] at this; exact this) (qo0 1 [] [0, 2, 5, 8, 9, 10] [(16, .bool false)] (on_ (ds_ (f_ (at_skip (ds_ (sq_ (sq_ (qa0 [] [0, 2, 5, 8, 9, 10] [(17, .slice (some ⟨b7, o7, none⟩) m capq), (18, .int .i64 (m : Nat)), (19, .int .i64 0)] (ds_ (at_block (at_loop (α := Nat) [0, 2, 5, 8, 9, 10, 17, 18, 19] (fun j => [(0, .slice (some ⟨b7, o7, none⟩) m capq), (2, .pointer (some ⟨γ1 0, 0, none⟩)), (5, .pointer (some ⟨γ10 0, 0, none⟩)), (8, .slice (some ⟨b7, o7, none⟩) m capq), (9, .int .i64 (m : Nat)), (10, .int .i64 (i : Nat)), (17, .slice (some ⟨b7, o7, none⟩) m capq), (18, .int .i64 (m : Nat)), (19, .int .i64 (j : Nat))]) (fun j => [bx (γ10 0) (#[.slice x9.p x9.n x9.cap, .int .u64 x9.th, .int .u64 x9.tl, .int .u64 x9.tw, .int .u64 x9.ord, .bool x9.fresh]) 47, bx (γ1 0) (#[.slice none 0 0, .int .u64 0, .int .u64 0, .int .u64 0, .int .u64 0, .bool false]) 47]) (fun j => j ≤ m ∧ ∀ (t : Nat) (y : EnA), t < j → al[t]? = some y → aheadE y.val x9.val = false) (fun j => m - j) 0 (by kernel_rfl) rfl ⟨Nat.zero_le _, fun t y h => by omega⟩ ?_))))))))))))
      rintro j
      rintro ⟨hj, hA⟩
      refine sq_ ?_
      by_cases q18 : ((j : Nat) : Int) < ((m : Nat) : Int)
      ·
        refine qa [(0, .yes)] [0, 2, 5, 8, 9, 10, 17, 18, 19] [(20, .bool true)] ([((j : Nat) : Int) < ((m : Nat) : Int)]) (al1 q18) (ds_ (sq_ (t_ (at_skip (ds_ (sq_ (at_block (sq_ ?_))))))))
        obtain ⟨x21, hx21⟩ := get_some (l := al) (m := j) (by omega)
        have hrx21 := hnm x21 (List.mem_of_getElem? hx21)
        have hsx21 : Sv w x21.p x21.l := hrx21.sv
        have hnx21 : x21.n = x21.l.length := hrx21.hn
        have hcx21 : x21.n ≤ x21.cap := hrx21.hc
        have hbx21 : x21.cap ≤ 9223372036854775807 := hrx21.hb
        refine ma [(0, .at b7 o7 j), (1, .go (outs b7 (o7 + j * 6) [.slice x21.p x21.n x21.cap, .int .u64 x21.th, .int .u64 x21.tl, .int .u64 x21.tw, .int .u64 x21.ord, .bool x21.fresh])), (3, .go (owns 0 0 6))] [0, 2, 5, 8, 9, 10, 17, 18, 19] (fun γ22 => [(7, .pointer (some ⟨γ22 0, 0, none⟩))]) (fun γ22 L => bx (γ22 0) (#[.slice x21.p x21.n x21.cap, .int .u64 x21.th, .int .u64 x21.tl, .int .u64 x21.tw, .int .u64 x21.ord, .bool x21.fresh]) 47 :: L) (fun γ22 => [(some ⟨b7, o7, none⟩ : Option Addr) = some ⟨b7, o7, none⟩, (j : Nat) = ((j : Nat) : Int), j < m] ++ (cellsP w b7 (o7 + j * 6) [.slice x21.p x21.n x21.cap, .int .u64 x21.th, .int .u64 x21.tl, .int .u64 x21.tw, .int .u64 x21.ord, .bool x21.fresh])) (fun γ22 => (alA (al2 rfl (al2 rfl (al1 (by omega)))) (rd_pre (hal.get hx21) _ rfl))) (fun γ22 => ds_ (sq_ (ao_ (qo0 2 [(0, .go (owns 0 0 6)), (1, .go (owns 1 0 6))] [0, 2, 5, 8, 9, 10, 17, 18, 19] [(23, .agg #[.slice x21.p x21.n x21.cap, .int .u64 x21.th, .int .u64 x21.tl, .int .u64 x21.tw, .int .u64 x21.ord, .bool x21.fresh]), (24, .agg #[.slice x9.p x9.n x9.cap, .int .u64 x9.th, .int .u64 x9.tl, .int .u64 x9.tw, .int .u64 x9.ord, .bool x9.fresh])] (cD (.bool (aheadE x21.val x9.val)) Try.call20 (fun w hw => ahead_t x21 x9 w (hrx21.kept hw.below) (hrx9.kept hw.below)) (on_ (ds_ ?_)))))))
        rcases q25 : (aheadE x21.val x9.val) with _ | _
        ·
          refine f_ (at_skip (done_block (ds_ (qa [(0, .fit)] [0, 2, 5, 8, 9, 10, 17, 18] [(19, .int .i64 (j + 1 : Nat))] ([Fit .i64 ((j + 1 : Nat))]) (al1 (fit64 (by omega) (by omega))) (Done.drop (L' := [bx (γ10 0) (#[.slice x9.p x9.n x9.cap, .int .u64 x9.th, .int .u64 x9.tl, .int .u64 x9.tw, .int .u64 x9.ord, .bool x9.fresh]) 47, bx (γ1 0) (#[.slice none 0 0, .int .u64 0, .int .u64 0, .int .u64 0, .int .u64 0, .bool false]) 47]) ?_ (List.Sublist.cons _ (List.Sublist.cons_cons _ (List.Sublist.cons_cons _ (List.Sublist.refl _)))))))))
          exact done_round [0, 2, 5, 8, 9, 10, 17, 18, 19] (j + 1) (by kernel_rfl) rfl ⟨by omega, fun t y ht e => by
              by_cases htj : t = j
              · subst htj; rw [hx21] at e; cases e; exact q25
              · exact hA t y (by omega) e⟩ (by first | omega | (simp only; omega))
        ·
          refine t_ (at_leave _ rfl (ds_ (qa [(0, .fit)] [0, 2, 8, 9] [(10, .int .i64 (i + 1 : Nat))] ([Fit .i64 ((i + 1 : Nat))]) (al1 (fit64 (by omega) (by omega))) (Done.drop (L' := [bx (γ1 0) (#[.slice none 0 0, .int .u64 0, .int .u64 0, .int .u64 0, .int .u64 0, .bool false]) 47]) ?_ (List.Sublist.cons _ (List.Sublist.cons _ (List.Sublist.cons_cons _ (List.Sublist.refl _))))))))
          exact done_round [0, 2, 8, 9, 10] (i + 1) (by kernel_rfl) rfl ⟨by omega, fun t y ht e => by
              by_cases htj : t = i
              · subst htj; rw [hx9] at e; cases e; exact good_a hx21 q25
              · exact hI t y (by omega) e⟩ (by first | omega | (simp only; omega))
      ·
        refine qa [(0, .no)] [0, 2, 5, 8, 9, 10, 17, 18, 19] [(20, .bool false)] ([¬ (((j : Nat) : Int) < ((m : Nat) : Int))]) (al1 q18) (ds_ (sq_ (f_ (at_leave _ rfl (ds_ (sq_ (ma0 [(0, .go (owns 0 0 6)), (1, .go (owns 1 0 6))] [2] (fun _ => [(3, .bool true)]) (fun _ L => (L.set 1 (bx (γ1 0) (#[.slice x9.p x9.n x9.cap, .int .u64 x9.th, .int .u64 x9.tl, .int .u64 x9.tw, .int .u64 x9.ord, .bool x9.fresh]) 47))) (fun _ => ds_ (rt (owns 1 0 6) (.tuple #[.agg #[.slice x9.p x9.n x9.cap, .int .u64 x9.th, .int .u64 x9.tl, .int .u64 x9.tw, .int .u64 x9.ord, .bool x9.fresh], .bool true]) ?_)))))))))
        have hF := fst_yes hI hx9 (good_y q12 hA (by omega))
        exact fun w' hw => ⟨by rw [hF]; rfl, hw.below⟩
  ·
    refine qa [(0, .no)] [0, 2, 8, 9, 10] [(11, .bool false)] ([¬ (((i : Nat) : Int) < ((m : Nat) : Int))]) (al1 q4) (ds_ (sq_ (f_ (at_leave _ rfl (ds_ (sq_ (qa0 [(1, .go (owns 0 0 6))] [2] [(3, .bool false)] (ds_ (rt (owns 0 0 6) (.tuple #[.agg #[.slice none 0 0, .int .u64 0, .int .u64 0, .int .u64 0, .int .u64 0, .bool false], .bool false]) ?_)))))))))
    have hF := fst_no hI (by omega)
    exact fun w' hw => ⟨by rw [hF]; rfl, hw.below⟩

set_option maxRecDepth 100000 in
theorem rfirst_t (q : Option Addr) (m capq : Nat) (al : List EnA) (w : World)
    (hal : Sv w q al) (hma : m = al.length) (hbm : m ≤ 1000) (hnm : ∀ x ∈ al, x.Reads w)
    : Calls Try.prog 26 #[.slice q m capq] w fun e w' => e = .returned (.tuple #[.agg #[.slice ((firstA al).getD zE).p ((firstA al).getD zE).n ((firstA al).getD zE).cap, .int .u64 ((firstA al).getD zE).th, .int .u64 ((firstA al).getD zE).tl, .int .u64 ((firstA al).getD zE).tw, .int .u64 ((firstA al).getD zE).ord, .bool ((firstA al).getD zE).fresh], .bool (firstA al).isSome]) ∧ Below w.heap.size w w' := by
  refine enter (Hs.start w) Try.func26 rfl Try.ntmps26 rfl (sq_ (ma0 [] [0] (fun γ1 => [(2, .pointer (some ⟨γ1 0, 0, none⟩))]) (fun γ1 L => bx (γ1 0) (#[.slice none 0 0, .int .u64 0, .int .u64 0, .int .u64 0, .int .u64 0, .bool false]) 47 :: L) (fun γ1 => ds_ (sq_ (sq_ (qa0 [] [0, 2] [(9, .slice q m capq), (10, .int .i64 (m : Nat)), (11, .int .i64 0)] (ds_ (at_block (at_loop (α := Nat) [0, 2, 9, 10, 11] (fun i => [(0, .slice q m capq), (2, .pointer (some ⟨γ1 0, 0, none⟩)), (9, .slice q m capq), (10, .int .i64 (m : Nat)), (11, .int .i64 (i : Nat))]) (fun i => [bx (γ1 0) (#[.slice none 0 0, .int .u64 0, .int .u64 0, .int .u64 0, .int .u64 0, .bool false]) 47]) (fun i => i ≤ m ∧ ∀ (t : Nat) (y : EnA), t < i → al[t]? = some y → goodA al y = false) (fun i => m - i) 0 (by kernel_rfl) rfl ⟨Nat.zero_le _, fun t y h => by omega⟩ ?_)))))))))
  rintro i
  rintro ⟨hi, hI⟩
  refine sq_ ?_
  by_cases q4 : ((i : Nat) : Int) < ((m : Nat) : Int)
  ·
    refine qa [(0, .yes)] [0, 2, 9, 10, 11] [(12, .bool true)] ([((i : Nat) : Int) < ((m : Nat) : Int)]) (al1 q4) (ds_ (sq_ (t_ (at_skip (ds_ (sq_ (at_block (sq_ ?_))))))))
    obtain ⟨b7, o7, rfl⟩ := hal.pos (i := i) (by omega)
    obtain ⟨x9, hx9⟩ := get_some (l := al) (m := i) (by omega)
    have hrx9 := hnm x9 (List.mem_of_getElem? hx9)
    have hsx9 : Sv w x9.p x9.l := hrx9.sv
    have hnx9 : x9.n = x9.l.length := hrx9.hn
    have hcx9 : x9.n ≤ x9.cap := hrx9.hc
    have hbx9 : x9.cap ≤ 9223372036854775807 := hrx9.hb
    refine ma [(0, .at b7 o7 i), (1, .go (outs b7 (o7 + i * 6) [.slice x9.p x9.n x9.cap, .int .u64 x9.th, .int .u64 x9.tl, .int .u64 x9.tw, .int .u64 x9.ord, .bool x9.fresh])), (3, .go (owns 0 0 6))] [0, 2, 9, 10, 11] (fun γ10 => [(5, .pointer (some ⟨γ10 0, 0, none⟩))]) (fun γ10 L => bx (γ10 0) (#[.slice x9.p x9.n x9.cap, .int .u64 x9.th, .int .u64 x9.tl, .int .u64 x9.tw, .int .u64 x9.ord, .bool x9.fresh]) 47 :: L) (fun γ10 => [(some ⟨b7, o7, none⟩ : Option Addr) = some ⟨b7, o7, none⟩, (i : Nat) = ((i : Nat) : Int), i < m] ++ (cellsP w b7 (o7 + i * 6) [.slice x9.p x9.n x9.cap, .int .u64 x9.th, .int .u64 x9.tl, .int .u64 x9.tw, .int .u64 x9.ord, .bool x9.fresh])) (fun γ10 => (alA (al2 rfl (al2 rfl (al1 (by omega)))) (rd_pre (hal.get hx9) _ rfl))) (fun γ10 => ds_ (sq_ (ao_ (qo0 1 [(0, .go (owns 0 0 6))] [0, 2, 5, 9, 10, 11] [(15, .agg #[.slice x9.p x9.n x9.cap, .int .u64 x9.th, .int .u64 x9.tl, .int .u64 x9.tw, .int .u64 x9.ord, .bool x9.fresh])] (cD (.bool (rightE x9.val)) Try.call49 (fun w hw => rright_t x9 w (hrx9.kept hw.below)) (qo0 1 [] [0, 2, 5, 9, 10, 11] [(6, .bool (rightE x9.val))] (on_ (ds_ (sq_ (sq_ (qa0 [] [0, 2, 5, 6, 9, 10, 11] [(17, .slice (some ⟨b7, o7, none⟩) m capq), (18, .int .i64 (m : Nat)), (19, .int .i64 0)] (ds_ (at_block (at_loop (α := Nat × Bool) [0, 2, 5, 6, 9, 10, 11, 17, 18, 19] (fun ⟨j, bb⟩ => [(0, .slice (some ⟨b7, o7, none⟩) m capq), (2, .pointer (some ⟨γ1 0, 0, none⟩)), (5, .pointer (some ⟨γ10 0, 0, none⟩)), (6, .bool bb), (9, .slice (some ⟨b7, o7, none⟩) m capq), (10, .int .i64 (m : Nat)), (11, .int .i64 (i : Nat)), (17, .slice (some ⟨b7, o7, none⟩) m capq), (18, .int .i64 (m : Nat)), (19, .int .i64 (j : Nat))]) (fun ⟨j, bb⟩ => [bx (γ10 0) (#[.slice x9.p x9.n x9.cap, .int .u64 x9.th, .int .u64 x9.tl, .int .u64 x9.tw, .int .u64 x9.ord, .bool x9.fresh]) 47, bx (γ1 0) (#[.slice none 0 0, .int .u64 0, .int .u64 0, .int .u64 0, .int .u64 0, .bool false]) 47]) (fun ⟨j, bb⟩ => j ≤ m ∧ bb = bestA al x9 j) (fun ⟨j, bb⟩ => m - j) (0, rightE x9.val) (by kernel_rfl) rfl ⟨Nat.zero_le _, best_0⟩ ?_))))))))))))))
    rintro ⟨j, bb⟩
    rintro ⟨hj, hB⟩
    refine sq_ ?_
    by_cases q15 : ((j : Nat) : Int) < ((m : Nat) : Int)
    ·
      refine qa [(0, .yes)] [0, 2, 5, 6, 9, 10, 11, 17, 18, 19] [(20, .bool true)] ([((j : Nat) : Int) < ((m : Nat) : Int)]) (al1 q15) (ds_ (sq_ (t_ (at_skip (ds_ (sq_ (at_block (sq_ ?_))))))))
      obtain ⟨x18, hx18⟩ := get_some (l := al) (m := j) (by omega)
      have hrx18 := hnm x18 (List.mem_of_getElem? hx18)
      have hsx18 : Sv w x18.p x18.l := hrx18.sv
      have hnx18 : x18.n = x18.l.length := hrx18.hn
      have hcx18 : x18.n ≤ x18.cap := hrx18.hc
      have hbx18 : x18.cap ≤ 9223372036854775807 := hrx18.hb
      refine ma [(0, .at b7 o7 j), (1, .go (outs b7 (o7 + j * 6) [.slice x18.p x18.n x18.cap, .int .u64 x18.th, .int .u64 x18.tl, .int .u64 x18.tw, .int .u64 x18.ord, .bool x18.fresh])), (3, .go (owns 0 0 6))] [0, 2, 5, 6, 9, 10, 11, 17, 18, 19] (fun γ19 => [(8, .pointer (some ⟨γ19 0, 0, none⟩))]) (fun γ19 L => bx (γ19 0) (#[.slice x18.p x18.n x18.cap, .int .u64 x18.th, .int .u64 x18.tl, .int .u64 x18.tw, .int .u64 x18.ord, .bool x18.fresh]) 47 :: L) (fun γ19 => [(some ⟨b7, o7, none⟩ : Option Addr) = some ⟨b7, o7, none⟩, (j : Nat) = ((j : Nat) : Int), j < m] ++ (cellsP w b7 (o7 + j * 6) [.slice x18.p x18.n x18.cap, .int .u64 x18.th, .int .u64 x18.tl, .int .u64 x18.tw, .int .u64 x18.ord, .bool x18.fresh])) (fun γ19 => (alA (al2 rfl (al2 rfl (al1 (by omega)))) (rd_pre (hal.get hx18) _ rfl))) (fun γ19 => ds_ ?_)
      rcases q21 : bb with _ | _
      ·
        refine qa0 [] [0, 2, 5, 9, 10, 11, 17, 18, 19] [(6, .bool false)] (done_block (ds_ (qa [(0, .fit)] [0, 2, 5, 6, 9, 10, 11, 17, 18] [(19, .int .i64 (j + 1 : Nat))] ([Fit .i64 ((j + 1 : Nat))]) (al1 (fit64 (by omega) (by omega))) (Done.drop (L' := [bx (γ10 0) (#[.slice x9.p x9.n x9.cap, .int .u64 x9.th, .int .u64 x9.tl, .int .u64 x9.tw, .int .u64 x9.ord, .bool x9.fresh]) 47, bx (γ1 0) (#[.slice none 0 0, .int .u64 0, .int .u64 0, .int .u64 0, .int .u64 0, .bool false]) 47]) ?_ (List.Sublist.cons _ (List.Sublist.cons_cons _ (List.Sublist.cons_cons _ (List.Sublist.refl _))))))))
        exact dr [0, 2, 5, 6, 9, 10, 11, 17, 18, 19] (j + 1, false) ⟨by omega, best_no hB q21 hx18⟩
      ·
        refine ao_ (qo0 4 [(2, .go (owns 0 0 6)), (3, .go (owns 1 0 6))] [0, 2, 5, 9, 10, 11, 17, 18, 19] [(24, .bool true), (25, .agg #[.slice x18.p x18.n x18.cap, .int .u64 x18.th, .int .u64 x18.tl, .int .u64 x18.tw, .int .u64 x18.ord, .bool x18.fresh]), (26, .agg #[.slice x9.p x9.n x9.cap, .int .u64 x9.th, .int .u64 x9.tl, .int .u64 x9.tw, .int .u64 x9.ord, .bool x9.fresh])] (cD (.bool (aheadE x18.val x9.val)) Try.call24 (fun w hw => rahead_t x18 x9 w (hrx18.kept hw.below) (hrx9.kept hw.below)) ?_))
        rcases q26 : (aheadE x18.val x9.val) with _ | _
        ·
          refine qo0 3 [] [0, 2, 5, 9, 10, 11, 17, 18, 19] [(6, .bool true)] (on_ (done_block (ds_ (qa [(0, .fit)] [0, 2, 5, 6, 9, 10, 11, 17, 18] [(19, .int .i64 (j + 1 : Nat))] ([Fit .i64 ((j + 1 : Nat))]) (al1 (fit64 (by omega) (by omega))) (Done.drop (L' := [bx (γ10 0) (#[.slice x9.p x9.n x9.cap, .int .u64 x9.th, .int .u64 x9.tl, .int .u64 x9.tw, .int .u64 x9.ord, .bool x9.fresh]) 47, bx (γ1 0) (#[.slice none 0 0, .int .u64 0, .int .u64 0, .int .u64 0, .int .u64 0, .bool false]) 47]) ?_ (List.Sublist.cons _ (List.Sublist.cons_cons _ (List.Sublist.cons_cons _ (List.Sublist.refl _)))))))))
          exact dr [0, 2, 5, 6, 9, 10, 11, 17, 18, 19] (j + 1, true) ⟨by omega, by rw [← best_yes hB q21 hx18, q26]; rfl⟩
        ·
          refine qo0 3 [] [0, 2, 5, 9, 10, 11, 17, 18, 19] [(6, .bool false)] (on_ (done_block (ds_ (qa [(0, .fit)] [0, 2, 5, 6, 9, 10, 11, 17, 18] [(19, .int .i64 (j + 1 : Nat))] ([Fit .i64 ((j + 1 : Nat))]) (al1 (fit64 (by omega) (by omega))) (Done.drop (L' := [bx (γ10 0) (#[.slice x9.p x9.n x9.cap, .int .u64 x9.th, .int .u64 x9.tl, .int .u64 x9.tw, .int .u64 x9.ord, .bool x9.fresh]) 47, bx (γ1 0) (#[.slice none 0 0, .int .u64 0, .int .u64 0, .int .u64 0, .int .u64 0, .bool false]) 47]) ?_ (List.Sublist.cons _ (List.Sublist.cons_cons _ (List.Sublist.cons_cons _ (List.Sublist.refl _)))))))))
          exact dr [0, 2, 5, 6, 9, 10, 11, 17, 18, 19] (j + 1, false) ⟨by omega, by rw [← best_yes hB q21 hx18, q26]; rfl⟩
    ·
      refine qa [(0, .no)] [0, 2, 5, 6, 9, 10, 11, 17, 18, 19] [(20, .bool false)] ([¬ (((j : Nat) : Int) < ((m : Nat) : Int))]) (al1 q15) (ds_ (sq_ (f_ (at_leave _ rfl (ds_ (sq_ (qa0 [] [0, 2, 5, 9, 10, 11] [(31, .bool bb)] (ds_ ?_))))))))
      rcases q33 : bb with _ | _
      ·
        refine f_ (at_skip (done_block (ds_ (qa [(0, .fit)] [0, 2, 9, 10] [(11, .int .i64 (i + 1 : Nat))] ([Fit .i64 ((i + 1 : Nat))]) (al1 (fit64 (by omega) (by omega))) (Done.drop (L' := [bx (γ1 0) (#[.slice none 0 0, .int .u64 0, .int .u64 0, .int .u64 0, .int .u64 0, .bool false]) 47]) ?_ (List.Sublist.cons _ (List.Sublist.cons_cons _ (List.Sublist.refl _))))))))
        exact done_round [0, 2, 9, 10, 11] (i + 1) (by kernel_rfl) rfl ⟨by omega, fun t y ht e => by
            by_cases htj : t = i
            · subst htj; rw [hx9] at e; cases e; exact (best_end hB (by omega)).symm.trans q33
            · exact hI t y (by omega) e⟩ (by first | omega | (simp only; omega))
      ·
        refine t_ (sq_ (ma0 [(0, .go (owns 0 0 6)), (1, .go (owns 1 0 6))] [2] (fun _ => [(3, .bool true)]) (fun _ L => (L.set 1 (bx (γ1 0) (#[.slice x9.p x9.n x9.cap, .int .u64 x9.th, .int .u64 x9.tl, .int .u64 x9.tw, .int .u64 x9.ord, .bool x9.fresh]) 47))) (fun _ => ds_ (rt (owns 1 0 6) (.tuple #[.agg #[.slice x9.p x9.n x9.cap, .int .u64 x9.th, .int .u64 x9.tl, .int .u64 x9.tw, .int .u64 x9.ord, .bool x9.fresh], .bool true]) ?_))))
        have hF := fst_yes hI hx9 ((best_end hB (by omega)).symm.trans q33)
        exact fun w' hw => ⟨by rw [hF]; rfl, hw.below⟩
  ·
    refine qa [(0, .no)] [0, 2, 9, 10, 11] [(12, .bool false)] ([¬ (((i : Nat) : Int) < ((m : Nat) : Int))]) (al1 q4) (ds_ (sq_ (f_ (at_leave _ rfl (ds_ (sq_ (qa0 [(1, .go (owns 0 0 6))] [2] [(3, .bool false)] (ds_ (rt (owns 0 0 6) (.tuple #[.agg #[.slice none 0 0, .int .u64 0, .int .u64 0, .int .u64 0, .int .u64 0, .bool false], .bool false]) ?_)))))))))
    have hF := fst_no hI (by omega)
    exact fun w' hw => ⟨by rw [hF]; rfl, hw.below⟩

set_option maxRecDepth 100000 in
theorem sameone_t (a b : EnA) (w : World)
    (hsa : Sv w a.p a.l) (hna : a.n = a.l.length) (hba : a.n ≤ 1000)
    (hsb : Sv w b.p b.l) (hnb : b.n = b.l.length) (hbb : b.n ≤ 1000)
    : Calls Try.prog 27 #[.agg #[.slice a.p a.n a.cap, .int .u64 a.th, .int .u64 a.tl, .int .u64 a.tw, .int .u64 a.ord, .bool a.fresh], .agg #[.slice b.p b.n b.cap, .int .u64 b.th, .int .u64 b.tl, .int .u64 b.tw, .int .u64 b.ord, .bool b.fresh]] w fun e w' => e = .returned (.bool (decide (a.val = b.val))) ∧ Below w.heap.size w w' := by
  refine enter (Hs.start w) Try.func27 rfl Try.ntmps27 rfl (sq_ (ma0 [] [] (fun γ1 => [(2, .pointer (some ⟨γ1 0, 0, none⟩)), (3, .pointer (some ⟨γ1 1, 0, none⟩))]) (fun γ1 L => bx (γ1 1) (#[.slice b.p b.n b.cap, .int .u64 b.th, .int .u64 b.tl, .int .u64 b.tw, .int .u64 b.ord, .bool b.fresh]) 47 :: bx (γ1 0) (#[.slice a.p a.n a.cap, .int .u64 a.th, .int .u64 a.tl, .int .u64 a.tw, .int .u64 a.ord, .bool a.fresh]) 47 :: L) (fun γ1 => ds_ (sq_ (sq_ ?_)))))
  by_cases q3 : a.t = b.t
  ·
    by_cases q5 : (a.ord : Int) ≠ (b.ord : Int)
    ·
      refine qa [(1, .go (owns 1 1 3)), (3, .go (owns 0 1 3)), (4, .eqs false), (7, .go (owns 1 4 1)), (9, .go (owns 0 4 1)), (10, .yes)] [2, 3] [(33, .bool true)] ([EqRun Try.prog .neq 45 (.tmp 7) (.tmp 9) (.agg #[.int .u64 a.th, .int .u64 a.tl, .int .u64 a.tw]) (.agg #[.int .u64 b.th, .int .u64 b.tl, .int .u64 b.tw]) false] ++ ([(a.ord : Int) ≠ (b.ord : Int)])) (alA (al1 (fq_ne_t (a := a.t) (b := b.t) q3)) (al1 q5)) (ds_ (t_ (sq_ (qa0 [] [] [(4, .bool false)] (ds_ (rt ([]) (.bool false) ?_))))))
      exact fun w' hw => ⟨by rw [so_o (by omega)], hw.below⟩
    ·
      rcases q9 : a.fresh with _ | _
      ·
        rcases q11 : b.fresh with _ | _
        ·
          by_cases q13 : ((a.n : Nat) : Int) ≠ ((b.n : Nat) : Int)
          ·
            refine qa [(1, .go (owns 1 1 3)), (3, .go (owns 0 1 3)), (4, .eqs false), (7, .go (owns 1 4 1)), (9, .go (owns 0 4 1)), (10, .no), (14, .go (owns 1 5 1)), (16, .go (owns 0 5 1)), (17, .eqs false), (21, .go (owns 1 0 1)), (24, .go (owns 0 0 1)), (26, .yes)] [2, 3] [(33, .bool true)] ([EqRun Try.prog .neq 45 (.tmp 7) (.tmp 9) (.agg #[.int .u64 a.th, .int .u64 a.tl, .int .u64 a.tw]) (.agg #[.int .u64 b.th, .int .u64 b.tl, .int .u64 b.tw]) false] ++ ([¬ ((a.ord : Int) ≠ (b.ord : Int))] ++ ([EqRun Try.prog .neq 4 (.tmp 20) (.tmp 22) (.bool false) (.bool false) false] ++ ([((a.n : Nat) : Int) ≠ ((b.n : Nat) : Int)])))) (alA (al1 (fq_ne_t (a := a.t) (b := b.t) q3)) (alA (al1 q5) (alA (al1 (bool_ne false false)) (al1 q13)))) (ds_ (t_ (sq_ (qa0 [] [] [(4, .bool false)] (ds_ (rt ([]) (.bool false) ?_))))))
            exact fun w' hw => ⟨by rw [so_l (fun h => by have := congrArg List.length h; omega)], hw.below⟩
          ·
            refine qa [(1, .go (owns 1 1 3)), (3, .go (owns 0 1 3)), (4, .eqs false), (7, .go (owns 1 4 1)), (9, .go (owns 0 4 1)), (10, .no), (14, .go (owns 1 5 1)), (16, .go (owns 0 5 1)), (17, .eqs false), (21, .go (owns 1 0 1)), (24, .go (owns 0 0 1)), (26, .no)] [2, 3] [(33, .bool false)] ([EqRun Try.prog .neq 45 (.tmp 7) (.tmp 9) (.agg #[.int .u64 a.th, .int .u64 a.tl, .int .u64 a.tw]) (.agg #[.int .u64 b.th, .int .u64 b.tl, .int .u64 b.tw]) false] ++ ([¬ ((a.ord : Int) ≠ (b.ord : Int))] ++ ([EqRun Try.prog .neq 4 (.tmp 20) (.tmp 22) (.bool false) (.bool false) false] ++ ([¬ (((a.n : Nat) : Int) ≠ ((b.n : Nat) : Int))])))) (alA (al1 (fq_ne_t (a := a.t) (b := b.t) q3)) (alA (al1 q5) (alA (al1 (bool_ne false false)) (al1 q13)))) (ds_ (f_ (at_skip (ds_ (sq_ (sq_ (qa0 [(1, .go (owns 1 0 1))] [2, 3] [(36, .int .i64 (a.n : Nat)), (37, .int .i64 0)] (ds_ (at_block (at_loop (α := Nat) [2, 3, 36, 37] (fun j => [(2, .pointer (some ⟨γ1 0, 0, none⟩)), (3, .pointer (some ⟨γ1 1, 0, none⟩)), (36, .int .i64 (a.n : Nat)), (37, .int .i64 (j : Nat))]) (fun j => [bx (γ1 1) (#[.slice b.p b.n b.cap, .int .u64 b.th, .int .u64 b.tl, .int .u64 b.tw, .int .u64 b.ord, .bool false]) 47, bx (γ1 0) (#[.slice a.p a.n a.cap, .int .u64 a.th, .int .u64 a.tl, .int .u64 a.tw, .int .u64 a.ord, .bool false]) 47]) (fun j => j ≤ a.n ∧ a.l.take j = b.l.take j) (fun j => a.n - j) 0 (by kernel_rfl) rfl ⟨Nat.zero_le _, rfl⟩ ?_))))))))))
            rintro j
            rintro ⟨hj, hI⟩
            refine sq_ ?_
            by_cases q19 : ((j : Nat) : Int) < ((a.n : Nat) : Int)
            ·
              refine qa [(0, .yes)] [2, 3, 36, 37] [(38, .bool true)] ([((j : Nat) : Int) < ((a.n : Nat) : Int)]) (al1 q19) (ds_ (sq_ (t_ (at_skip (ds_ (sq_ (at_block (sq_ (qa0 [] [2, 3, 36, 37] [(5, .int .i64 (j : Nat))] (ds_ (sq_ ?_)))))))))))
              obtain ⟨b23, o23, hbo23⟩ := hsa.pos (i := j) (by omega)
              have hsv23 := hsa
              rw [hbo23] at hsv23
              obtain ⟨x25, hx25⟩ := get_some (l := a.l) (m := j) (by omega)
              obtain ⟨b27, o27, hbo27⟩ := hsb.pos (i := j) (by omega)
              have hsv27 := hsb
              rw [hbo27] at hsv27
              obtain ⟨x29, hx29⟩ := get_some (l := b.l) (m := j) (by omega)
              by_cases q31 : (x25 : Int) ≠ (x29 : Int)
              ·
                refine cq [(1, .go (owns 1 0 1)), (3, .at b23 o23 j), (4, .go (outs b23 (o23 + j * 1) [.int .i64 x25])), (6, .go (owns 0 0 1)), (8, .at b27 o27 j), (9, .go (outs b27 (o27 + j * 1) [.int .i64 x29])), (10, .yes)] [2, 3, 36, 37] [(50, .bool true)] ([(a.p : Option Addr) = some ⟨b23, o23, none⟩, (j : Nat) = ((j : Nat) : Int), j < a.n] ++ (cellsP w b23 (o23 + j * 1) [.int .i64 x25] ++ ([(b.p : Option Addr) = some ⟨b27, o27, none⟩, (j : Nat) = ((j : Nat) : Int), j < b.n] ++ (cellsP w b27 (o27 + j * 1) [.int .i64 x29] ++ ([(x25 : Int) ≠ (x29 : Int)]))))) rfl (by kernel_rfl) (by kernel_rfl) (by kernel_rfl) (alA (al2 hbo23 (al2 rfl (al1 (by omega)))) (alA (rd_pre (hsv23.get hx25) _ rfl) (alA (al2 hbo27 (al2 rfl (al1 (by omega)))) (alA (rd_pre (hsv27.get hx29) _ rfl) (al1 q31))))) (ds_ (t_ (sq_ (qa0 [] [] [(4, .bool false)] (ds_ (rt ([]) (.bool false) ?_))))))
                exact fun w' hw => ⟨by rw [so_l (of_decide_eq_false (dsame_no hx25 hx29 (by omega)).symm)], hw.below⟩
              ·
                refine cq [(1, .go (owns 1 0 1)), (3, .at b23 o23 j), (4, .go (outs b23 (o23 + j * 1) [.int .i64 x25])), (6, .go (owns 0 0 1)), (8, .at b27 o27 j), (9, .go (outs b27 (o27 + j * 1) [.int .i64 x29])), (10, .no)] [2, 3, 36, 37] [(50, .bool false)] ([(a.p : Option Addr) = some ⟨b23, o23, none⟩, (j : Nat) = ((j : Nat) : Int), j < a.n] ++ (cellsP w b23 (o23 + j * 1) [.int .i64 x25] ++ ([(b.p : Option Addr) = some ⟨b27, o27, none⟩, (j : Nat) = ((j : Nat) : Int), j < b.n] ++ (cellsP w b27 (o27 + j * 1) [.int .i64 x29] ++ ([¬ ((x25 : Int) ≠ (x29 : Int))]))))) rfl (by kernel_rfl) (by kernel_rfl) (by kernel_rfl) (alA (al2 hbo23 (al2 rfl (al1 (by omega)))) (alA (rd_pre (hsv23.get hx25) _ rfl) (alA (al2 hbo27 (al2 rfl (al1 (by omega)))) (alA (rd_pre (hsv27.get hx29) _ rfl) (al1 q31))))) (ds_ (f_ (at_skip (done_block (ds_ (qa [(0, .fit)] [2, 3, 36] [(37, .int .i64 (j + 1 : Nat))] ([Fit .i64 ((j + 1 : Nat))]) (al1 (fit64 (by omega) (by omega))) ?_))))))
                exact dr [2, 3, 36, 37] (j + 1) ⟨by omega, dsame_on hI hx25 hx29 (by omega)⟩
            ·
              refine qa [(0, .no)] [2, 3, 36, 37] [(38, .bool false)] ([¬ (((j : Nat) : Int) < ((a.n : Nat) : Int))]) (al1 q19) (ds_ (sq_ (f_ (at_leave _ rfl (ds_ (sq_ (qa0 [] [] [(4, .bool true)] (ds_ (rt ([]) (.bool true) ?_)))))))))
              exact fun w' hw => ⟨by rw [so_yes q3 (by omega) (q9.trans q11.symm) (of_decide_eq_true (dsame_yes hI (by omega) (by omega)).symm)], hw.below⟩
        ·
          refine qa [(1, .go (owns 1 1 3)), (3, .go (owns 0 1 3)), (4, .eqs false), (7, .go (owns 1 4 1)), (9, .go (owns 0 4 1)), (10, .no), (14, .go (owns 1 5 1)), (16, .go (owns 0 5 1)), (17, .eqs true)] [2, 3] [(33, .bool true)] ([EqRun Try.prog .neq 45 (.tmp 7) (.tmp 9) (.agg #[.int .u64 a.th, .int .u64 a.tl, .int .u64 a.tw]) (.agg #[.int .u64 b.th, .int .u64 b.tl, .int .u64 b.tw]) false] ++ ([¬ ((a.ord : Int) ≠ (b.ord : Int))] ++ ([EqRun Try.prog .neq 4 (.tmp 20) (.tmp 22) (.bool false) (.bool true) true]))) (alA (al1 (fq_ne_t (a := a.t) (b := b.t) q3)) (alA (al1 q5) (al1 (bool_ne false true)))) (ds_ (t_ (sq_ (qa0 [] [] [(4, .bool false)] (ds_ (rt ([]) (.bool false) ?_))))))
          exact fun w' hw => ⟨by rw [so_f (fun h => by rw [q9, q11] at h; cases h)], hw.below⟩
      ·
        rcases q41 : b.fresh with _ | _
        ·
          refine qa [(1, .go (owns 1 1 3)), (3, .go (owns 0 1 3)), (4, .eqs false), (7, .go (owns 1 4 1)), (9, .go (owns 0 4 1)), (10, .no), (14, .go (owns 1 5 1)), (16, .go (owns 0 5 1)), (17, .eqs true)] [2, 3] [(33, .bool true)] ([EqRun Try.prog .neq 45 (.tmp 7) (.tmp 9) (.agg #[.int .u64 a.th, .int .u64 a.tl, .int .u64 a.tw]) (.agg #[.int .u64 b.th, .int .u64 b.tl, .int .u64 b.tw]) false] ++ ([¬ ((a.ord : Int) ≠ (b.ord : Int))] ++ ([EqRun Try.prog .neq 4 (.tmp 20) (.tmp 22) (.bool true) (.bool false) true]))) (alA (al1 (fq_ne_t (a := a.t) (b := b.t) q3)) (alA (al1 q5) (al1 (bool_ne true false)))) (ds_ (t_ (sq_ (qa0 [] [] [(4, .bool false)] (ds_ (rt ([]) (.bool false) ?_))))))
          exact fun w' hw => ⟨by rw [so_f (fun h => by rw [q9, q41] at h; cases h)], hw.below⟩
        ·
          by_cases q45 : ((a.n : Nat) : Int) ≠ ((b.n : Nat) : Int)
          ·
            refine qa [(1, .go (owns 1 1 3)), (3, .go (owns 0 1 3)), (4, .eqs false), (7, .go (owns 1 4 1)), (9, .go (owns 0 4 1)), (10, .no), (14, .go (owns 1 5 1)), (16, .go (owns 0 5 1)), (17, .eqs false), (21, .go (owns 1 0 1)), (24, .go (owns 0 0 1)), (26, .yes)] [2, 3] [(33, .bool true)] ([EqRun Try.prog .neq 45 (.tmp 7) (.tmp 9) (.agg #[.int .u64 a.th, .int .u64 a.tl, .int .u64 a.tw]) (.agg #[.int .u64 b.th, .int .u64 b.tl, .int .u64 b.tw]) false] ++ ([¬ ((a.ord : Int) ≠ (b.ord : Int))] ++ ([EqRun Try.prog .neq 4 (.tmp 20) (.tmp 22) (.bool true) (.bool true) false] ++ ([((a.n : Nat) : Int) ≠ ((b.n : Nat) : Int)])))) (alA (al1 (fq_ne_t (a := a.t) (b := b.t) q3)) (alA (al1 q5) (alA (al1 (bool_ne true true)) (al1 q45)))) (ds_ (t_ (sq_ (qa0 [] [] [(4, .bool false)] (ds_ (rt ([]) (.bool false) ?_))))))
            exact fun w' hw => ⟨by rw [so_l (fun h => by have := congrArg List.length h; omega)], hw.below⟩
          ·
            refine qa [(1, .go (owns 1 1 3)), (3, .go (owns 0 1 3)), (4, .eqs false), (7, .go (owns 1 4 1)), (9, .go (owns 0 4 1)), (10, .no), (14, .go (owns 1 5 1)), (16, .go (owns 0 5 1)), (17, .eqs false), (21, .go (owns 1 0 1)), (24, .go (owns 0 0 1)), (26, .no)] [2, 3] [(33, .bool false)] ([EqRun Try.prog .neq 45 (.tmp 7) (.tmp 9) (.agg #[.int .u64 a.th, .int .u64 a.tl, .int .u64 a.tw]) (.agg #[.int .u64 b.th, .int .u64 b.tl, .int .u64 b.tw]) false] ++ ([¬ ((a.ord : Int) ≠ (b.ord : Int))] ++ ([EqRun Try.prog .neq 4 (.tmp 20) (.tmp 22) (.bool true) (.bool true) false] ++ ([¬ (((a.n : Nat) : Int) ≠ ((b.n : Nat) : Int))])))) (alA (al1 (fq_ne_t (a := a.t) (b := b.t) q3)) (alA (al1 q5) (alA (al1 (bool_ne true true)) (al1 q45)))) (ds_ (f_ (at_skip (ds_ (sq_ (sq_ (qa0 [(1, .go (owns 1 0 1))] [2, 3] [(36, .int .i64 (a.n : Nat)), (37, .int .i64 0)] (ds_ (at_block (at_loop (α := Nat) [2, 3, 36, 37] (fun j => [(2, .pointer (some ⟨γ1 0, 0, none⟩)), (3, .pointer (some ⟨γ1 1, 0, none⟩)), (36, .int .i64 (a.n : Nat)), (37, .int .i64 (j : Nat))]) (fun j => [bx (γ1 1) (#[.slice b.p b.n b.cap, .int .u64 b.th, .int .u64 b.tl, .int .u64 b.tw, .int .u64 b.ord, .bool true]) 47, bx (γ1 0) (#[.slice a.p a.n a.cap, .int .u64 a.th, .int .u64 a.tl, .int .u64 a.tw, .int .u64 a.ord, .bool true]) 47]) (fun j => j ≤ a.n ∧ a.l.take j = b.l.take j) (fun j => a.n - j) 0 (by kernel_rfl) rfl ⟨Nat.zero_le _, rfl⟩ ?_))))))))))
            rintro j
            rintro ⟨hj, hI⟩
            refine sq_ ?_
            by_cases q51 : ((j : Nat) : Int) < ((a.n : Nat) : Int)
            ·
              refine qa [(0, .yes)] [2, 3, 36, 37] [(38, .bool true)] ([((j : Nat) : Int) < ((a.n : Nat) : Int)]) (al1 q51) (ds_ (sq_ (t_ (at_skip (ds_ (sq_ (at_block (sq_ (qa0 [] [2, 3, 36, 37] [(5, .int .i64 (j : Nat))] (ds_ (sq_ ?_)))))))))))
              obtain ⟨b55, o55, hbo55⟩ := hsa.pos (i := j) (by omega)
              have hsv55 := hsa
              rw [hbo55] at hsv55
              obtain ⟨x57, hx57⟩ := get_some (l := a.l) (m := j) (by omega)
              obtain ⟨b59, o59, hbo59⟩ := hsb.pos (i := j) (by omega)
              have hsv59 := hsb
              rw [hbo59] at hsv59
              obtain ⟨x61, hx61⟩ := get_some (l := b.l) (m := j) (by omega)
              by_cases q63 : (x57 : Int) ≠ (x61 : Int)
              ·
                refine cq [(1, .go (owns 1 0 1)), (3, .at b55 o55 j), (4, .go (outs b55 (o55 + j * 1) [.int .i64 x57])), (6, .go (owns 0 0 1)), (8, .at b59 o59 j), (9, .go (outs b59 (o59 + j * 1) [.int .i64 x61])), (10, .yes)] [2, 3, 36, 37] [(50, .bool true)] ([(a.p : Option Addr) = some ⟨b55, o55, none⟩, (j : Nat) = ((j : Nat) : Int), j < a.n] ++ (cellsP w b55 (o55 + j * 1) [.int .i64 x57] ++ ([(b.p : Option Addr) = some ⟨b59, o59, none⟩, (j : Nat) = ((j : Nat) : Int), j < b.n] ++ (cellsP w b59 (o59 + j * 1) [.int .i64 x61] ++ ([(x57 : Int) ≠ (x61 : Int)]))))) rfl (by kernel_rfl) (by kernel_rfl) (by kernel_rfl) (alA (al2 hbo55 (al2 rfl (al1 (by omega)))) (alA (rd_pre (hsv55.get hx57) _ rfl) (alA (al2 hbo59 (al2 rfl (al1 (by omega)))) (alA (rd_pre (hsv59.get hx61) _ rfl) (al1 q63))))) (ds_ (t_ (sq_ (qa0 [] [] [(4, .bool false)] (ds_ (rt ([]) (.bool false) ?_))))))
                exact fun w' hw => ⟨by rw [so_l (of_decide_eq_false (dsame_no hx57 hx61 (by omega)).symm)], hw.below⟩
              ·
                refine cq [(1, .go (owns 1 0 1)), (3, .at b55 o55 j), (4, .go (outs b55 (o55 + j * 1) [.int .i64 x57])), (6, .go (owns 0 0 1)), (8, .at b59 o59 j), (9, .go (outs b59 (o59 + j * 1) [.int .i64 x61])), (10, .no)] [2, 3, 36, 37] [(50, .bool false)] ([(a.p : Option Addr) = some ⟨b55, o55, none⟩, (j : Nat) = ((j : Nat) : Int), j < a.n] ++ (cellsP w b55 (o55 + j * 1) [.int .i64 x57] ++ ([(b.p : Option Addr) = some ⟨b59, o59, none⟩, (j : Nat) = ((j : Nat) : Int), j < b.n] ++ (cellsP w b59 (o59 + j * 1) [.int .i64 x61] ++ ([¬ ((x57 : Int) ≠ (x61 : Int))]))))) rfl (by kernel_rfl) (by kernel_rfl) (by kernel_rfl) (alA (al2 hbo55 (al2 rfl (al1 (by omega)))) (alA (rd_pre (hsv55.get hx57) _ rfl) (alA (al2 hbo59 (al2 rfl (al1 (by omega)))) (alA (rd_pre (hsv59.get hx61) _ rfl) (al1 q63))))) (ds_ (f_ (at_skip (done_block (ds_ (qa [(0, .fit)] [2, 3, 36] [(37, .int .i64 (j + 1 : Nat))] ([Fit .i64 ((j + 1 : Nat))]) (al1 (fit64 (by omega) (by omega))) ?_))))))
                exact dr [2, 3, 36, 37] (j + 1) ⟨by omega, dsame_on hI hx57 hx61 (by omega)⟩
            ·
              refine qa [(0, .no)] [2, 3, 36, 37] [(38, .bool false)] ([¬ (((j : Nat) : Int) < ((a.n : Nat) : Int))]) (al1 q51) (ds_ (sq_ (f_ (at_leave _ rfl (ds_ (sq_ (qa0 [] [] [(4, .bool true)] (ds_ (rt ([]) (.bool true) ?_)))))))))
              exact fun w' hw => ⟨by rw [so_yes q3 (by omega) (q9.trans q41.symm) (of_decide_eq_true (dsame_yes hI (by omega) (by omega)).symm)], hw.below⟩
  ·
    refine qa [(1, .go (owns 1 1 3)), (3, .go (owns 0 1 3)), (4, .eqs true)] [2, 3] [(33, .bool true)] ([EqRun Try.prog .neq 45 (.tmp 7) (.tmp 9) (.agg #[.int .u64 a.th, .int .u64 a.tl, .int .u64 a.tw]) (.agg #[.int .u64 b.th, .int .u64 b.tl, .int .u64 b.tw]) true]) (al1 (fq_ne_f (a := a.t) (b := b.t) q3)) (ds_ (t_ (sq_ (qa0 [] [] [(4, .bool false)] (ds_ (rt ([]) (.bool false) ?_))))))
    exact fun w' hw => ⟨by rw [so_t q3], hw.below⟩

set_option maxRecDepth 100000 in
theorem esame_t (q : Option Addr) (m capq : Nat) (al : List EnA) (q2 : Option Addr) (m2 capq2 : Nat) (bl : List EnA) (w : World)
    (hal : Sv w q al) (hma : m = al.length) (hbm : m ≤ 1000) (hnm : ∀ x ∈ al, x.Reads w)
    (hm9 : ∀ x ∈ al, x.n ≤ 1000)
    (hbl : Sv w q2 bl) (hma2 : m2 = bl.length) (hbm2 : m2 ≤ 1000) (hnm2 : ∀ x ∈ bl, x.Reads w)
    (hm92 : ∀ x ∈ bl, x.n ≤ 1000)
    : Calls Try.prog 15 #[.slice q m capq, .slice q2 m2 capq2] w fun e w' => e = .returned (.bool (decide ((al.map EnA.val) = (bl.map EnA.val)))) ∧ Below w.heap.size w w' := by
  refine enter (Hs.start w) Try.func15 rfl Try.ntmps15 rfl (sq_ (qa0 [] [0, 1] [] (ds_ (sq_ (sq_ ?_)))))
  by_cases q3 : ((m : Nat) : Int) ≠ ((m2 : Nat) : Int)
  ·
    refine qa [(4, .yes)] [0, 1] [(10, .bool true)] ([((m : Nat) : Int) ≠ ((m2 : Nat) : Int)]) (al1 q3) (ds_ (t_ (sq_ (qa0 [] [] [(4, .bool false)] (ds_ (rt ([]) (.bool false) ?_))))))
    exact fun w' hw => ⟨by rw [dsame_len (l := (al.map EnA.val)) (l2 := (bl.map EnA.val)) (by rw [List.length_map, List.length_map]; omega)], hw.below⟩
  ·
    refine qa [(4, .no)] [0, 1] [(10, .bool false)] ([¬ (((m : Nat) : Int) ≠ ((m2 : Nat) : Int))]) (al1 q3) (ds_ (f_ (at_skip (ds_ (sq_ (sq_ (qa0 [] [0, 1] [(12, .int .i64 (m : Nat)), (13, .int .i64 0)] (ds_ (at_block (at_loop (α := Nat) [0, 1, 12, 13] (fun j => [(0, .slice q m capq), (1, .slice q2 m2 capq2), (12, .int .i64 (m : Nat)), (13, .int .i64 (j : Nat))]) (fun j => []) (fun j => j ≤ m ∧ (al.map EnA.val).take j = (bl.map EnA.val).take j) (fun j => m - j) 0 (by kernel_rfl) rfl ⟨Nat.zero_le _, rfl⟩ ?_))))))))))
    rintro j
    rintro ⟨hj, hI⟩
    refine sq_ ?_
    by_cases q9 : ((j : Nat) : Int) < ((m : Nat) : Int)
    ·
      refine qa [(0, .yes)] [0, 1, 12, 13] [(14, .bool true)] ([((j : Nat) : Int) < ((m : Nat) : Int)]) (al1 q9) (ds_ (sq_ (t_ (at_skip (ds_ (sq_ (at_block (sq_ (qa0 [] [0, 1, 12, 13] [(5, .int .i64 (j : Nat))] (ds_ (sq_ ?_)))))))))))
      obtain ⟨b13, o13, rfl⟩ := hal.pos (i := j) (by omega)
      obtain ⟨x15, hx15⟩ := get_some (l := al) (m := j) (by omega)
      have hrx15 := hnm x15 (List.mem_of_getElem? hx15)
      have hsx15 : Sv w x15.p x15.l := hrx15.sv
      have hnx15 : x15.n = x15.l.length := hrx15.hn
      have hcx15 : x15.n ≤ x15.cap := hrx15.hc
      have hbx15 : x15.cap ≤ 9223372036854775807 := hrx15.hb
      have h9x15 := hm9 x15 (List.mem_of_getElem? hx15)
      obtain ⟨b17, o17, rfl⟩ := hbl.pos (i := j) (by omega)
      obtain ⟨x19, hx19⟩ := get_some (l := bl) (m := j) (by omega)
      have hrx19 := hnm2 x19 (List.mem_of_getElem? hx19)
      have hsx19 : Sv w x19.p x19.l := hrx19.sv
      have hnx19 : x19.n = x19.l.length := hrx19.hn
      have hcx19 : x19.n ≤ x19.cap := hrx19.hc
      have hbx19 : x19.cap ≤ 9223372036854775807 := hrx19.hb
      have h9x19 := hm92 x19 (List.mem_of_getElem? hx19)
      refine at_calm rfl (by kernel_rfl) (by kernel_rfl) ?_
      refine cm 8 [(2, .at b13 o13 j), (3, .go (outs b13 (o13 + j * 6) [.slice x15.p x15.n x15.cap, .int .u64 x15.th, .int .u64 x15.tl, .int .u64 x15.tw, .int .u64 x15.ord, .bool x15.fresh])), (6, .at b17 o17 j), (7, .go (outs b17 (o17 + j * 6) [.slice x19.p x19.n x19.cap, .int .u64 x19.th, .int .u64 x19.tl, .int .u64 x19.tw, .int .u64 x19.ord, .bool x19.fresh]))] [0, 1, 12, 13] [(19, .agg #[.slice x15.p x15.n x15.cap, .int .u64 x15.th, .int .u64 x15.tl, .int .u64 x15.tw, .int .u64 x15.ord, .bool x15.fresh]), (23, .agg #[.slice x19.p x19.n x19.cap, .int .u64 x19.th, .int .u64 x19.tl, .int .u64 x19.tw, .int .u64 x19.ord, .bool x19.fresh])] ([(some ⟨b13, o13, none⟩ : Option Addr) = some ⟨b13, o13, none⟩, (j : Nat) = ((j : Nat) : Int), j < m] ++ (cellsP w b13 (o13 + j * 6) [.slice x15.p x15.n x15.cap, .int .u64 x15.th, .int .u64 x15.tl, .int .u64 x15.tw, .int .u64 x15.ord, .bool x15.fresh] ++ ([(some ⟨b17, o17, none⟩ : Option Addr) = some ⟨b17, o17, none⟩, (j : Nat) = ((j : Nat) : Int), j < m2] ++ (cellsP w b17 (o17 + j * 6) [.slice x19.p x19.n x19.cap, .int .u64 x19.th, .int .u64 x19.tl, .int .u64 x19.tw, .int .u64 x19.ord, .bool x19.fresh])))) (by kernel_rfl) rfl (alA (al2 rfl (al2 rfl (al1 (by omega)))) (alA (rd_pre (hal.get hx15) _ rfl) (alA (al2 rfl (al2 rfl (al1 (by omega)))) (rd_pre (hbl.get hx19) _ rfl)))) ?_
      rcases q21 : decide (x15.val = x19.val) with _ | _
      ·
        refine cK (.bool false) Try.call27 (fun w hw => by have := sameone_t x15 x19 w (hsx15.kept hw.below) hnx15 h9x15 (hsx19.kept hw.below) hnx19 h9x19; rw [q21] at this; exact this) ?_
        refine cm 1 [] [0, 1, 12, 13] [(25, .bool true)] ([]) (by kernel_rfl) rfl al0 ?_
        refine calm_nil' ?_
        refine ds_ (t_ (sq_ (qa0 [] [] [(4, .bool false)] (ds_ (rt ([]) (.bool false) ?_)))))
        exact fun w' hw => ⟨by rw [dsame_no (map_at12 hx15) (map_at12 hx19) (of_decide_eq_false q21)], hw.below⟩
      ·
        refine cK (.bool true) Try.call27 (fun w hw => by have := sameone_t x15 x19 w (hsx15.kept hw.below) hnx15 h9x15 (hsx19.kept hw.below) hnx19 h9x19; rw [q21] at this; exact this) ?_
        refine cm 1 [] [0, 1, 12, 13] [(25, .bool false)] ([]) (by kernel_rfl) rfl al0 ?_
        refine calm_nil' ?_
        refine ds_ (f_ (at_skip (done_block (ds_ (qa [(0, .fit)] [0, 1, 12] [(13, .int .i64 (j + 1 : Nat))] ([Fit .i64 ((j + 1 : Nat))]) (al1 (fit64 (by omega) (by omega))) ?_)))))
        exact dr [0, 1, 12, 13] (j + 1) ⟨by omega, dsame_on hI (map_at12 hx15) (map_at12 hx19) (of_decide_eq_true q21)⟩
    ·
      refine qa [(0, .no)] [0, 1, 12, 13] [(14, .bool false)] ([¬ (((j : Nat) : Int) < ((m : Nat) : Int))]) (al1 q9) (ds_ (sq_ (f_ (at_leave _ rfl (ds_ (sq_ (qa0 [] [] [(4, .bool true)] (ds_ (rt ([]) (.bool true) ?_)))))))))
      exact fun w' hw => ⟨by rw [dsame_yes hI (by rw [List.length_map]; omega) (by rw [List.length_map]; omega)], hw.below⟩
end Go.Proofs.Ytoljahfofkmdaaa

/-! The walker: slices.SortFunc on a slice of one's own, by the library's contract. -/
namespace Go.Proofs.Ytoljahfofkmdaaa
open Go Go.RowKit Go.Shelf Go.Proofs
open Go.Sort (flatK get_flatK HoldsK putRowK size_flatK)

section
variable {α : Type} [Enc α] [Inhabited α]
theorem flatK_is (l : List α) : flatK Enc.enc (Enc.k α) l.toArray = (l.flatMap Enc.enc).toArray := by
  have hk := Enc.pos (α := α)
  apply Array.ext
  · rw [size_flatK, List.size_toArray, List.size_toArray, flat_len]
  · intro t h1 h2
    have ht : t < l.length * Enc.k α := by rw [← flat_len]; exact h2
    have hi : t / Enc.k α < l.length := Nat.div_lt_of_lt_mul (by rw [Nat.mul_comm]; exact ht)
    have hj : t % Enc.k α < Enc.k α := Nat.mod_lt _ hk
    have hg := flat_get l (t / Enc.k α) hi (t % Enc.k α) hj
    rw [Nat.mul_comm, Nat.div_add_mod] at hg
    have h3 := get_flatK Enc.enc (Enc.k α) l.toArray t (by simpa using ht)
    rw [getElem!_pos (flatK Enc.enc (Enc.k α) l.toArray) t h1] at h3
    rw [h3]
    have e1 : l.toArray[t / Enc.k α]! = l[t / Enc.k α] := by rw [getElem!_pos l.toArray _ (by simpa using hi)]; simp
    rw [e1]
    have h4 : t % Enc.k α < (Enc.enc l[t / Enc.k α]).length := by rw [Enc.len]; exact hj
    rw [getElem!_pos (Enc.enc l[t / Enc.k α]) _ h4]
    rw [List.getElem?_eq_getElem h4, List.getElem?_eq_getElem (by simpa using h2)] at hg
    simp only [Option.some.injEq] at hg
    simpa using hg.symm
theorem holdsK_own {w : World} {g n cap : Nat} {cs : Array Value} {T : TypeId} {l : List α} (hg : w.heap[g]? = some (.cells cs T (0, 0))) (hn : n = l.length) (h : OwnS (Enc.k α) (l.flatMap Enc.enc) n cap cs) : HoldsK Enc.enc (Enc.k α) w g 0 l.toArray := by
  intro j hj
  have hj' : j < n * Enc.k α := by rw [hn]; simpa using hj
  have e0 : j < (l.flatMap Enc.enc).toArray.size := by rw [← flatK_is]; exact hj
  rw [Nat.zero_add]
  constructor
  · rw [cell_own hg, h.get j hj', flatK_is, id, getElem!_pos _ j e0, List.getElem?_eq_getElem (by simpa using e0)]
    simp
  · simp [World.frozen?, hg]
theorem turn_putRow {w : World} {g m n cap : Nat} {cs : Array Value} {T : TypeId} {l l' : List α} (hg : w.heap[g]? = some (.cells cs T (0, 0))) (hn : n = l.length) (hl : l'.length = l.length) (h : OwnS (Enc.k α) (l.flatMap Enc.enc) n cap cs) :
    ∃ cs', Turn g (.cells cs' T (0, 0)) w (putRowK Enc.enc (Enc.k α) (Go.Sort.ahead w m) g 0 l'.toArray) ∧ OwnS (Enc.k α) (l'.flatMap Enc.enc) n cap cs' := by
  have hsz : (l'.flatMap Enc.enc).length = n * Enc.k α := by rw [flat_len, hl, hn]
  have hle : n * Enc.k α ≤ cs.size := by rw [h.csz]; exact Nat.mul_le_mul_right _ h.le
  refine ⟨Go.Sort.putCells id 0 (flatK Enc.enc (Enc.k α) l'.toArray) cs, ⟨?_, fun k hk => ?_, ?_, rfl, rfl, rfl, Nat.le_add_right _ _⟩, ⟨hsz, h.le, h.max, ?_, ?_⟩⟩
  · unfold putRowK Go.Sort.putRow Go.Sort.mapBlock Go.Sort.ahead
    simp [Array.getElem?_modify, hg, Go.Sort.onCells]
  · unfold putRowK Go.Sort.putRow Go.Sort.mapBlock Go.Sort.ahead
    simp only [Array.getElem?_modify]
    rw [if_neg (fun e => hk e.symm)]
  · unfold putRowK Go.Sort.putRow Go.Sort.mapBlock Go.Sort.ahead
    simp
  · rw [← h.csz]; simp [Go.Sort.putCells]
  · rw [flatK_is]
    apply List.ext_getElem?
    intro j
    rw [List.getElem?_take]
    by_cases hj : j < n * Enc.k α
    · rw [if_pos hj, Array.getElem?_toList]
      unfold Go.Sort.putCells
      rw [Array.getElem?_mapIdx, Array.getElem?_eq_getElem (by omega)]
      simp only [Option.map_some, Nat.zero_le, true_and, Nat.zero_add, Nat.sub_zero, List.size_toArray, id]
      rw [if_pos (by omega), getElem!_pos _ j (by simpa [hsz] using hj), List.getElem?_eq_getElem (by omega)]
      simp
    · rw [if_neg hj, List.getElem?_eq_none (by omega)]
theorem below_grow (w : World) (os : Array Obj) : Below w.heap.size w (Go.Sort.grow w os) := by
  refine ⟨rfl, rfl, rfl, ?_, fun k hk => ?_, Nat.le_refl _⟩
  · simp [Go.Sort.grow]
  · simp only [Go.Sort.grow]
    rw [Array.getElem?_append_left hk]
/-- The same, where the comparing function is known in whatever world that holds the row and what else is one's own. -/
theorem sort_ownR {P : Program} {ρ : Ren} (L : SlLaysF0.n6 P ρ) {T : TypeId} (aE : ∀ w, (isAgg (ρ.t 24)).run P w = .ok true w) (zE : ∀ w, (Go.sizeOf (ρ.t 24)).run P w = .ok (Enc.k α) w) (cf : α → α → Int) (hO : Go.Sort.SWO (ltOf cf))
    (hT : ∀ x y, (ltOf cf) x y = false → (ltOf cf) y x = false → x = y) (g : Nat) (cb : Array Value) (eg : ∀ args w, (callFunc g args).run P w = .ok (.enter g args) w) {w0 w : World} {X Y : List Ob} {p : Option Addr} {n cap : Nat} {l : List α} (hH : Hs w0 (Y ++ X) w) (hS : SlO T Y p n cap l) (hb : n ≤ 1000000)
    (hcmp : ∀ (b : Ob) (W : World), Hs w0 (b :: X) W → ∀ x y : α, Calls P g (#[.agg (Enc.enc x).toArray, .agg (Enc.enc y).toArray] ++ cb) W fun e w' => e = .returned (.int .i64 (cf x y)) ∧ Below W.heap.size W w') :
    Calls P (ρ.f 6) #[.slice p n cap, .func (.func g) #[] cb] w fun e w' => e = .returned (.tuple #[]) ∧ ∃ Y', SlO T Y' p n cap (l.mergeSort fun x y => !(ltOf cf) y x) ∧ Hs w0 (Y' ++ X) w' := by
  rcases hS with ⟨rfl, rfl, rfl, rfl, rfl⟩ | ⟨blk, cs, rfl, rfl, hn, hw⟩
  · refine (AnyF.slices_SortFunc_none L none 0 _ w).mono ?_
    rintro e w' ⟨rfl, rfl⟩
    exact ⟨rfl, [], by simpa using SlO.nil, hH⟩
  · have hg := hH.row 0 rfl
    have hs : l.toArray.size = n := by simpa using hn.symm
    have hl : (l.mergeSort fun x y => !(ltOf cf) y x).length = l.length := List.length_mergeSort l
    have hcl : CmpLays P g cb Enc.enc (Enc.k α) cf blk 0 n w := by
      intro m os dk hdk x y
      have hdl : dk.toList.length = l.length := by rw [← hn, ← hdk]; rfl
      obtain ⟨cs', ht, hw'⟩ := turn_putRow (m := m) hg hn hdl hw
      have h2 := (hH.turnHead ht).kept (below_grow _ os)
      refine (hcmp _ _ h2 x y).mono ?_
      rintro e w' ⟨rfl, hb'⟩
      refine ⟨rfl, ?_⟩
      obtain ⟨q, os', hw2⟩ := below_grows hb'
      exact ⟨q, os', hw2⟩
    have := AnyQ.slices_SortFunc_total L (Enc.k α) aE zE Enc.enc Enc.len Enc.one cf hO g cb blk 0 cap l.toArray w eg (by rw [hs]; exact hcl) (holdsK_own hg hn hw) (hs_lt hg) (by omega) hT
    rw [hs] at this
    refine this.mono ?_
    rintro e w' ⟨rfl, m, os, rfl⟩
    obtain ⟨cs', ht, hw'⟩ := turn_putRow (m := m) hg hn hl hw
    refine ⟨rfl, [(blk, .cells cs' T (0, 0))], .inr ⟨blk, cs', rfl, rfl, by rw [hl]; exact hn, hw'⟩, ?_⟩
    have h2 := hH.turnHead ht
    exact h2.kept (below_grow _ _)
end
end Go.Proofs.Ytoljahfofkmdaaa

/-! The library's sort of entities: its bodies, as the kit's command lays them (written out). -/
namespace Go.Proofs.Ytoljahfofkmdaaa
open Go Go.Shelf Go.Proofs
def sortEL_ren : Go.Shelf.Ren := ⟨fun | 6 => 37 | 15 => 58 | 14 => 57 | 28 => 80 | 29 => 81 | 20 => 72 | 21 => 73 | 22 => 74 | 23 => 75 | 24 => 76 | 25 => 77 | 26 => 78 | 27 => 79 | 46 => 90 | 47 => 91 | 48 => 92 | 49 => 93 | 50 => 94 | 57 => 99 | n => n, fun | 22 => 34 | 24 => 47 | 25 => 82 | 3 => 3 | 39 => 57 | 0 => 0 | 53 => 123 | 55 => 41 | 4 => 4 | 46 => 117 | 45 => 116 | 50 => 63 | 5 => 5 | 9 => 9 | 66 => 128 | 70 => 132 | 76 => 142 | 77 => 143 | n => n, fun | n => n⟩
theorem sortEL : Go.Proofs.SlLaysF0.n6 Try.prog sortEL_ren where
  mixed := by kernel_rfl
  f6 := ⟨"slices.SortFunc[[]mainsheet/api.Entity,mainsheet/api.Entity]", by decide, Try.func37.trans (congrArg some (by kernel_rfl))⟩
  f14 := ⟨"slices.pdqsortCmpFunc[mainsheet/api.Entity]", by decide, Try.func57.trans (congrArg some (by kernel_rfl))⟩
  f15 := Try.func58.trans (congrArg some (by kernel_rfl))
  f20 := ⟨"slices.insertionSortCmpFunc[mainsheet/api.Entity]", by decide, Try.func72.trans (congrArg some (by kernel_rfl))⟩
  f21 := ⟨"slices.heapSortCmpFunc[mainsheet/api.Entity]", by decide, Try.func73.trans (congrArg some (by kernel_rfl))⟩
  f22 := ⟨"slices.breakPatternsCmpFunc[mainsheet/api.Entity]", by decide, Try.func74.trans (congrArg some (by kernel_rfl))⟩
  f23 := ⟨"slices.choosePivotCmpFunc[mainsheet/api.Entity]", by decide, Try.func75.trans (congrArg some (by kernel_rfl))⟩
  f24 := ⟨"slices.reverseRangeCmpFunc[mainsheet/api.Entity]", by decide, Try.func76.trans (congrArg some (by kernel_rfl))⟩
  f25 := ⟨"slices.partialInsertionSortCmpFunc[mainsheet/api.Entity]", by decide, Try.func77.trans (congrArg some (by kernel_rfl))⟩
  f26 := ⟨"slices.partitionEqualCmpFunc[mainsheet/api.Entity]", by decide, Try.func78.trans (congrArg some (by kernel_rfl))⟩
  f27 := ⟨"slices.partitionCmpFunc[mainsheet/api.Entity]", by decide, Try.func79.trans (congrArg some (by kernel_rfl))⟩
  f28 := Try.func80.trans (congrArg some (by kernel_rfl))
  f29 := Try.func81.trans (congrArg some (by kernel_rfl))
  f46 := ⟨"slices.siftDownCmpFunc[mainsheet/api.Entity]", by decide, Try.func90.trans (congrArg some (by kernel_rfl))⟩
  f47 := Try.func91.trans (congrArg some (by kernel_rfl))
  f48 := Try.func92.trans (congrArg some (by kernel_rfl))
  f49 := ⟨"slices.medianAdjacentCmpFunc[mainsheet/api.Entity]", by decide, Try.func93.trans (congrArg some (by kernel_rfl))⟩
  f50 := ⟨"slices.medianCmpFunc[mainsheet/api.Entity]", by decide, Try.func94.trans (congrArg some (by kernel_rfl))⟩
  f57 := ⟨"slices.order2CmpFunc[mainsheet/api.Entity]", by decide, Try.func99.trans (congrArg some (by kernel_rfl))⟩
  t0 := Try.underlying0
  a0 := Try.isAgg0
  z0 := Try.sizeOf0
  v0 := Try.zeroValue0
  t3 := Try.underlying3
  a3 := Try.isAgg3
  z3 := Try.sizeOf3
  v3 := Try.zeroValue3
  t4 := Try.underlying4
  a4 := Try.isAgg4
  z4 := Try.sizeOf4
  v4 := Try.zeroValue4
  t5 := Try.underlying5
  a5 := Try.isAgg5
  z5 := Try.sizeOf5
  v5 := Try.zeroValue5
  t9 := Try.underlying9
  a9 := Try.isAgg9
  z9 := Try.sizeOf9
  v9 := Try.zeroValue9
  t22 := Try.underlying34
  a22 := Try.isAgg34
  z22 := Try.sizeOf34
  v22 := Try.zeroValue34
  t25 := Try.underlying82
  a25 := Try.isAgg82
  z25 := Try.sizeOf82
  v25 := Try.zeroValue82
  t39 := Try.underlying57
  a39 := Try.isAgg57
  z39 := Try.sizeOf57
  v39 := Try.zeroValue57
  t45 := Try.underlying116
  a45 := Try.isAgg116
  z45 := Try.sizeOf116
  v45 := Try.zeroValue116
  t46 := Try.underlying117
  a46 := Try.isAgg117
  z46 := Try.sizeOf117
  v46 := Try.zeroValue117
  t50 := Try.underlying63
  a50 := Try.isAgg63
  z50 := Try.sizeOf63
  v50 := Try.zeroValue63
  t53 := Try.underlying123
  a53 := Try.isAgg123
  z53 := Try.sizeOf123
  v53 := Try.zeroValue123
  t55 := Try.underlying41
  a55 := Try.isAgg41
  z55 := Try.sizeOf41
  v55 := Try.zeroValue41
  t66 := Try.underlying128
  a66 := Try.isAgg128
  z66 := Try.sizeOf128
  v66 := Try.zeroValue128
  t70 := Try.underlying132
  a70 := Try.isAgg132
  z70 := Try.sizeOf132
  v70 := Try.zeroValue132
  t76 := Try.underlying142
  a76 := Try.isAgg142
  z76 := Try.sizeOf142
  v76 := Try.zeroValue142
  t77 := Try.underlying143
  a77 := Try.isAgg143
  z77 := Try.sizeOf143
  v77 := Try.zeroValue143
end Go.Proofs.Ytoljahfofkmdaaa

/-! Entities of one's own, and the library's sort of them. -/
namespace Go.Proofs.Ytoljahfofkmdaaa
open Go Go.RowKit Go.Shelf Go.Proofs

section
variable {T : TypeId} {Yi Y Z L : List Ob} {al bl : List IntsA} {x y : IntsA} {w w0 : World}
theorem GotR.consE (h : SlO T Y x.p x.n x.cap x.l) (h2 : GotR T Z al) : GotR T (Y ++ Z) (x :: al) := by
  obtain ⟨Ys, rfl, hl, hs⟩ := h2
  refine ⟨Y :: Ys, rfl, by simp [hl], fun i V v h1 h3 => ?_⟩
  cases i with
  | zero => cases h1; cases h3; exact h
  | succ i => exact hs i V v (by simpa using h1) (by simpa using h3)
theorem GotR.uncons (h : GotR T Yi (x :: al)) : ∃ Y Z, Yi = Y ++ Z ∧ SlO T Y x.p x.n x.cap x.l ∧ GotR T Z al := by
  obtain ⟨Ys, rfl, hl, hs⟩ := h
  cases Ys with
  | nil => simp at hl
  | cons Y Ys => exact ⟨Y, Ys.flatten, rfl, hs 0 Y x rfl rfl, Ys, rfl, by simpa using hl, fun i V v h1 h3 => hs (i + 1) V v (by simpa using h1) (by simpa using h3)⟩
theorem GotR.perm (hp : bl.Perm al) : ∀ {Yi : List Ob}, GotR T Yi bl → ∃ Yj, Yj.Perm Yi ∧ GotR T Yj al := by
  induction hp with
  | nil => exact fun h => ⟨_, .refl _, h⟩
  | cons x _ ih =>
    intro Yi h
    obtain ⟨Y, Z, rfl, h1, h2⟩ := h.uncons
    obtain ⟨Z', hz, h3⟩ := ih h2
    exact ⟨Y ++ Z', hz.append_left Y, h3.consE h1⟩
  | swap x y l =>
    intro Yi h
    obtain ⟨Y, Z, rfl, h1, h2⟩ := h.uncons
    obtain ⟨Y2, Z2, rfl, h3, h4⟩ := h2.uncons
    refine ⟨Y2 ++ (Y ++ Z2), ?_, (h4.consE h1).consE h3⟩
    rw [← List.append_assoc, ← List.append_assoc]
    exact List.perm_append_comm.append_right Z2
  | trans _ _ ih1 ih2 =>
    intro Yi h
    obtain ⟨Z, hz, h1⟩ := ih1 h
    obtain ⟨V, hv, h2⟩ := ih2 h1
    exact ⟨V, hv.trans hz, h2⟩
end
def EnA.row (x : EnA) : IntsA := ⟨x.p, x.n, x.cap, x.l⟩
structure EnA.U (x : EnA) : Prop where
  t : x.t.U
  o0 : 0 ≤ x.ord
  o1 : x.ord < 18446744073709551616
def GotE (T : TypeId) (Yi : List Ob) (el : List EnA) : Prop := GotR T Yi (el.map EnA.row)
section
variable {T : TypeId} {Yi Y Z L : List Ob} {el fl : List EnA} {x y : EnA} {w w0 : World}
theorem GotE.nil : GotE T [] [] := GotR.nil
theorem EnA.Reads.of (h : x.row.Reads w) (hU : x.U) : x.Reads w := ⟨h.sv, h.hn, h.hc, h.hb, hU.t, hU.o0, hU.o1⟩
theorem EnA.Reads.U (h : x.Reads w) : x.U := ⟨h.tU, h.o0, h.o1⟩
theorem GotE.reads (h : GotE T Yi el) (hU : ∀ x ∈ el, x.U) (hw : Hs w0 L w) (hs : List.Sublist Yi L) : ∀ x ∈ el, x.Reads w := fun x hx => .of (GotR.reads h hw hs _ (List.mem_map_of_mem hx)) (hU x hx)
theorem GotE.snoc (h : GotE T Yi el) (hx : SlO T Y y.p y.n y.cap y.l) : GotE T (Yi ++ Y) (el ++ [y]) := by
  unfold GotE
  rw [List.map_append]
  exact GotR.snoc h hx
theorem GotE.perm (hp : el.Perm fl) (h : GotE T Yi el) : ∃ Yj, Yj.Perm Yi ∧ GotE T Yj fl := GotR.perm (hp.map _) h
end
abbrev encSub (el : List EnA) : Enc { x : EnA // x ∈ el } := ⟨fun x => Enc.enc x.1, Enc.k EnA, fun x => Enc.len x.1, fun x v h => Enc.one x.1 v h, Enc.pos (α := EnA)⟩
theorem flat_sub (el : List EnA) : (el.attach.flatMap (encSub el).enc) = el.flatMap Enc.enc := by
  conv => rhs; rw [← List.attach_map_subtype_val el, List.flatMap_map]
  rfl
theorem flat_sub' (el : List EnA) (l : List { x : EnA // x ∈ el }) : (l.flatMap (encSub el).enc) = (l.map Subtype.val).flatMap Enc.enc := by
  rw [List.flatMap_map]
  rfl
theorem swoE (el : List EnA) (hR : ∀ x ∈ el, rightE x.val = true) : Go.Sort.SWO (ltOf fun x y : { x : EnA // x ∈ el } => cmpE x.1.val y.1.val) := by
  have hok : ∀ x : { x : EnA // x ∈ el }, x.1.val.t.ok = true := fun x => (rt_iff.1 (hR x.1 x.2)).2
  have hlt : ∀ x y : { x : EnA // x ∈ el }, ltOf (fun x y : { x : EnA // x ∈ el } => cmpE x.1.val y.1.val) x y = true ↔ AltP x.1.val y.1.val := fun x y => by
    unfold ltOf
    rw [decide_eq_true_eq]
    exact cmpE_neg (hok x) (hok y)
  refine ⟨fun x => ?_, fun x y z h1 h2 => ?_, fun x y z h1 h2 => ?_⟩
  · rw [← Bool.not_eq_true, hlt]; exact alt_irr
  · rw [hlt] at *; exact (alt_all (hok x) (hok y) (hok z)).1 h1 h2
  · rw [← Bool.not_eq_true, hlt] at *; exact (alt_all (hok x) (hok y) (hok z)).2.1 h1 h2
/-- slices.SortFunc of entities of one's own, under order.compare. -/
theorem sortE_own {w0 w : World} {X Y : List Ob} {p : Option Addr} {n cap : Nat} {el : List EnA} (hH : Hs w0 (Y ++ X) w) (hS : SlO 47 Y p n cap el) (hb : n ≤ 1000000) (hR : ∀ x ∈ el, rightE x.val = true) (hN : (el.map fun x => firstM x.val).Nodup)
    (hrd : ∀ (b : Ob) (W : World), Hs w0 (b :: X) W → ∀ x ∈ el, x.Reads W) :
    Calls Try.prog 37 #[.slice p n cap, .func (.func 38) #[] #[]] w fun e w' => e = .returned (.tuple #[]) ∧ ∃ Y' el', el'.Perm el ∧ SortP (el'.map EnA.val) ∧ SlO 47 Y' p n cap el' ∧ Hs w0 (Y' ++ X) w' := by
  by_cases hn : n = 0
  · subst hn
    refine (AnyF.slices_SortFunc_none sortEL p cap _ w).mono ?_
    rintro e w' ⟨rfl, rfl⟩
    have he : el = [] := List.length_eq_zero_iff.1 hS.len.symm
    subst he
    exact ⟨rfl, Y, [], .refl _, List.Pairwise.nil, hS, hH⟩
  · have hl := hS.len
    letI : Inhabited { x : EnA // x ∈ el } := ⟨⟨el[0]'(by omega), List.getElem_mem _⟩⟩
    letI := encSub el
    have hS' : SlO 47 Y p n cap el.attach := by
      rcases hS with ⟨_, _, h, _, _⟩ | ⟨g, cs, h1, h2, h3, h4⟩
      · exact absurd h hn
      · exact .inr ⟨g, cs, h1, h2, by rw [List.length_attach]; exact h3, by show OwnS (Enc.k EnA) (el.attach.flatMap (encSub el).enc) n cap cs; rw [flat_sub]; exact h4⟩
    have hok : ∀ x : { x : EnA // x ∈ el }, x.1.val.t.ok = true := fun x => (rt_iff.1 (hR x.1 x.2)).2
    have hlt : ∀ x y : { x : EnA // x ∈ el }, ltOf (fun x y : { x : EnA // x ∈ el } => cmpE x.1.val y.1.val) x y = true ↔ AltP x.1.val y.1.val := fun x y => by
      unfold ltOf
      rw [decide_eq_true_eq]
      exact cmpE_neg (hok x) (hok y)
    refine (sort_ownR (α := { x : EnA // x ∈ el }) sortEL Try.isAgg47 Try.sizeOf47 (fun x y => cmpE x.1.val y.1.val) (swoE el hR) (fun x y h1 h2 => ?_) 38 #[] (fun args w => Try.call38 args w) hH hS' hb
      (fun b W hW x y => compare_t x.1 y.1 W (hrd b W hW x.1 x.2) (hrd b W hW y.1 y.2) (rt_iff.1 (hR x.1 x.2)).1 (rt_iff.1 (hR y.1 y.2)).1)).mono ?_
    · rw [← Bool.not_eq_true, hlt] at h1 h2
      exact Subtype.ext (nodup_inj hN x.2 y.2 ((alt_all (hok x) (hok y) (hok y)).2.2.2.1 h1 h2).2.2.2)
    · rintro e w' ⟨rfl, Y', hY, hH'⟩
      have hp := List.mergeSort_perm el.attach (fun x y => !(ltOf fun x y : { x : EnA // x ∈ el } => cmpE x.1.val y.1.val) y x)
      have hsw := swoE el hR
      have hs := List.pairwise_mergeSort (le := fun x y => !(ltOf fun x y : { x : EnA // x ∈ el } => cmpE x.1.val y.1.val) y x)
        (fun a b c h1 h2 => by
          simp only [Bool.not_eq_true'] at *
          exact hsw.ntrans c b a h2 h1)
        (fun a b => by
          simp only [Bool.or_eq_true, Bool.not_eq_true']
          rw [← Bool.not_eq_true, ← Bool.not_eq_true, hlt, hlt]
          by_cases h : AltP b.1.val a.1.val
          · exact .inr ((alt_all (hok b) (hok a) (hok a)).2.2.1 h)
          · exact .inl h) el.attach
      generalize el.attach.mergeSort (fun x y => !(ltOf fun x y : { x : EnA // x ∈ el } => cmpE x.1.val y.1.val) y x) = sl at hY hp hs
      refine ⟨rfl, Y', sl.map Subtype.val, ?_, ?_, ?_, hH'⟩
      · have := hp.map Subtype.val
        rwa [List.attach_map_subtype_val] at this
      · unfold SortP
        rw [List.pairwise_map, List.pairwise_map]
        refine hs.imp fun {a b} h => ?_
        simp only [Bool.not_eq_true'] at h
        rw [ahead_not (hR b.1 b.2) (hR a.1 a.2), ← hlt, Bool.not_eq_true]
        exact h
      · rcases hY with ⟨_, _, h, _, _⟩ | ⟨g, cs, h1, h2, h3, h4⟩
        · exact absurd h hn
        · refine .inr ⟨g, cs, h1, h2, by rw [List.length_map]; exact h3, ?_⟩
          have h5 : OwnS (Enc.k EnA) (sl.flatMap (encSub el).enc) n cap cs := h4
          rwa [flat_sub'] at h5
end Go.Proofs.Ytoljahfofkmdaaa

/-! Order: few entities, few members. -/
namespace Go.Proofs.Ytoljahfofkmdaaa
open Go Go.RowKit

set_option maxRecDepth 100000 in
theorem ints_t (p : Option Addr) (n cap : Nat) (l : List Int) (w : World)
 (hsl : Sv w p l) (hn : n = l.length) (hcp : n ≤ cap) (hb : n ≤ 9223372036854775807)
 : Calls Try.prog 31 #[.slice p n cap] w fun e w' => ∃ q' n' c' Y, e = .returned (.slice q' n' c') ∧ SlO 3 Y q' n' c' (l.take 17) ∧ Below w.heap.size w w' ∧ Hs w Y w' := by
 refine enter (Hs.start w) Try.func31 rfl Try.ntmps31 rfl (sq_ (qa0 [] [0] [] (ds_ (sq_ (ao_ (mo 6 [(5, .sl (.slice p (min n 17) cap))] [] (fun γ2 => [(3, .slice (some ⟨γ2 0, 0, none⟩) 0 0), (8, .slice p (min n 17) cap)]) (fun γ2 L => bx (γ2 0) (#[]) 3 :: L) (fun γ2 => [SlRun Try.prog 40 (.slice p n cap) none (some (.int .i64 (if (17 : Int) < ((n : Nat) : Int) then 17 else (n : Nat)))) none (.slice p (min n 17) cap)]) (fun γ2 => (al1 (by rw [min_if17]; exact slE_hi (P := Try.prog) (h := (min n 17)) (T := 40) (e := 3) (k := 1) (by_ := 8) (by kernel_rfl) (by omega)))) (fun γ2 => ops_append (α := Int) [] ([bx (γ2 0) (#[]) 3]) ([]) (mvE rfl) rfl (by kernel_rfl) (by kernel_rfl) (p := (some ⟨γ2 0, 0, none⟩)) (n := 0) (cap := 0) (m := (min n 17)) (yv := .slice p (min n 17) cap) (by kernel_rfl) (by kernel_rfl) (T := 3) (by_ := 8) (by kernel_rfl) ([]) (l.take (min n 17)) (SlO.lit (by rfl) (by rfl) (by simp [maxLen])) (fun w hw => src_svn Try.underlying40 ((hsl.kept hw.below).take (min n 17)) (by rw [List.length_take]; omega)) (by rw [List.length_take]; omega) (by have hmx : maxLen = 9223372036854775807 := rfl; omega) (by have hmx : maxLen = 9223372036854775807 := rfl; omega) (fun Y3 p3 cap3 hO3 => qo0 1 [] [] [(2, .slice p3 (0 + (min n 17)) cap3)] (on_ (ds_ (rt ([]) (.slice p3 (0 + (min n 17)) cap3) ?_)))))))))))
 exact fun w' hw => ⟨_, _, _, _, rfl, SlO.asE hO3 (by rw [List.nil_append, take_min hn]), hw.below, one_tail14 (Hs.pick [Y3] [0] [] (by kernel_rfl) hw)⟩

set_option maxRecDepth 100000 in
theorem few_t (q : Option Addr) (m capq : Nat) (al : List EnA) (w : World)
 (hal : Sv w q al) (hma : m = al.length) (hbm : m ≤ 9223372036854775807) (hnm : ∀ x ∈ al, x.Reads w)
 : Calls Try.prog 18 #[.slice q m capq] w fun e w' => ∃ q' m' c' Y Yi bl, e = .returned (.slice q' m' c') ∧ SlO 47 Y q' m' c' bl ∧ GotE 3 Yi bl ∧ bl.map EnA.val = fewE (al.map EnA.val) ∧ (∀ x ∈ bl, x.U) ∧ Below w.heap.size w w' ∧ Hs w (Y ++ Yi) w' := by
 refine enter (Hs.start w) Try.func18 rfl Try.ntmps18 rfl (sq_ (qa0 [] [0] [] (ds_ (sq_ (qa0 [] [0] [(3, .slice none 0 0)] (ds_ (sq_ (sq_ (qa0 [] [3] [(6, .slice q m capq), (7, .int .i64 (m : Nat)), (8, .int .i64 0)] (ds_ (at_block (at_loop (α := Nat × List Ob × Option Addr × Nat × Nat × List EnA × List Ob) [3, 6, 7, 8] (fun ⟨j, Yo, po, nu, co, bl, Yi⟩ => [(3, .slice po nu co), (6, .slice q m capq), (7, .int .i64 (m : Nat)), (8, .int .i64 (j : Nat))]) (fun ⟨j, Yo, po, nu, co, bl, Yi⟩ => (Yo ++ (Yi ++ []))) (fun ⟨j, Yo, po, nu, co, bl, Yi⟩ => j ≤ m ∧ nu ≤ j ∧ SlO 47 Yo po nu co bl ∧ GotE 3 Yi bl ∧ bl.map EnA.val = fewE ((al.take j).map EnA.val) ∧ ∀ x ∈ bl, x.U) (fun ⟨j, Yo, po, nu, co, bl, Yi⟩ => m - j) (0, [], none, 0, 0, [], []) (by kernel_rfl) rfl ⟨Nat.zero_le _, Nat.le_refl _, SlO.nil, GotE.nil, rfl, (fun x hx => by cases hx)⟩ ?_))))))))))))
 rintro ⟨j, Yo, po, nu, co, bl, Yi⟩
 rintro ⟨hj, hnu, hO, hG, hB, hU⟩
 have hlb := hO.len
 refine sq_ ?_
 by_cases q5 : ((j : Nat) : Int) < ((m : Nat) : Int)
 ·
  refine qa [(0, .yes)] [3, 6, 7, 8] [(9, .bool true)] ([((j : Nat) : Int) < ((m : Nat) : Int)]) (al1 q5) (ds_ (sq_ (t_ (at_skip (ds_ (sq_ (at_block (sq_ ?_))))))))
  obtain ⟨b8, o8, rfl⟩ := hal.pos (i := j) (by omega)
  obtain ⟨x10, hx10⟩ := get_some (l := al) (m := j) (by omega)
  have hrx10 := hnm x10 (List.mem_of_getElem? hx10)
  have hsx10 : Sv w x10.p x10.l := hrx10.sv
  have hnx10 : x10.n = x10.l.length := hrx10.hn
  have hcx10 : x10.n ≤ x10.cap := hrx10.hc
  have hbx10 : x10.cap ≤ 9223372036854775807 := hrx10.hb
  refine ma [(1, .at b8 o8 j), (2, .go (outs b8 (o8 + j * 6) [.slice x10.p x10.n x10.cap, .int .u64 x10.th, .int .u64 x10.tl, .int .u64 x10.tw, .int .u64 x10.ord, .bool x10.fresh])), (5, .go (owns 0 0 6))] [3, 6, 7, 8] (fun γ11 => [(4, .int .i64 (j : Nat)), (5, .pointer (some ⟨γ11 0, 0, none⟩))]) (fun γ11 L => bx (γ11 0) (#[.slice x10.p x10.n x10.cap, .int .u64 x10.th, .int .u64 x10.tl, .int .u64 x10.tw, .int .u64 x10.ord, .bool x10.fresh]) 47 :: L) (fun γ11 => [(some ⟨b8, o8, none⟩ : Option Addr) = some ⟨b8, o8, none⟩, (j : Nat) = ((j : Nat) : Int), j < m] ++ (cellsP w b8 (o8 + j * 6) [.slice x10.p x10.n x10.cap, .int .u64 x10.th, .int .u64 x10.tl, .int .u64 x10.tw, .int .u64 x10.ord, .bool x10.fresh])) (fun γ11 => (alA (al2 rfl (al2 rfl (al1 (by omega)))) (rd_pre (hal.get hx10) _ rfl))) (fun γ11 => ds_ (sq_ ?_))
  by_cases q13 : ((j : Nat) : Int) < (20 : Int)
  ·
   refine qa [(1, .yes)] [3, 5, 6, 7, 8] [(14, .bool true)] ([((j : Nat) : Int) < (20 : Int)]) (al1 q13) (ds_ (t_ (sq_ (ao_ (qo0 2 [(1, .go (owns 0 0 1))] [3, 5, 6, 7, 8] [(16, .slice x10.p x10.n x10.cap)] (cP (fun v L' => ∃ q_ n_ c_ Y_, v = .slice q_ n_ c_ ∧ L' = List.take 1 (bx (γ11 0) (#[.slice x10.p x10.n x10.cap, .int .u64 x10.th, .int .u64 x10.tl, .int .u64 x10.tw, .int .u64 x10.ord, .bool x10.fresh]) 47 :: (Yo ++ (Yi ++ []))) ++ (Y_ ++ List.drop 1 (bx (γ11 0) (#[.slice x10.p x10.n x10.cap, .int .u64 x10.th, .int .u64 x10.tl, .int .u64 x10.tw, .int .u64 x10.ord, .bool x10.fresh]) 47 :: (Yo ++ (Yi ++ [])))) ∧ SlO 3 Y_ q_ n_ c_ (x10.l.take 17)) Try.call31 (fun w hw => (ints_t x10.p x10.n x10.cap x10.l w (hsx10.kept hw.below) hnx10 (by omega) (by omega)).mono fun e w' ⟨q_, n_, c_, Y_, he, hO, hb, hY⟩ => ⟨_, _, he, ⟨q_, n_, c_, Y_, rfl, rfl, hO⟩, hw.join hb hY 1⟩) ?_))))))
   rintro v16 L16 ⟨q16, n16, c16, Y16, rfl, rfl, hO16⟩
   refine mo0 2 [(4, .go (owns 0 0 1))] [3, 5, 6, 7, 8] (fun _ => []) (fun _ L => (L.set 0 (bx (γ11 0) (#[.slice q16 n16 c16, .int .u64 x10.th, .int .u64 x10.tl, .int .u64 x10.tw, .int .u64 x10.ord, .bool x10.fresh]) 47))) (fun _ => on_ (ds_ (ao_ (mo0 3 [(1, .go (owns 0 0 6))] [6, 7, 8] (fun γ18 => [(19, .slice po nu co), (21, .slice (some ⟨γ18 0, 0, none⟩) 1 1)]) (fun γ18 L => bx (γ18 0) (#[.slice q16 n16 c16, .int .u64 x10.th, .int .u64 x10.tl, .int .u64 x10.tw, .int .u64 x10.ord, .bool x10.fresh]) 47 :: L) (fun γ18 => Ops.pick [[bx (γ18 0) (#[.slice q16 n16 c16, .int .u64 x10.th, .int .u64 x10.tl, .int .u64 x10.tw, .int .u64 x10.ord, .bool x10.fresh]) 47], [bx (γ11 0) (#[.slice q16 n16 c16, .int .u64 x10.th, .int .u64 x10.tl, .int .u64 x10.tw, .int .u64 x10.ord, .bool x10.fresh]) 47], Y16, Yo, Yi] [0, 1, 3, 2, 4] [] (bx (γ18 0) (#[.slice q16 n16 c16, .int .u64 x10.th, .int .u64 x10.tl, .int .u64 x10.tw, .int .u64 x10.ord, .bool x10.fresh]) 47 :: bx (γ11 0) (#[.slice q16 n16 c16, .int .u64 x10.th, .int .u64 x10.tl, .int .u64 x10.tw, .int .u64 x10.ord, .bool x10.fresh]) 47 :: (Yo ++ (Y16 ++ (Yi ++ [])))) (by kernel_rfl) rfl rfl (ops_append (α := EnA) [bx (γ18 0) (#[.slice q16 n16 c16, .int .u64 x10.th, .int .u64 x10.tl, .int .u64 x10.tw, .int .u64 x10.ord, .bool x10.fresh]) 47, bx (γ11 0) (#[.slice q16 n16 c16, .int .u64 x10.th, .int .u64 x10.tl, .int .u64 x10.tw, .int .u64 x10.ord, .bool x10.fresh]) 47] Yo (Y16 ++ (Yi ++ [])) (.refl _) rfl (by kernel_rfl) (by kernel_rfl) (p := po) (n := nu) (cap := co) (m := 1) (yv := .slice (some ⟨γ18 0, 0, none⟩) 1 1) (by kernel_rfl) (by kernel_rfl) (T := 47) (by_ := 64) (by kernel_rfl) bl ([(⟨q16, n16, c16, (x10.l.take 17), x10.th, x10.tl, x10.tw, x10.ord, x10.fresh⟩ : EnA)]) hO (fun w hw => src_svn Try.underlying34 (sv_row (hw.row 0 rfl) (by rfl)) (by rfl)) (by rfl) (by have hmx : maxLen = 9223372036854775807 := rfl; omega) (by have hmx : maxLen = 9223372036854775807 := rfl; omega) (fun Y19 p19 cap19 hO19 => qo0 1 [] [6, 7, 8] [(3, .slice p19 (nu + 1) cap19)] (on_ (done_block (ds_ (qa [(0, .fit)] [3, 6, 7] [(8, .int .i64 (j + 1 : Nat))] ([Fit .i64 ((j + 1 : Nat))]) (al1 (fit64 (by omega) (by omega))) (Done.pick [[bx (γ18 0) (#[.slice q16 n16 c16, .int .u64 x10.th, .int .u64 x10.tl, .int .u64 x10.tw, .int .u64 x10.ord, .bool x10.fresh]) 47], [bx (γ11 0) (#[.slice q16 n16 c16, .int .u64 x10.th, .int .u64 x10.tl, .int .u64 x10.tw, .int .u64 x10.ord, .bool x10.fresh]) 47], Y19, Y16, Yi] [2, 4, 3] [0, 1] ((Y19 ++ (Yi ++ (Y16 ++ [])))) (by kernel_rfl) rfl rfl ?_))))))))))))
   refine Done.as (L' := (Y19 ++ ((Yi ++ Y16) ++ []))) (by simp only [List.append_assoc]) ?_
   exact dr [3, 6, 7, 8] (j + 1, Y19, p19, (nu + 1), cap19, (bl ++ [(⟨q16, n16, c16, (x10.l.take 17), x10.th, x10.tl, x10.tw, x10.ord, x10.fresh⟩ : EnA)]), Yi ++ Y16) ⟨by omega, by omega, hO19, GotE.snoc (y := (⟨q16, n16, c16, (x10.l.take 17), x10.th, x10.tl, x10.tw, x10.ord, x10.fresh⟩ : EnA)) hG hO16, few12_on hB hx10 (by omega) rfl, fun x hx => (List.mem_append.1 hx).elim (hU x) (fun h => by rw [List.mem_singleton.1 h]; exact ⟨hrx10.tU, hrx10.o0, hrx10.o1⟩)⟩
  ·
   refine qa [(1, .no)] [3, 5, 6, 7, 8] [(14, .bool false)] ([¬ (((j : Nat) : Int) < (20 : Int))]) (al1 q13) (ds_ (f_ (at_skip (done_block (ds_ (qa [(0, .fit)] [3, 6, 7] [(8, .int .i64 (j + 1 : Nat))] ([Fit .i64 ((j + 1 : Nat))]) (al1 (fit64 (by omega) (by omega))) (Done.pick [[bx (γ11 0) (#[.slice x10.p x10.n x10.cap, .int .u64 x10.th, .int .u64 x10.tl, .int .u64 x10.tw, .int .u64 x10.ord, .bool x10.fresh]) 47], Yo, Yi] [1, 2] [0] ((Yo ++ (Yi ++ []))) (by kernel_rfl) rfl rfl ?_)))))))
   exact dr [3, 6, 7, 8] (j + 1, Yo, po, nu, co, bl, Yi) ⟨by omega, by omega, hO, hG, few12_out hB (by omega), hU⟩
 ·
  refine qa [(0, .no)] [3, 6, 7, 8] [(9, .bool false)] ([¬ (((j : Nat) : Int) < ((m : Nat) : Int))]) (al1 q5) (ds_ (sq_ (f_ (at_leave _ rfl (ds_ (sq_ (qa0 [] [] [(2, .slice po nu co)] (ds_ (rt ([]) (.slice po nu co) ?_)))))))))
  rw [few12_all (by omega)] at hB
  exact fun w' hw => ⟨_, _, _, _, _, _, rfl, hO, hG, hB, hU, hw.below, two_tails14 (Hs.pick [Yo, Yi] [0, 1] [] (by kernel_rfl) hw)⟩
end Go.Proofs.Ytoljahfofkmdaaa

/-! Entities: the rows of pairs, step by step; plain. -/
namespace Go.Proofs.Ytoljahfofkmdaaa
open Go Go.RowKit

/-- A row of pairs as an element. -/
structure PsA where
  p : Option Addr
  n : Nat
  cap : Nat
  l : List Pr
def PsA.enc (x : PsA) : List Value := [.slice x.p x.n x.cap]
instance : Enc PsA := ⟨PsA.enc, 1, fun _ => rfl, fun x v h => by simp [PsA.enc] at h; subst h; rfl, by decide⟩
structure PsA.Reads (w : World) (x : PsA) : Prop where
  sv : Sv w x.p x.l
  hn : x.n = x.l.length
  hc : x.n ≤ x.cap
  hb : x.cap ≤ 9223372036854775807
section
variable {w w' w0 : World} {x : PsA} {al : List PsA} {T : TypeId} {Y Yi L : List Ob}
theorem PsA.Reads.kept (h : x.Reads w) (hb : Below w.heap.size w w') : x.Reads w' := ⟨h.sv.kept hb, h.hn, h.hc, h.hb⟩
/-- Rows of one's own, each in a block of its own. -/
def GotP (T : TypeId) (Yi : List Ob) (al : List PsA) : Prop := ∃ Ys : List (List Ob), Yi = Ys.flatten ∧ Ys.length = al.length ∧ ∀ (i : Nat) (Y : List Ob) (x : PsA), Ys[i]? = some Y → al[i]? = some x → SlO T Y x.p x.n x.cap x.l
theorem GotP.nil : GotP T [] [] := ⟨[], rfl, rfl, fun i Y x h => by simp at h⟩
theorem GotP.snoc (h : GotP T Yi al) (hx : SlO T Y x.p x.n x.cap x.l) : GotP T (Yi ++ Y) (al ++ [x]) := by
  obtain ⟨Ys, rfl, hl, hs⟩ := h
  refine ⟨Ys ++ [Y], by simp, by simp [hl], fun i Z z h1 h2 => ?_⟩
  by_cases hi : i < Ys.length
  · rw [List.getElem?_append_left hi] at h1
    rw [List.getElem?_append_left (by omega)] at h2
    exact hs i Z z h1 h2
  · rw [List.getElem?_append_right (by omega)] at h1
    rw [List.getElem?_append_right (by omega)] at h2
    have hz : i - Ys.length = 0 := by
      have := (List.getElem?_eq_some_iff.1 h1).1
      simpa using this
    rw [hz] at h1
    rw [show i - al.length = 0 by omega] at h2
    simp at h1 h2
    subst h1; subst h2
    exact hx
theorem GotP.own (h : GotP T Yi al) (hx : x ∈ al) : ∃ Y, List.Sublist Y Yi ∧ SlO T Y x.p x.n x.cap x.l := by
  obtain ⟨Ys, rfl, hl, hs⟩ := h
  obtain ⟨i, hi⟩ := List.mem_iff_getElem?.1 hx
  have hil := (List.getElem?_eq_some_iff.1 hi).1
  have e : Ys[i]? = some Ys[i] := List.getElem?_eq_getElem (by omega)
  exact ⟨Ys[i], List.sublist_flatten_of_mem (List.getElem_mem _), hs i _ x e hi⟩
theorem GotP.reads (h : GotP T Yi al) (hw : Hs w0 L w) (hs : List.Sublist Yi L) : ∀ x ∈ al, x.Reads w := fun x hx => by
  obtain ⟨Y, h1, h2⟩ := h.own hx
  have hf := h2.facts
  exact ⟨h2.sub hw (h1.trans hs), hf.1, hf.2.1, hf.2.2⟩
/-- One row is taken out, and another laid there. -/
theorem GotP.cut {i : Nat} (h : GotP T Yi al) (hx : al[i]? = some x) : ∃ A Z B, Yi = A ++ (Z ++ B) ∧ SlO T Z x.p x.n x.cap x.l ∧ ∀ (Z' : List Ob) (y : PsA), SlO T Z' y.p y.n y.cap y.l → GotP T (A ++ (Z' ++ B)) (al.set i y) := by
  obtain ⟨Ys, rfl, hl, hs⟩ := h
  have hil := (List.getElem?_eq_some_iff.1 hx).1
  have hiy : i < Ys.length := by omega
  have e : Ys[i]? = some Ys[i] := List.getElem?_eq_getElem hiy
  have hsp : Ys = Ys.take i ++ Ys[i] :: Ys.drop (i + 1) := by rw [← List.drop_eq_getElem_cons hiy, List.take_append_drop]
  refine ⟨(Ys.take i).flatten, Ys[i], (Ys.drop (i + 1)).flatten, ?_, hs i _ x e hx, fun Z' y hy => ⟨Ys.set i Z', ?_, by simp [hl], fun k Z z h1 h2 => ?_⟩⟩
  · have h9 := congrArg List.flatten hsp
    rw [List.flatten_append, List.flatten_cons] at h9
    exact h9
  · rw [List.set_eq_take_append_cons_drop, if_pos hiy]
    simp
  · by_cases hk : i = k
    · subst hk
      rw [List.getElem?_set_self hiy] at h1
      rw [List.getElem?_set_self hil] at h2
      cases h1; cases h2
      exact hy
    · rw [List.getElem?_set_ne hk] at h1 h2
      exact hs k Z z h1 h2
end

section
variable {T : TypeId} {gs : List (List Int)} {ts : List Rn} {ws : List Wt} {zs : List Pr} {p : Pr} {j n M : Nat} {rl : List PsA} {e y : PsA} {D : List (Int × Int)} {l : List Int} {c v : Int} {u : Int → Int} {i : Nat} {g : List Int}
theorem GotP.rep (n : Nat) : GotP T [] (List.replicate n ⟨none, 0, 0, []⟩) :=
  ⟨List.replicate n [], by simp, by simp, fun i Y x h1 h2 => by
      rw [List.getElem?_replicate] at h1 h2
      split at h1
      · rename_i hi
        rw [if_pos hi] at h2
        cases h1; cases h2
        exact SlO.nil
      · cases h1⟩
theorem rows_0 : (List.replicate M (⟨none, 0, 0, []⟩ : PsA)).map PsA.l = (List.range M).map (rowP gs (zs.take 0)) := by
  rw [List.map_replicate, List.take_zero]
  have e : rowP gs [] = fun _ => [] := by funext n; unfold rowP rowZ; split <;> rfl
  rw [e]
  apply List.ext_getElem (by simp)
  intro i h1 h2
  simp
theorem sing_0 : singZ gs (zs.take 0) = [] := by rw [List.take_zero]; rfl
theorem sing_no (hz : zs[j]? = some p) (h : gnV gs p.r.id ≠ 0) : singZ gs (zs.take (j + 1)) = singZ gs (zs.take j) := by
  unfold singZ rowZ
  rw [take_one hz, List.filter_append]
  simp [h]
theorem sing_yes (hz : zs[j]? = some p) (h : gnV gs p.r.id = 0) : singZ gs (zs.take (j + 1)) = singZ gs (zs.take j) ++ [entO [p]] := by
  unfold singZ rowZ
  rw [take_one hz, List.filter_append, List.map_append]
  simp [h]
theorem rowp_on (hz : zs[j]? = some p) : rowP gs (zs.take (j + 1)) n = if n = gnV gs p.r.id ∧ n ≠ 0 then rowP gs (zs.take j) n ++ [p] else rowP gs (zs.take j) n := by
  unfold rowP rowZ
  rw [take_one hz, List.filter_append]
  by_cases h0 : n = 0
  · simp [h0]
  · rw [if_neg h0, if_neg h0]
    by_cases h : gnV gs p.r.id = n
    · rw [if_pos ⟨h.symm, h0⟩]; simp [h]
    · rw [if_neg (fun h2 => h h2.1.symm)]; simp [h]
theorem rowp_no (hz : zs[j]? = some p) (h : gnV gs p.r.id = 0) : (List.range M).map (rowP gs (zs.take (j + 1))) = (List.range M).map (rowP gs (zs.take j)) := by
  apply List.map_congr_left
  intro n _
  rw [rowp_on hz, if_neg (by omega)]
theorem rowp_set (hR : rl.map PsA.l = (List.range M).map (rowP gs (zs.take j))) (hx : rl[n]? = some e) (hz : zs[j]? = some p) (hn : gnV gs p.r.id = n) (h0 : 0 < n) (hy : y.l = e.l ++ [p]) : (rl.set n y).map PsA.l = (List.range M).map (rowP gs (zs.take (j + 1))) := by
  rw [List.map_set, hR, hy]
  have h1 : (rl.map PsA.l)[n]? = some e.l := by rw [List.getElem?_map, hx]; rfl
  rw [hR, List.getElem?_map] at h1
  apply List.ext_getElem?
  intro i
  by_cases hi : i < M
  · by_cases hin : n = i
    · subst hin
      rw [List.getElem?_set_self (by simpa using hi), List.getElem?_map, List.getElem?_range hi]
      rw [List.getElem?_range hi] at h1
      simp only [Option.map_some, Option.some.injEq] at h1 ⊢
      rw [rowp_on hz, if_pos ⟨hn.symm, by omega⟩, h1]
    · rw [List.getElem?_set_ne hin, List.getElem?_map, List.getElem?_map, List.getElem?_range hi]
      simp only [Option.map_some, Option.some.injEq]
      rw [rowp_on hz, if_neg (by omega)]
  · rw [List.getElem?_eq_none (by simpa using hi), List.getElem?_eq_none (by simpa using hi)]
theorem gi_on (hI : ∀ k, (mget D k).getD 0 = if k ∈ l.take i then v else u k) (hx : l[i]? = some c) : ∀ k, (mget (mupd D c v) k).getD 0 = if k ∈ l.take (i + 1) then v else u k := fun k => by
  rw [take_one hx]
  by_cases e : k = c
  · subst e
    rw [mu_get, if_pos (List.mem_append_right _ (List.mem_singleton.2 rfl))]; rfl
  · rw [mu_get_ne e, hI k]
    by_cases h : k ∈ l.take i
    · rw [if_pos h, if_pos (List.mem_append_left _ h)]
    · rw [if_neg h, if_neg (fun h2 => (List.mem_append.1 h2).elim h fun h3 => e (List.mem_singleton.1 h3))]
theorem gj_on (hx : gs[j]? = some g) (hI : ∀ k, (mget D k).getD 0 = if k ∈ g.take i then ((j + 1 : Nat) : Int) else ((gnV (gs.take j) k : Nat) : Int)) (hi : g.length ≤ i) : ∀ k, (mget D k).getD 0 = ((gnV (gs.take (j + 1)) k : Nat) : Int) := fun k => by
  have hj := (List.getElem?_eq_some_iff.1 hx).1
  rw [hI k, List.take_of_length_le hi, take_one hx]
  unfold gnV
  rw [gn_snoc, List.length_take, Nat.min_eq_left (by omega)]
  split
  · simp
  · rfl
theorem row_in (hR : rl.map PsA.l = (List.range M).map (rowP gs zs)) (hx : rl[n]? = some e) : e.l.length ≤ zs.length ∧ ∀ p ∈ e.l, p ∈ zs := by
  have h1 : (rl.map PsA.l)[n]? = some e.l := by rw [List.getElem?_map, hx]; rfl
  rw [hR, List.getElem?_map] at h1
  have hn : n < M := by
    have := (List.getElem?_eq_some_iff.1 hx).1
    have h2 : rl.length = M := by have := congrArg List.length hR; simpa using this
    omega
  rw [List.getElem?_range hn] at h1
  simp only [Option.map_some, Option.some.injEq] at h1
  rw [← h1]
  unfold rowP rowZ
  split
  · exact ⟨Nat.zero_le _, fun p h => by cases h⟩
  · exact ⟨List.length_filter_le _ _, fun p h => (List.mem_filter.1 h).1⟩
theorem fm_no (hx : rl[n]? = some e) (h : e.l = []) : ((rl.map PsA.l).take (n + 1)).filterMap neO = ((rl.map PsA.l).take n).filterMap neO := by
  rw [take_one (by rw [List.getElem?_map, hx]; rfl : (rl.map PsA.l)[n]? = some e.l), List.filterMap_append, h]
  simp [neO]
theorem fm_yes (hx : rl[n]? = some e) (h : e.l ≠ []) : ((rl.map PsA.l).take (n + 1)).filterMap neO = ((rl.map PsA.l).take n).filterMap neO ++ [entO e.l] := by
  rw [take_one (by rw [List.getElem?_map, hx]; rfl : (rl.map PsA.l)[n]? = some e.l), List.filterMap_append]
  simp [ne_some h]
theorem raw_end (hR : rl.map PsA.l = (List.range (gs.length + 1)).map (rowP gs zs)) (hj : rl.length ≤ j) : singZ gs zs ++ ((rl.map PsA.l).take j).filterMap neO = rawV gs zs := by
  rw [List.take_of_length_le (by simpa using hj), hR]; rfl
theorem raw_U {a : En} (hz : ∀ p ∈ zs, p.U) (ha : a ∈ rawV gs zs) : a.t.U ∧ 0 ≤ a.ord ∧ a.ord < 18446744073709551616 := by
  obtain ⟨F, hF, hs, rfl, _⟩ := raw_in ha
  exact ⟨one_t (P := Fq.U) hF fun p hp => (hz p (hs p hp)).r.t, one_o (P := fun o => 0 ≤ o) hF fun p hp => (hz p (hs p hp)).w.o0, one_o (P := fun o => o < 18446744073709551616) hF fun p hp => (hz p (hs p hp)).w.o1⟩
theorem pairs_U (h1 : ∀ r ∈ ts, r.U) (h2 : ∀ x ∈ ws, x.U) : ∀ p ∈ pairsV ts ws, p.U := fun p hp => ⟨h1 _ (pairs_mem hp).1, h2 _ (pairs_mem hp).2⟩
theorem raw_Us {el fl : List EnA} (hp : fl.Perm el) (he : el.map EnA.val = rawV gs zs) (hz : ∀ p ∈ zs, p.U) : ∀ x ∈ fl, x.U := fun x hx => by
  have := raw_U (gs := gs) hz (by rw [← he]; exact List.mem_map_of_mem (hp.mem_iff.1 hx))
  exact ⟨this.1, this.2.1, this.2.2⟩
end
end Go.Proofs.Ytoljahfofkmdaaa
