/- Texts of this proof, one behind the other. -/
import Derived.Test.YtjfebdhflkndmaaZa
import Derived.Laws.StructEq
import Derived.MapKept
import Derived.Laws.MakeOwn
import Derived.Shelf.SlSortCmp.NoneTotal
import Derived.Test.YtjfebdhflkndmaaProg
import Derived.StillTailTactics
import Derived.ProofKit
import Derived.Carry
import Derived.Deep.Slices
import Derived.Lib.SmallJoins
/-! Timers: which may be. -/
namespace Go.Proofs.Ytjfebdhflkndmaa
open Go Go.RowKit

set_option maxRecDepth 100000 in
theorem wcheck_t (now : Int) (p : Option Addr) (n cap : Nat) (ts : List Tim) (w : World)
 (hts : Sv w p ts) (hn : n = ts.length) (hb : n ≤ 1000)
 : Calls Try.prog 10 #[.agg #[.int .i64 now, .slice p n cap]] w fun e w' => e = .returned (.int .i64 (if wheelB now ts = true then 0 else 250)) ∧ Below w.heap.size w w' := by
 refine enter (Hs.start w) Try.func10 rfl Try.ntmps10 rfl (sq_ (ma0 [] [] (fun γ1 => [(1, .pointer (some ⟨γ1 0, 0, none⟩))]) (fun γ1 L => bx (γ1 0) (#[.int .i64 now, .slice p n cap]) 24 :: L) (fun γ1 => ds_ (sq_ (sq_ ?_)))))
 by_cases q3 : (now : Int) < (0 : Int)
 ·
  refine qa [(1, .go (owns 0 0 1)), (2, .yes)] [1] [(12, .bool true)] ([(now : Int) < (0 : Int)]) (al1 q3) (ds_ (t_ (sq_ (qa0 [] [] [(2, .int .i64 250)] (ds_ (rt ([]) (.int .i64 250) ?_))))))
  exact fun w' hw => ⟨by rw [bad_now (by omega)]; rfl, hw.below⟩
 ·
  by_cases q7 : (now : Int) > (1125899906842624 : Int)
  ·
   refine qa [(1, .go (owns 0 0 1)), (2, .no), (5, .go (owns 0 0 1)), (6, .yes)] [1] [(12, .bool true)] ([¬ ((now : Int) < (0 : Int))] ++ ([(now : Int) > (1125899906842624 : Int)])) (alA (al1 q3) (al1 q7)) (ds_ (t_ (sq_ (qa0 [] [] [(2, .int .i64 250)] (ds_ (rt ([]) (.int .i64 250) ?_))))))
   exact fun w' hw => ⟨by rw [bad_now (by omega)]; rfl, hw.below⟩
  ·
   refine qa [(1, .go (owns 0 0 1)), (2, .no), (5, .go (owns 0 0 1)), (6, .no)] [1] [(12, .bool false)] ([¬ ((now : Int) < (0 : Int))] ++ ([¬ ((now : Int) > (1125899906842624 : Int))])) (alA (al1 q3) (al1 q7)) (ds_ (f_ (at_skip (ds_ (sq_ (sq_ (qa0 [(1, .go (owns 0 1 1))] [1] [(14, .slice p n cap), (15, .int .i64 ((n : Nat))), (16, .int .i64 0)] (ds_ (at_block (at_loop (α := Nat) [1, 14, 15, 16] (fun j => [(1, .pointer (some ⟨γ1 0, 0, none⟩)), (14, .slice p n cap), (15, .int .i64 ((n : Nat))), (16, .int .i64 ((j : Nat)))]) (fun j => [bx (γ1 0) (#[.int .i64 now, .slice p n cap]) 24]) (fun j => j ≤ n ∧ Ris Tim.id (ts.take j) ∧ ∀ y ∈ ts.take j, 0 ≤ y.id ∧ y.id < 32 ∧ now < y.due ∧ y.due ≤ 1125899906842624) (fun j => n - j) 0 (by kernel_rfl) rfl ⟨Nat.zero_le _, ris_take0T, all_take0T⟩ ?_))))))))))
   rintro j
   rintro ⟨hj, hR, hA⟩
   refine sq_ ?_
   by_cases q13 : ((j : Nat) : Int) < ((n : Nat) : Int)
   ·
    refine qa [(0, .yes)] [1, 14, 15, 16] [(17, .bool true)] ([((j : Nat) : Int) < ((n : Nat) : Int)]) (al1 q13) (ds_ (sq_ (t_ (at_skip (ds_ (sq_ (at_block (sq_ ?_))))))))
    obtain ⟨b16, o16, rfl⟩ := hts.pos (i := j) (by omega)
    obtain ⟨x18, hx18⟩ := get_some (l := ts) (m := j) (by omega)
    refine ma [(1, .at b16 o16 j), (2, .go (outs b16 (o16 + j * 2) [.int .i64 x18.id, .int .i64 x18.due])), (5, .go (owns 0 0 2))] [1, 14, 15, 16] (fun γ19 => [(3, .int .i64 ((j : Nat))), (4, .pointer (some ⟨γ19 0, 0, none⟩))]) (fun γ19 L => bx (γ19 0) (#[.int .i64 x18.id, .int .i64 x18.due]) 33 :: L) (fun γ19 => [(some ⟨b16, o16, none⟩ : Option Addr) = some ⟨b16, o16, none⟩, ((j : Nat)) = ((j : Nat) : Int), j < n] ++ (cellsP w b16 (o16 + j * 2) [.int .i64 x18.id, .int .i64 x18.due])) (fun γ19 => (alA (al2 rfl (al2 rfl (al1 (by omega)))) (rd_pre (hts.get hx18) _ rfl))) (fun γ19 => ds_ (sq_ ?_))
    rcases q20 : idB x18.id with _ | _
    ·
     refine at_calm rfl (by kernel_rfl) (by kernel_rfl) ?_
     refine cm 2 [(1, .go (owns 0 0 1))] [1, 3, 4, 14, 15, 16] [(22, .int .i64 x18.id)] ([]) (by kernel_rfl) rfl al0 ?_
     refine cK (.bool false) Try.call29 (fun w hw => by have := may_t x18.id w; rw [q20] at this; exact this) ?_
     refine cm 29 [] [1, 14, 15, 16] [(52, .bool true)] ([]) (by kernel_rfl) rfl al0 ?_
     refine calm_nil' ?_
     refine ds_ (t_ (sq_ (qa0 [] [] [(2, .int .i64 250)] (ds_ (rt ([]) (.int .i64 250) ?_)))))
     have hid := of_decide_eq_false q20
     exact fun w' hw => ⟨by rw [bad_tim hx18 (by omega)]; rfl, hw.below⟩
    ·
     by_cases q24 : (x18.due : Int) ≤ (now : Int)
     ·
      refine at_calm rfl (by kernel_rfl) (by kernel_rfl) ?_
      refine cm 2 [(1, .go (owns 0 0 1))] [1, 3, 4, 14, 15, 16] [(22, .int .i64 x18.id)] ([]) (by kernel_rfl) rfl al0 ?_
      refine cK (.bool true) Try.call29 (fun w hw => by have := may_t x18.id w; rw [q20] at this; exact this) ?_
      refine cm 29 [(6, .go (owns 0 1 1)), (8, .go (owns 1 0 1)), (9, .yes)] [1, 14, 15, 16] [(52, .bool true)] ([(x18.due : Int) ≤ (now : Int)]) (by kernel_rfl) rfl (al1 q24) ?_
      refine calm_nil' ?_
      refine ds_ (t_ (sq_ (qa0 [] [] [(2, .int .i64 250)] (ds_ (rt ([]) (.int .i64 250) ?_)))))
      exact fun w' hw => ⟨by rw [bad_tim hx18 (by omega)]; rfl, hw.below⟩
     ·
      by_cases q28 : (x18.due : Int) > (1125899906842624 : Int)
      ·
       refine at_calm rfl (by kernel_rfl) (by kernel_rfl) ?_
       refine cm 2 [(1, .go (owns 0 0 1))] [1, 3, 4, 14, 15, 16] [(22, .int .i64 x18.id)] ([]) (by kernel_rfl) rfl al0 ?_
       refine cK (.bool true) Try.call29 (fun w hw => by have := may_t x18.id w; rw [q20] at this; exact this) ?_
       refine cm 29 [(6, .go (owns 0 1 1)), (8, .go (owns 1 0 1)), (9, .no), (13, .go (owns 0 1 1)), (14, .yes)] [1, 14, 15, 16] [(52, .bool true)] ([¬ ((x18.due : Int) ≤ (now : Int))] ++ ([(x18.due : Int) > (1125899906842624 : Int)])) (by kernel_rfl) rfl (alA (al1 q24) (al1 q28)) ?_
       refine calm_nil' ?_
       refine ds_ (t_ (sq_ (qa0 [] [] [(2, .int .i64 250)] (ds_ (rt ([]) (.int .i64 250) ?_)))))
       exact fun w' hw => ⟨by rw [bad_tim hx18 (by omega)]; rfl, hw.below⟩
      ·
       by_cases q32 : ((j : Nat) : Int) > (0 : Int)
       ·
        obtain ⟨x33, hx33⟩ := get_some (l := ts) (m := j - 1) (by omega)
        by_cases q34 : (x33.id : Int) ≥ (x18.id : Int)
        ·
         refine at_calm rfl (by kernel_rfl) (by kernel_rfl) ?_
         refine cm 2 [(1, .go (owns 0 0 1))] [1, 3, 4, 14, 15, 16] [(22, .int .i64 x18.id)] ([]) (by kernel_rfl) rfl al0 ?_
         refine cK (.bool true) Try.call29 (fun w hw => by have := may_t x18.id w; rw [q20] at this; exact this) ?_
         refine cm 29 [(6, .go (owns 0 1 1)), (8, .go (owns 1 0 1)), (9, .no), (13, .go (owns 0 1 1)), (14, .no), (18, .yes), (21, .go (owns 1 1 1)), (23, .fit), (24, .at b16 o16 (j - 1)), (26, .go (outs b16 (o16 + (j - 1) * 2) [.int .i64 x33.id])), (28, .go (owns 0 0 1)), (29, .yes)] [1, 14, 15, 16] [(52, .bool true)] ([¬ ((x18.due : Int) ≤ (now : Int))] ++ ([¬ ((x18.due : Int) > (1125899906842624 : Int))] ++ ([((j : Nat) : Int) > (0 : Int)] ++ ([Fit .i64 (((j : Nat)) - 1)] ++ ([(some ⟨b16, o16, none⟩ : Option Addr) = some ⟨b16, o16, none⟩, (((j : Nat)) - 1) = ((j - 1 : Nat) : Int), j - 1 < n] ++ (cellsP w b16 (o16 + (j - 1) * 2) [.int .i64 x33.id] ++ ([(x33.id : Int) ≥ (x18.id : Int)]))))))) (by kernel_rfl) rfl (alA (al1 q24) (alA (al1 q28) (alA (al1 q32) (alA (al1 (fit64 (by omega) (by omega))) (alA (al2 rfl (al2 (by omega) (al1 (by omega)))) (alA (rd_pre (hts.get hx33) _ rfl) (al1 q34))))))) ?_
         refine calm_nil' ?_
         refine ds_ (t_ (sq_ (qa0 [] [] [(2, .int .i64 250)] (ds_ (rt ([]) (.int .i64 250) ?_)))))
         exact fun w' hw => ⟨by rw [bad_rise hx18 hx33 (by omega) (by omega)]; rfl, hw.below⟩
        ·
         refine at_calm rfl (by kernel_rfl) (by kernel_rfl) ?_
         refine cm 2 [(1, .go (owns 0 0 1))] [1, 3, 4, 14, 15, 16] [(22, .int .i64 x18.id)] ([]) (by kernel_rfl) rfl al0 ?_
         refine cK (.bool true) Try.call29 (fun w hw => by have := may_t x18.id w; rw [q20] at this; exact this) ?_
         refine cm 29 [(6, .go (owns 0 1 1)), (8, .go (owns 1 0 1)), (9, .no), (13, .go (owns 0 1 1)), (14, .no), (18, .yes), (21, .go (owns 1 1 1)), (23, .fit), (24, .at b16 o16 (j - 1)), (26, .go (outs b16 (o16 + (j - 1) * 2) [.int .i64 x33.id])), (28, .go (owns 0 0 1)), (29, .no)] [1, 14, 15, 16] [(52, .bool false)] ([¬ ((x18.due : Int) ≤ (now : Int))] ++ ([¬ ((x18.due : Int) > (1125899906842624 : Int))] ++ ([((j : Nat) : Int) > (0 : Int)] ++ ([Fit .i64 (((j : Nat)) - 1)] ++ ([(some ⟨b16, o16, none⟩ : Option Addr) = some ⟨b16, o16, none⟩, (((j : Nat)) - 1) = ((j - 1 : Nat) : Int), j - 1 < n] ++ (cellsP w b16 (o16 + (j - 1) * 2) [.int .i64 x33.id] ++ ([¬ ((x33.id : Int) ≥ (x18.id : Int))]))))))) (by kernel_rfl) rfl (alA (al1 q24) (alA (al1 q28) (alA (al1 q32) (alA (al1 (fit64 (by omega) (by omega))) (alA (al2 rfl (al2 (by omega) (al1 (by omega)))) (alA (rd_pre (hts.get hx33) _ rfl) (al1 q34))))))) ?_
         refine calm_nil' ?_
         refine ds_ (f_ (at_skip (done_block (ds_ (qa [(0, .fit)] [1, 14, 15] [(16, .int .i64 ((j + 1 : Nat)))] ([Fit .i64 ((j + 1 : Nat))]) (al1 (fit64 (by omega) (by omega))) (Done.drop (L' := [bx (γ1 0) (#[.int .i64 now, .slice (some ⟨b16, o16, none⟩) n cap]) 24]) ?_ (List.Sublist.cons _ (List.Sublist.cons_cons _ (List.Sublist.refl _)))))))))
         have hid := of_decide_eq_true q20
         exact dr [1, 14, 15, 16] (j + 1) ⟨by omega, ris_take_onT hR hx18 (.inr ⟨x33, hx33, by omega⟩), all_onT hA hx18 ⟨by omega, by omega, by omega, by omega⟩⟩
       ·
        refine at_calm rfl (by kernel_rfl) (by kernel_rfl) ?_
        refine cm 2 [(1, .go (owns 0 0 1))] [1, 3, 4, 14, 15, 16] [(22, .int .i64 x18.id)] ([]) (by kernel_rfl) rfl al0 ?_
        refine cK (.bool true) Try.call29 (fun w hw => by have := may_t x18.id w; rw [q20] at this; exact this) ?_
        refine cm 29 [(6, .go (owns 0 1 1)), (8, .go (owns 1 0 1)), (9, .no), (13, .go (owns 0 1 1)), (14, .no), (18, .no)] [1, 14, 15, 16] [(52, .bool false)] ([¬ ((x18.due : Int) ≤ (now : Int))] ++ ([¬ ((x18.due : Int) > (1125899906842624 : Int))] ++ ([¬ (((j : Nat) : Int) > (0 : Int))]))) (by kernel_rfl) rfl (alA (al1 q24) (alA (al1 q28) (al1 q32))) ?_
        refine calm_nil' ?_
        refine ds_ (f_ (at_skip (done_block (ds_ (qa [(0, .fit)] [1, 14, 15] [(16, .int .i64 ((j + 1 : Nat)))] ([Fit .i64 ((j + 1 : Nat))]) (al1 (fit64 (by omega) (by omega))) (Done.drop (L' := [bx (γ1 0) (#[.int .i64 now, .slice (some ⟨b16, o16, none⟩) n cap]) 24]) ?_ (List.Sublist.cons _ (List.Sublist.cons_cons _ (List.Sublist.refl _)))))))))
        have hid := of_decide_eq_true q20
        exact dr [1, 14, 15, 16] (j + 1) ⟨by omega, ris_take_onT hR hx18 (.inl (by omega)), all_onT hA hx18 ⟨by omega, by omega, by omega, by omega⟩⟩
   ·
    refine qa [(0, .no)] [1, 14, 15, 16] [(17, .bool false)] ([¬ (((j : Nat) : Int) < ((n : Nat) : Int))]) (al1 q13) (ds_ (sq_ (f_ (at_leave _ rfl (ds_ (sq_ (qa0 [] [] [(2, .int .i64 0)] (ds_ (rt ([]) (.int .i64 0) ?_)))))))))
    exact fun w' hw => ⟨by rw [good_tims (by omega) (by omega) hR (by omega) hA]; rfl, hw.below⟩

end Go.Proofs.Ytjfebdhflkndmaa

/-! Timers: what they tell; plain. -/
namespace Go.Proofs.Ytjfebdhflkndmaa
open Go Go.RowKit

def sameW (now : Int) (ts : List Tim) (now2 : Int) (ts2 : List Tim) : Bool := decide (now = now2) && decide (ts = ts2)
/-- The document's At: 0 where there is none. -/
def atR (ts : List Tim) (k : Int) : Int := match getK Tim.id ts k with
  | some x => x.due
  | none => 0
section
variable {now now2 k : Int} {ts ts2 : List Tim}
theorem atO_bad (h : wheelB now ts = false) : atO now ts k = none := by simp [atO, h]
theorem atO_ok (h : wheelB now ts = true) : atO now ts k = getK Tim.id ts k := by simp [atO, h]
end
end Go.Proofs.Ytjfebdhflkndmaa

/-! Timers: where one is, when it is due, which wheels are the same. -/
namespace Go.Proofs.Ytjfebdhflkndmaa
open Go Go.RowKit
theorem tim_eqRun (op : BinOp) (hop : op = .eql ∨ op = .neq) (x y : Operand) (a b : Tim) (r : Bool) (hr : r = (if op = .eql then decide (a = b) else !decide (a = b))) : EqRun Try.prog op 33 x y (.agg #[.int .i64 a.id, .int .i64 a.due]) (.agg #[.int .i64 b.id, .int .i64 b.due]) r := by
 intro w
 subst hr
 have hS : Try.prog.underlying 33 = some (.struct (Try.prog.fieldsOf 33)) := by kernel_rfl
 have hp : Try.prog.stoodInHeld 33 = false := by kernel_rfl
 have hg : Try.prog.eqGuardType Try.prog.depth 33 = false := by kernel_rfl
 have key : (Op.equal 33 (.agg #[.int .i64 a.id, .int .i64 a.due]) (.agg #[.int .i64 b.id, .int .i64 b.due])).run Try.prog w = .ok (decide (a = b)) w := by
  unfold Op.equal
  rw [show Op.maxDepth = 9999 + 1 from rfl, run_equalIn_struct w 9999 33 _ _ hS hp]
  simp only [Program.fieldsOf, Try.underlying33]
  go_simp
  obtain ⟨a0, a1⟩ := a
  obtain ⟨b0, b1⟩ := b
  simp only [Tim.mk.injEq]
  by_cases h0 : a0 = b0 <;> by_cases h1 : a1 = b1 <;> simp [h0, h1]
 have guard : (eqGuard op 33 x y (.agg #[.int .i64 a.id, .int .i64 a.due]) (.agg #[.int .i64 b.id, .int .i64 b.due])).run Try.prog w = .ok () w := by
  unfold eqGuard
  rcases hop with rfl | rfl <;> simp [hg]
 rw [Sem.run_bind, guard]
 simp only [Result.andThen_ok]
 rcases hop with rfl | rfl <;> simp [binOp, Sem.run_bind, key]
theorem tim_eq_t {x y : Operand} {a b : Tim} (h : a = b) : EqRun Try.prog .eql 33 x y (.agg #[.int .i64 a.id, .int .i64 a.due]) (.agg #[.int .i64 b.id, .int .i64 b.due]) true := tim_eqRun _ (.inl rfl) x y a b _ (by simp [h])
set_option maxRecDepth 100000 in
theorem find_t (now : Int) (p : Option Addr) (n cap : Nat) (ts : List Tim) (k : Int) (w : World)
 (hts : Sv w p ts) (hn : n = ts.length) (hb : n ≤ 1000)
 (hgd : wheelB now ts = true)
 : Calls Try.prog 32 #[.agg #[.int .i64 now, .slice p n cap], .int .i64 k] w fun e w' => e = .returned (.tuple #[.int .i64 (posK Tim.id ts k : Nat), .bool (hasK Tim.id ts k)]) ∧ Below w.heap.size w w' := by
 refine enter (Hs.start w) Try.func32 rfl Try.ntmps32 rfl (sq_ (ma0 [] [1] (fun γ1 => [(2, .pointer (some ⟨γ1 0, 0, none⟩))]) (fun γ1 L => bx (γ1 0) (#[.int .i64 now, .slice p n cap]) 24 :: L) (fun γ1 => ds_ (sq_ (ao_ (qo0 3 [(1, .go (owns 0 1 1))] [2] [(10, .slice p n cap), (11, .int .i64 k)] (cD (.tuple #[.int .i64 ((posK Tim.id ts k : Nat)), .bool (hasK Tim.id ts k)]) Try.call44 (fun w hw => row_t p n cap ts k w (hts.kept hw.below) hn (by omega) ((wheel_iff.1 hgd).rs)) (qo0 5 [] [2] [(6, .int .i64 ((posK Tim.id ts k : Nat))), (7, .bool (hasK Tim.id ts k))] (on_ (ds_ (sq_ ?_)))))))))))
 rcases q5 : hasK Tim.id ts k with _ | _
 ·
  refine qa0 [] [] [(4, .int .i64 ((posK Tim.id ts k : Nat))), (5, .bool false)] (ds_ (rt ([]) (.tuple #[.int .i64 ((posK Tim.id ts k : Nat)), .bool false]) ?_))
  exact fun w' hw => ⟨rfl, hw.below⟩
 ·
  refine ao_ (qo0 4 [(3, .go (owns 0 0 2))] [] [(15, .int .i64 ((posK Tim.id ts k : Nat))), (17, .bool true), (18, .agg #[.int .i64 now, .slice p n cap])] (cD (.int .i64 0) Try.call10 (fun w hw => by have := wcheck_t now p n cap ts w (hts.kept hw.below) hn (by omega); rw [hgd] at this; exact this) (qo0 4 [] [] [(4, .int .i64 ((posK Tim.id ts k : Nat))), (5, .bool true)] (on_ (ds_ (rt ([]) (.tuple #[.int .i64 ((posK Tim.id ts k : Nat)), .bool true]) ?_))))))
  exact fun w' hw => ⟨rfl, hw.below⟩

set_option maxRecDepth 100000 in
theorem findw_t (now : Int) (p : Option Addr) (n cap : Nat) (ts : List Tim) (k : Int) (w : World)
 (hts : Sv w p ts) (hn : n = ts.length) (hb : n ≤ 1000)
 (hgd : wheelB now ts = false)
 : Calls Try.prog 32 #[.agg #[.int .i64 now, .slice p n cap], .int .i64 k] w fun e w' => ∃ (i : Nat), e = .returned (.tuple #[.int .i64 (i : Nat), .bool false]) ∧ Below w.heap.size w w' := by
 refine enter (Hs.start w) Try.func32 rfl Try.ntmps32 rfl (sq_ (ma0 [] [1] (fun γ1 => [(2, .pointer (some ⟨γ1 0, 0, none⟩))]) (fun γ1 L => bx (γ1 0) (#[.int .i64 now, .slice p n cap]) 24 :: L) (fun γ1 => ds_ (sq_ (ao_ (qo0 3 [(1, .go (owns 0 1 1))] [2] [(10, .slice p n cap), (11, .int .i64 k)] (cP (fun v L' => ∃ (i : Nat) (b : Bool), v = .tuple #[.int .i64 (i : Nat), .bool b] ∧ L' = [bx (γ1 0) (#[.int .i64 now, .slice p n cap]) 24]) Try.call44 (fun w hw => (roww_t p n cap ts k w (hts.kept hw.below) hn (by omega)).mono (fun e w' ⟨i, b, he, h1, h2, h3⟩ => ⟨_, _, he, ⟨i, b, rfl, rfl⟩, hw.kept h3⟩)) ?_)))))))
 rintro v3 L3 ⟨i3, b3, rfl, rfl⟩
 refine qo0 5 [] [2] [(6, .int .i64 ((i3 : Nat))), (7, .bool b3)] (on_ (ds_ (sq_ ?_)))
 rcases q6 : b3 with _ | _
 ·
  refine qa0 [] [] [(4, .int .i64 ((i3 : Nat))), (5, .bool false)] (ds_ (rt ([]) (.tuple #[.int .i64 ((i3 : Nat)), .bool false]) ?_))
  exact fun w' hw => ⟨_, rfl, hw.below⟩
 ·
  refine ao_ (qo0 4 [(3, .go (owns 0 0 2))] [] [(15, .int .i64 ((i3 : Nat))), (17, .bool true), (18, .agg #[.int .i64 now, .slice p n cap])] (cD (.int .i64 250) Try.call10 (fun w hw => by have := wcheck_t now p n cap ts w (hts.kept hw.below) hn (by omega); rw [hgd] at this; exact this) (qo0 4 [] [] [(4, .int .i64 ((i3 : Nat))), (5, .bool false)] (on_ (ds_ (rt ([]) (.tuple #[.int .i64 ((i3 : Nat)), .bool false]) ?_))))))
  exact fun w' hw => ⟨_, rfl, hw.below⟩

set_option maxRecDepth 100000 in
theorem at_t (now : Int) (p : Option Addr) (n cap : Nat) (ts : List Tim) (k : Int) (w : World)
 (hts : Sv w p ts) (hn : n = ts.length) (hb : n ≤ 1000)
 : Calls Try.prog 15 #[.agg #[.int .i64 now, .slice p n cap], .int .i64 k] w fun e w' => e = .returned (atV (atO now ts k)) ∧ Below w.heap.size w w' := by
 refine enter (Hs.start w) Try.func15 rfl Try.ntmps15 rfl (sq_ (ma0 [] [1] (fun γ1 => [(2, .pointer (some ⟨γ1 0, 0, none⟩))]) (fun γ1 L => bx (γ1 0) (#[.int .i64 now, .slice p n cap]) 24 :: L) (fun γ1 => ds_ (sq_ (ao_ (qo0 2 [(0, .go (owns 0 0 2))] [2] [(9, .agg #[.int .i64 now, .slice p n cap]), (10, .int .i64 k)] ?_))))))
 rcases q3 : wheelB now ts with _ | _
 ·
  refine cP (fun v L' => ∃ (i : Nat), v = .tuple #[.int .i64 (i : Nat), .bool false] ∧ L' = [bx (γ1 0) (#[.int .i64 now, .slice p n cap]) 24]) Try.call32 (fun w hw => (findw_t now p n cap ts k w (hts.kept hw.below) hn (by omega) q3).mono (fun e w' ⟨i, he, h3⟩ => ⟨_, _, he, ⟨i, rfl, rfl⟩, hw.kept h3⟩)) ?_
  rintro v4 L4 ⟨i4, rfl, rfl⟩
  refine qo0 5 [] [2] [(6, .int .i64 ((i4 : Nat))), (7, .bool false)] (on_ (ds_ (sq_ (sq_ (qa0 [] [2, 6] [(15, .bool true)] (ds_ (t_ (sq_ (qa0 [] [] [(4, .int .i64 0), (5, .bool false)] (ds_ (rt ([]) (.tuple #[.int .i64 0, .bool false]) ?_)))))))))))
  exact fun w' hw => ⟨by rw [atO_bad q3]; rfl, hw.below⟩
 ·
  rcases hg8 : getK Tim.id ts k with _ | y8
  ·
   have hpl8 := (pos_cut (k := k) (wheel_iff.1 q3).rs).2.2
   refine cD (.tuple #[.int .i64 ((posK Tim.id ts k : Nat)), .bool false]) Try.call32 (fun w hw => by have := find_t now p n cap ts k w (hts.kept hw.below) hn (by omega) q3; rw [hasK_none hg8] at this; exact this) (qo0 5 [] [2] [(6, .int .i64 ((posK Tim.id ts k : Nat))), (7, .bool false)] (on_ (ds_ (sq_ (sq_ (qa0 [] [2, 6] [(15, .bool true)] (ds_ (t_ (sq_ (qa0 [] [] [(4, .int .i64 0), (5, .bool false)] (ds_ (rt ([]) (.tuple #[.int .i64 0, .bool false]) ?_))))))))))))
   exact fun w' hw => ⟨by rw [atO_ok q3, hg8]; rfl, hw.below⟩
  ·
   have hp_y8 := pos_getK (wheel_iff.1 q3).rs hg8
   have hl_y8 := (List.getElem?_eq_some_iff.1 hp_y8).1
   refine cD (.tuple #[.int .i64 ((posK Tim.id ts k : Nat)), .bool true]) Try.call32 (fun w hw => by have := find_t now p n cap ts k w (hts.kept hw.below) hn (by omega) q3; rw [hasK_some hg8] at this; exact this) (qo0 5 [] [2] [(6, .int .i64 ((posK Tim.id ts k : Nat))), (7, .bool true)] (on_ (ds_ (sq_ (sq_ (qa0 [] [2, 6] [(15, .bool false)] (ds_ (f_ (at_skip (ds_ (sq_ ?_)))))))))))
   obtain ⟨b15, o15, rfl⟩ := hts.pos (i := posK Tim.id ts k) (by omega)
   refine qa [(1, .go (owns 0 1 1)), (3, .at b15 o15 (posK Tim.id ts k)), (5, .go (outs b15 (o15 + (posK Tim.id ts k) * 2 + 1) [.int .i64 y8.due]))] [] [(4, .int .i64 y8.due), (5, .bool true)] ([(some ⟨b15, o15, none⟩ : Option Addr) = some ⟨b15, o15, none⟩, ((posK Tim.id ts k : Nat)) = ((posK Tim.id ts k : Nat) : Int), posK Tim.id ts k < n] ++ (cellsP w b15 (o15 + (posK Tim.id ts k) * 2 + 1) [.int .i64 y8.due])) (alA (al2 rfl (al2 rfl (al1 (by omega)))) (rd_part (hts.get hp_y8) 1 _ rfl)) (ds_ (rt ([]) (.tuple #[.int .i64 y8.due, .bool true]) ?_))
   exact fun w' hw => ⟨by rw [atO_ok q3, hg8]; rfl, hw.below⟩

end Go.Proofs.Ytjfebdhflkndmaa

/-! The walker: maps of one's own with whole numbers for keys. -/
namespace Go.Proofs.Ytjfebdhflkndmaa
open Go Go.RowKit

/-- What a map holds: its entries, the oldest first. -/
def mget {β : Type} : List (Int × β) → Int → Option β
  | [], _ => none
  | p :: D, k => if p.1 = k then some p.2 else mget D k
def mupd {β : Type} : List (Int × β) → Int → β → List (Int × β)
  | [], k, v => [(k, v)]
  | p :: D, k, v => if p.1 = k then (k, v) :: D else p :: mupd D k v
structure MapIs {β : Type} (ik : IntKind) (enc : β → Value) (es : Array MapEntry) (D : List (Int × β)) : Prop where
  keys : es.toList.map (fun e => (e.key, e.val)) = D.map fun p => (.int ik p.1, enc p.2)
section
variable {β : Type} {ik : IntKind} {enc : β → Value} {es : Array MapEntry} {D : List (Int × β)} {k : Int} {v : β} {ck : Nat}
theorem MapIs.nil : MapIs ik enc #[] ([] : List (Int × β)) := ⟨rfl⟩
theorem MapIs.size (h : MapIs ik enc es D) : es.size = D.length := by
  have := congrArg List.length h.keys
  simpa using this
theorem findNow_is : ∀ (l : List MapEntry) (D : List (Int × β)) (i : Nat), l.map (fun e => (e.key, e.val)) = D.map (fun p => (Value.int ik p.1, enc p.2)) →
    (Instr.findNow (.int ik) (.int ik k) l i = some none ∧ mget D k = none ∧ ∀ u, mupd D k u = D ++ [(k, u)]) ∨
    ∃ j b, Instr.findNow (.int ik) (.int ik k) l i = some (some (i + j, enc b)) ∧ mget D k = some b ∧ j < D.length ∧ (D[j]?).map (·.1) = some k ∧ ∀ u, mupd D k u = D.set j (k, u)
  | [], [], i, _ => .inl ⟨rfl, rfl, fun _ => rfl⟩
  | [], _ :: _, _, h => by simp at h
  | _ :: _, [], _, h => by simp at h
  | e :: l, p :: D, i, h => by
    simp only [List.map_cons, List.cons.injEq, Prod.mk.injEq] at h
    obtain ⟨⟨h1, h2⟩, h3⟩ := h
    by_cases hk : k = p.1
    · subst hk
      right
      refine ⟨0, p.2, ?_, by simp [mget], by simp, by simp, fun u => by simp [mupd]⟩
      simp [Instr.findNow, h1, Instr.sameNow, h2]
    · have hb : (k == p.1) = false := by simpa using hk
      have hk' : ¬ p.1 = k := fun e => hk e.symm
      rcases findNow_is l D (i + 1) h3 with ⟨a, b, c⟩ | ⟨j, b, a, c, d, e1, f⟩
      · left
        refine ⟨?_, by simp [mget, hk', b], fun u => by simp [mupd, hk', c u]⟩
        simp [Instr.findNow, h1, Instr.sameNow, hb, a]
      · right
        refine ⟨j + 1, b, ?_, by simp [mget, hk', c], by simp; omega, by simpa using e1, fun u => by simp [mupd, hk', f u]⟩
        simp only [Instr.findNow, h1, Instr.sameNow, if_true, hb, a]
        rw [show i + 1 + j = i + (j + 1) by omega]
variable {P : Program} {w : World} {t kt et : TypeId} {r : Nat}
theorem run_lookupM (ht : P.underlying t = some (.map kt et)) (hk : P.underlying kt = some (.int ik)) {i : TypeInfo} {z : Value} (hi : P.info? et = some i) (hz : i.zero = some z) (hb : w.heap[r]? = some (.map es ck)) (hM : MapIs ik enc es D) (c : Bool) :
    (Instr.lookup t (.map (some r)) (.int ik k) c).run P w = .ok (if c then .tuple #[((mget D k).map enc).getD z, .bool (mget D k).isSome] else ((mget D k).map enc).getD z) w := by
  have hck : ∀ e, (Instr.checkKey e 10000 kt (.int ik k)).run P w = .ok () w := fun e => MapKept.run_checkKey (n := 9999) hk (show MapKept.IsKey (.int ik) (.int ik k) from rfl) e
  rcases findNow_is es.toList D 0 hM.keys (k := k) with ⟨a, b, _⟩ | ⟨j, b, a, c', _, _, _⟩
  · have hf := MapKept.run_findKey (P := P) (w := w) (kt := kt) hk a
    cases c <;> simp [Instr.lookup, run_underlying ht, MapKept.run_getObj_map hb, hck, hf, zeroValue, typeInfo, hi, hz, b]
  · have hf := MapKept.run_findKey (P := P) (w := w) (kt := kt) hk a
    cases c <;> simp [Instr.lookup, run_underlying ht, MapKept.run_getObj_map hb, hck, hf, c']
theorem run_updateM (ht : P.underlying t = some (.map kt et)) (hk : P.underlying kt = some (.int ik)) (hb : w.heap[r]? = some (.map es ck)) (hM : MapIs ik enc es D) (v : β) :
    ∃ es' ck', (Instr.mapUpdate t (.map (some r)) (.int ik k) (enc v)).run P w = .ok () { w with heap := w.heap.setIfInBounds r (.map es' ck') } ∧ MapIs ik enc es' (mupd D k v) := by
  have hkk : MapKept.IsKey (.int ik) (.int ik k) := rfl
  have hck : ∀ e, (Instr.checkKey e 10000 kt (.int ik k)).run P w = .ok () w := fun e => MapKept.run_checkKey (n := 9999) hk hkk e
  rcases findNow_is es.toList D 0 hM.keys (k := k) with ⟨a, _, b⟩ | ⟨j, b, a, c', hj, hjk, d⟩
  · have hf := MapKept.run_findKey (P := P) (w := w) (kt := kt) hk a
    refine ⟨es.push ⟨.int ik k, enc v, ck⟩, ck + 1, ?_, ⟨?_⟩⟩
    · simp [Instr.mapUpdate, run_underlying ht, MapKept.run_getObj_map hb, hck, hf, MapKept.run_setObj_map _ hb]
    · rw [b v, Array.toList_push, List.map_append, List.map_append, hM.keys]; rfl
  · have hf := MapKept.run_findKey (P := P) (w := w) (kt := kt) hk a
    have hsz := hM.size
    have hjs : j < es.size := by omega
    have hkey : es[j].key = .int ik k := by
      have h1 := congrArg (fun z => z[j]?) hM.keys
      simp only [List.getElem?_map, Array.getElem?_toList, Array.getElem?_eq_getElem hjs, Option.map_some] at h1
      rcases hD : D[j]? with _ | p
      · rw [hD] at hjk; cases hjk
      · rw [hD] at hjk h1
        simp only [Option.map_some, Option.some.injEq, Prod.mk.injEq] at hjk h1
        rw [h1.1, hjk]
    refine ⟨es.modify j fun e => { e with key := .int ik k, val := enc v }, ck, ?_, ⟨?_⟩⟩
    · have hj2 : es[j]? = some es[j] := Array.getElem?_eq_getElem hjs
      simp only [Nat.zero_add] at hf
      simp [Instr.mapUpdate, run_underlying ht, MapKept.run_getObj_map hb, hck, hf, hj2, hkey, MapKept.run_keyThatStays hkk, MapKept.run_setObj_map _ hb]
    · rw [d v]
      apply List.ext_getElem?
      intro i
      rw [List.getElem?_map, List.getElem?_map, Array.getElem?_toList, Array.getElem?_modify, List.getElem?_set]
      have h1 := congrArg (fun z => z[i]?) hM.keys
      simp only [List.getElem?_map, Array.getElem?_toList] at h1
      by_cases hij : j = i
      · subst hij
        rw [if_pos rfl, if_pos rfl, if_pos hj, Array.getElem?_eq_getElem hjs]; rfl
      · rw [if_neg hij, if_neg hij, h1]
end

section
variable {E : Env} {k : List Fr} {l : Sl} {L : List Ob} {all os : List Oper} {o : Oper} {i : Nat}
/-- A map's type, asked by the kernel. -/
def mapB (P : Program) (t : TypeId) (ik : IntKind) (z : Value) : Prop := ∃ kt et, P.underlying t = some (.map kt et) ∧ P.underlying kt = some (.int ik) ∧ (P.info? et).bind (fun i => i.zero) = some z
theorem map_getD {β : Type} (f : β → Value) (o : Option β) (z : β) : (o.map f).getD (f z) = f (o.getD z) := by cases o <;> rfl
theorem ops_lookup {β : Type} {ik : IntKind} {enc : β → Value} {es : Array MapEntry} {ck : Nat} {D : List (Int × β)} (j : Nat) {t : TypeId} {x y : Operand} {c : Bool} {g : Nat} {kk : Int} (z u : Value) (ho : o.op = .lookup t x y c) (hw : wantL all l o = some true) (hd : (okD E.n o.dst && knownO l o) = true)
    (hx : look l x = .map (some g)) (hy : look l y = .int ik kk) (hT : mapB E.P t ik z) (hj : L[j]? = some (g, .map es ck)) (hM : MapIs ik enc es D) (hu : (if c then .tuple #[((mget D kk).map enc).getD z, .bool (mget D kk).isSome] else ((mget D kk).map enc).getD z) = u)
    (h : Ops E k all os (i + 1) (putL o.dst u l) L) : Ops E k all (o :: os) i l L := by
  obtain ⟨kt, et, h1, h2, h34⟩ := hT
  obtain ⟨inf, h3, h4⟩ := Option.bind_eq_some_iff.1 h34
  refine ⟨fun a w ha hs => ?_⟩
  simp only [Bool.and_eq_true] at hd
  have hg := wantL_spec ha hw
  refine wpListIn_step fun K hK => ?_
  rw [if_pos hg]
  refine ⟨fun _ _ => trivial, ?_⟩
  rw [Oper.semAt_eq _ _ _ (fun c e => by rw [ho] at e; cases e), look_exec ha hd.2]
  have hr := run_lookupM h1 h2 h3 h4 (hs.row j hj) hM (k := kk) c
  have e : (execOp (look l) o).run E.P w = .ok (.value u) w := by
    simp [execOp, ho, hx, hy, hr, hu]
  rw [e]
  exact hK _ _ (h.out _ _ (ha.put hd.1 _) hs)
theorem ops_update {β : Type} {ik : IntKind} {enc : β → Value} {es : Array MapEntry} {ck : Nat} {D : List (Int × β)} (j : Nat) {t : TypeId} {x y v : Operand} {g : Nat} {kk : Int} (b : β) (z : Value) (ho : o.op = .mapUpdate t x y v) (hw : wantL all l o = some true) (hd : (okD E.n o.dst && knownO l o) = true)
    (hx : look l x = .map (some g)) (hy : look l y = .int ik kk) (hv : look l v = enc b) (hT : mapB E.P t ik z) (hj : L[j]? = some (g, .map es ck)) (hM : MapIs ik enc es D)
    (h : ∀ es' ck', MapIs ik enc es' (mupd D kk b) → Ops E k all os (i + 1) (putL o.dst undef l) (L.set j (g, .map es' ck'))) : Ops E k all (o :: os) i l L := by
  obtain ⟨kt, et, h1, h2, h34⟩ := hT
  obtain ⟨inf, h3, h4⟩ := Option.bind_eq_some_iff.1 h34
  refine ⟨fun a w ha hs => ?_⟩
  simp only [Bool.and_eq_true] at hd
  have hg := wantL_spec ha hw
  refine wpListIn_step fun K hK => ?_
  rw [if_pos hg]
  refine ⟨fun _ _ => trivial, ?_⟩
  rw [Oper.semAt_eq _ _ _ (fun c e => by rw [ho] at e; cases e), look_exec ha hd.2]
  obtain ⟨es', ck', hr, hM'⟩ := run_updateM h1 h2 (hs.row j hj) hM (k := kk) b
  have e : (execOp (look l) o).run E.P w = .ok .skip { w with heap := w.heap.setIfInBounds g (.map es' ck') } := by
    simp [execOp, ho, hx, hy, hv, hr]
  rw [e]
  exact hK _ _ ((h es' ck' hM').out _ _ (ha.put hd.1 _) (hs.turn j hj (turn_obj (hs.row j hj) _)))
end
end Go.Proofs.Ytjfebdhflkndmaa

/-! The walker: make; append within one's own row; what a deletion of a stretch leaves; m[k]++. -/
namespace Go.Proofs.Ytjfebdhflkndmaa
open Go Go.RowKit

section
variable {E : Env} {k : List Fr} {l : Sl} {L : List Ob} {all os : List Oper} {o : Oper} {i : Nat}
end
section
variable {α : Type} [Enc α] {l : List α} {i i2 n cap : Nat} {cs c2 : Array Value}
end
/-! ### m[k]++ -/
section
variable {β : Type} {ik : IntKind} {enc : β → Value} {es : Array MapEntry} {D : List (Int × β)} {k : Int} {ck : Nat} {P : Program} {w : World} {t kt et : TypeId} {r : Nat}
/-- The entries' stamps: all apart, below the clock. -/
def Stamps (es : Array MapEntry) (ck : Nat) : Prop := (es.toList.map (·.born)).Nodup ∧ ∀ e ∈ es.toList, e.born < ck
theorem Stamps.nil : Stamps #[] 0 := ⟨by simp, fun _ h => by simp at h⟩
end
end Go.Proofs.Ytjfebdhflkndmaa

/-! Timers: slices.Clone, slices.Insert. -/
namespace Go.Proofs.Ytjfebdhflkndmaa
open Go Go.RowKit

set_option maxRecDepth 100000 in
theorem clone_t (p : Option Addr) (n cap : Nat) (l : List Tim) (w : World)
    (hsl : Sv w p l) (hn : n = l.length) (hb : n ≤ 1000)
    : Calls Try.prog 33 #[.slice p n cap] w fun e w' => ∃ q capq Y, e = .returned (.slice q n capq) ∧ SlO 33 Y q n capq l ∧ Below w.heap.size w w' ∧ Hs w Y w' := by
  refine enter (Hs.start w) Try.func33 rfl Try.ntmps33 rfl (sq_ (qa0 [] [0] [] (ds_ (sq_ (sq_ ?_)))))
  rcases p with _ | a3
  ·
    refine qa0 [] [0] [(4, .bool true)] (ds_ (t_ (sq_ (qa0 [] [] [(2, .slice none 0 0)] (ds_ (rt ([]) (.slice none 0 0) ?_))))))
    exact fun w' hw => ⟨none, 0, [], by rw [hn, hsl.none]; rfl, by rw [hn, hsl.none]; exact SlO.nil, hw.below, hw.sub (List.nil_sublist _)⟩
  ·
    refine qa0 [] [0] [(4, .bool false)] (ds_ (f_ (at_skip (ds_ (sq_ (ao_ (mo0 2 [] [] (fun γ7 => [(5, .slice (some ⟨γ7 0, 0, none⟩) 0 0), (6, .slice (some a3) n cap)]) (fun γ7 L => bx (γ7 0) (#[]) 33 :: L) (fun γ7 => ops_append (α := Tim) [] ([bx (γ7 0) (#[]) 33]) ([]) (mvE rfl) rfl (by kernel_rfl) (by kernel_rfl) (p := (some ⟨γ7 0, 0, none⟩)) (n := 0) (cap := 0) (m := n) (yv := .slice (some a3) n cap) (by kernel_rfl) (by kernel_rfl) (T := 33) (by_ := 16) (by kernel_rfl) ([]) l (SlO.lit (by rfl) (by rfl) (by simp [maxLen])) (fun w hw => src_svn Try.underlying22 (hsl.kept hw.below) hn) hn (by have hmx : maxLen = 9223372036854775807 := rfl; omega) (by have hmx : maxLen = 9223372036854775807 := rfl; omega) (fun Y8 p8 cap8 hO8 => qo0 1 [] [] [(2, .slice p8 (0 + n) cap8)] (on_ (ds_ (rt ([]) (.slice p8 (0 + n) cap8) ?_))))))))))))
    exact fun w' hw => ⟨_, _, _, by rw [Nat.zero_add], by simpa using hO8, hw.below, ((hw.tailN 0).sub (List.sublist_append_left Y8 ([])))⟩
set_option maxRecDepth 100000 in
theorem overlaps_findT : Extern.find Try.f46 = some (Extern.SlicesOverlaps.overlaps Try.f46.params Try.f46.resultTypes) := by kernel_rfl
set_option maxRecDepth 100000 in
theorem overlaps_nextT : Extern.findNext Try.f46 = none := by kernel_rfl
theorem overlaps_noT {w : World} {g1 o1 g2 o2 m n c1 c2 : Nat} {cs1 cs2 : Array Value} {T1 T2 : TypeId} (h1 : w.heap[g1]? = some (.cells cs1 T1 (0, 0))) (h2 : w.heap[g2]? = some (.cells cs2 T2 (0, 0))) (hne : g1 ≠ g2) :
    (callFunc 46 #[.slice (some ⟨g1, o1, none⟩) m c1, .slice (some ⟨g2, o2, none⟩) n c2]).run Try.prog w = .ok (.value (.bool false)) w := by
  have hf := Try.func46
  have hn : (Try.f46.name == "runtime.NumGoroutine") = false := by kernel_rfl
  have hb : Try.f46.body.isNone = true := by kernel_rfl
  have hp : Try.f46.params[0]? = some 22 := by kernel_rfl
  have hu := Try.underlying22
  obtain ⟨ht', inf, z', hi, hz', _, hks, hby⟩ := elemB_spec (show elemB Try.prog 22 33 2 16 = true by kernel_rfl)
  have hs : inf.size = 2 := by omega
  have s1 : w.shape? g1 = some (T1, cs1.size) := by simp [World.shape?, h1]
  have s2 : w.shape? g2 = some (T2, cs2.size) := by simp [World.shape?, h2]
  have f1 : ∀ j, w.frozen? ⟨g1, j, none⟩ = false := fun j => froz_own h1 j
  have f2 : ∀ j, w.frozen? ⟨g2, j, none⟩ = false := fun j => froz_own h2 j
  have run1 : ∀ args, (callFunc 46 args).run Try.prog w = ((Extern.SlicesOverlaps.overlaps Try.f46.params Try.f46.resultTypes args).run Try.prog w).andThen fun v w' => .ok (.value v) w' := fun args => by
    simp only [callFunc, Sem.run_bind, run_program, Result.andThen_ok, hf, hn, hb, overlaps_nextT, overlaps_findT]
    simp [mark, Sem.run, Sem.run_bind]
  rw [run1]
  have hne' : (g1 == g2) = false := by simpa using hne
  have hs' : (do let i ← typeInfo 33; pure i.size : Sem Nat).run Try.prog w = .ok 2 w := by simp [typeInfo, hi, hs]
  delta Extern.SlicesOverlaps.overlaps
  conv => lhs; arg 1; arg 2; whnf
  have hu' : Try.prog.underlying (Try.f46.params[0]'(by decide)) = some (.slice 33) := by kernel_rfl
  have sb : ∀ (α β : Type) (x : Sem α) (f : α → Sem β) (P : Program) (w : World), (x.bind f).run P w = (x.run P w).andThen fun a w' => (f a).run P w' := fun α β x f P w => Sem.run_bind' P x f w
  by_cases hm : m = 0 ∨ n = 0 ∨ inf.size = 0
  · simp [Sem.run, sb, hu', sizeOf, typeInfo, hi, hm]
  · simp [Sem.run, sb, hu', sizeOf, typeInfo, hi, hm, bne, hne', hne, noView, viewAt, mayBeOne, stringish, shape, frozen, s1, s2, f1, f2]

set_option maxRecDepth 100000 in
theorem insert_t (w0 : World) (X Y : List Ob) (p : Option Addr) (n cap : Nat) (l : List Tim) (i gv : Nat) (cv : Array Value) (m : Nat) (vl : List Tim) (w : World)
    (hH : Hs w0 (bx gv cv 33 :: (Y ++ X)) w) (hO : SlO 33 Y p n cap l) (hcv : cv.toList = vl.flatMap Enc.enc) (hm : m = vl.length) (hm0 : 0 < m) (hi : i ≤ n) (hb : n ≤ 1000) (hmb : m ≤ 1000)
    : Calls Try.prog 34 #[.slice p n cap, .int .i64 (i : Nat), .slice (some ⟨gv, 0, none⟩) m m] w fun e w' => ∃ q capq Y', e = .returned (.slice q (n + m) capq) ∧ SlO 33 Y' q (n + m) capq (l.take i ++ vl ++ l.drop i) ∧ Hs w0 (Y' ++ X) w' := by
  have hn := hO.len
  refine enter hH Try.func34 rfl Try.ntmps34 rfl (sq_ (qa0 [] [0, 1, 2] [] (ds_ (sq_ (qa [(2, .sl (.slice (if cap = i then p else p.map (·.add (i * 2))) (n - i) (cap - i)))] [0, 1, 2] [] ([SlRun Try.prog 22 (.slice p n cap) (some (.int .i64 ((i : Nat)))) none none (.slice (if cap = i then p else p.map (·.add (i * 2))) (n - i) (cap - i))]) (al1 (slE_cut (P := Try.prog) (T := 22) (e := 33) (k := 2) (by_ := 16) (by kernel_rfl) hi)) (ds_ (sq_ (qa0 [] [0, 1, 2] [(7, .int .i64 ((m : Nat)))] (ds_ (sq_ (sq_ (qa [(1, .no)] [0, 1, 2, 7] [(16, .bool false)] ([¬ (((m : Nat) : Int) = (0 : Int))]) (al1 ((by omega))) (ds_ (f_ (at_skip (ds_ (sq_ (qa0 [] [0, 1, 2, 7] [(8, .int .i64 ((n : Nat)))] (ds_ (sq_ (sq_ ?_)))))))))))))))))))))
  by_cases q7 : ((i : Nat) : Int) = ((n : Nat) : Int)
  ·
    refine qa [(2, .yes)] [0, 1, 2, 7, 8] [(22, .bool true)] ([((i : Nat) : Int) = ((n : Nat) : Int)]) (al1 q7) (ds_ (t_ (sq_ (ao_ (qo0 2 [] [] [(23, .slice p n cap), (24, .slice (some ⟨gv, 0, none⟩) m m)] (ops_append (α := Tim) [bx gv cv 33] Y X (.refl _) rfl (by kernel_rfl) (by kernel_rfl) (p := p) (n := n) (cap := cap) (m := m) (yv := .slice (some ⟨gv, 0, none⟩) m m) (by kernel_rfl) (by kernel_rfl) (T := 33) (by_ := 16) (by kernel_rfl) l vl hO (fun w hw => src_svn Try.underlying22 (sv_row (hw.row 0 rfl) hcv) hm) hm (by have hmx : maxLen = 9223372036854775807 := rfl; omega) (by have hmx : maxLen = 9223372036854775807 := rfl; omega) (fun Y10 p10 cap10 hO10 => qo0 1 [] [] [(6, .slice p10 (n + m) cap10)] (on_ (ds_ (rt ([]) (.slice p10 (n + m) cap10) ?_))))))))))
    exact fun w' hw => ⟨_, _, _, rfl, by rw [show i = l.length by omega, List.take_length, List.drop_length, List.append_nil]; exact hO10, hw.tailN 1⟩
  ·
    refine qa [(2, .no)] [0, 1, 2, 7, 8] [(22, .bool false)] ([¬ (((i : Nat) : Int) = ((n : Nat) : Int))]) (al1 q7) (ds_ (f_ (at_skip (ds_ (sq_ (sq_ ?_))))))
    obtain ⟨g, cs, rfl, rfl, hOw⟩ := hO.rowOf (i := i) (by omega)
    have hcap := hOw.le
    have hcs := hOw.csz
    have hmax := hOw.max
    by_cases q15 : ((n + m : Nat) : Int) > ((cap : Nat) : Int)
    ·
      refine qa [(2, .fit), (5, .yes)] [0, 1, 2, 7, 8] [(31, .bool true)] ([Fit .i64 ((n + m : Nat))] ++ ([((n + m : Nat) : Int) > ((cap : Nat) : Int)])) (alA (al1 (fit64 (by omega) (by omega))) (al1 q15)) (ds_ (t_ (sq_ (ao_ (qo 8 [(2, .sl (.slice (some ⟨g, 0, none⟩) i cap)), (5, .fit), (7, .is [] (.int .i64 ((n + m - i : Nat))))] [0, 1, 2, 7] [(34, .slice (some ⟨g, 0, none⟩) i cap), (39, .int .i64 ((n + m - i : Nat)))] ([SlRun Try.prog 22 (.slice (some ⟨g, 0, none⟩) n cap) none (some (.int .i64 ((i : Nat)))) none (.slice (some ⟨g, 0, none⟩) i cap)] ++ ([Fit .i64 ((n + m : Nat))] ++ ([Value.int .i64 (IntKind.i64.wrap ((((n + m : Nat)) : Int) - ((i : Nat) : Int))) = .int .i64 ((n + m - i : Nat))]))) (alA (al1 (slE_hi (P := Try.prog) (T := 22) (e := 33) (k := 2) (by_ := 16) (by kernel_rfl) (h := i) (by omega))) (alA (al1 (fit64 (by omega) (by omega))) (al1 (by rw [wrap_fit (fit64 (by omega) (by omega))]; congr 1; omega)))) (ops_appendZ rfl (by kernel_rfl) (by kernel_rfl) (p := some ⟨g, 0, none⟩) (m := i) (cap := cap) (n := n + m - i) ((cs.toList.drop 0).take (i * 2)) (by kernel_rfl) (by kernel_rfl) (T := 33) (ks := 2) (by_ := 16) (by kernel_rfl) Try.underlying3 (by decide) (olds_len hcs (by omega)) (fun w hw => first_row (hw.row 1 rfl) (by rw [hcs, Nat.zero_add]; exact Nat.mul_le_mul_right _ (by omega))) (by omega) (by omega) (by simp only [maxLen]; omega) (by omega) (fun g2 c2 cap2 hc2 hle2 hmax2 hpre2 => qo0 1 [] [0, 1, 2, 7] [(9, .slice (some ⟨g2, 0, none⟩) (i + (n + m - i)) cap2)] (on_ (ds_ (sq_ (ao_ (qo 4 [(2, .sl (.slice (some ⟨g2, 0 + i * 2, none⟩) (i + (n + m - i) - i) (cap2 - i)))] [0, 1, 7, 9] [(43, .slice (some ⟨g2, 0 + i * 2, none⟩) (i + (n + m - i) - i) (cap2 - i)), (44, .slice (some ⟨gv, 0, none⟩) m m)] ([SlRun Try.prog 22 (.slice (some ⟨g2, 0, none⟩) (i + (n + m - i)) cap2) (some (.int .i64 ((i : Nat)))) none none (.slice (some ⟨g2, 0 + i * 2, none⟩) (i + (n + m - i) - i) (cap2 - i))]) (al1 (slE_lo (P := Try.prog) (T := 22) (e := 33) (k := 2) (by_ := 16) (by kernel_rfl) (lo := i) (by omega) (by omega))) (ops_copy 0 rfl (by kernel_rfl) (by kernel_rfl) (g := g2) (of := (0 + i * 2)) (dn := (i + (n + m - i) - i)) (dc := (cap2 - i)) (m := m) (cnt := m) (c := c2) (yv := (.slice (some ⟨gv, 0, none⟩) m m)) (vl.flatMap Enc.enc) (by kernel_rfl) (by kernel_rfl) (T := 33) (ks := 2) (by_ := 16) (by kernel_rfl) (T' := 33) (by kernel_rfl) len_slice (by omega) (fun w hw => by have := first_sv (P := Try.prog) (w := w) (p := some ⟨gv, 0, none⟩) (m := m) (cap := m) (cnt := m) (sv_row (hw.row 1 rfl) hcv) (by omega); rw [List.take_of_length_le (by omega)] at this; exact this) (by rw [flat_len, ← hm]; exact mul_room (c := cap2) (by omega) hc2) (flat_one vl) ?_)))))))))))))
      refine on_ (ds_ (sq_ ?_))
      refine at_any (by kernel_rfl) ?_
      refine tk (m := 3) [0, 1, 2, 3, 5, 6] [(3, .fit)] [9] [(46, .slice (some ⟨g2, 0, none⟩) (i + (n + m - i)) cap2), (49, .int .i64 ((i + m : Nat))), (51, .slice (some ⟨g, 0, none⟩) n cap), (52, .int .i64 ((i : Nat)))] ([Fit .i64 ((i + m : Nat))]) #[true, true, true, true, false, true, true, false, false] (al1 (fit64 (by omega) (by omega))) ?_
      refine any_cut 1 #[true, true, true, true, true, true, true, true, false] ([(9, .slice (some ⟨g2, 0, none⟩) (i + (n + m - i)) cap2), (50, .slice (some ⟨g2, 0 + (i + m) * 2, none⟩) (i + (n + m - i) - (i + m)) (cap2 - (i + m))), (53, .slice (some ⟨g, 0 + i * 2, none⟩) (n - i) (cap - i))]) (bx g2 ((sets c2 (0 + i * 2) (vl.flatMap Enc.enc))) 33 :: bx gv cv 33 :: bx g cs 33 :: X) ?_ (fun hm => ?_)
      rotate_left
      ·
        refine any_fork [4, 7] (by kernel_rfl) (by simp) (each_cons _ rfl ?_ (each_cons _ rfl ?_ (each_nil)))
        ·
          refine qo 1 [(4, .sl (.slice (some ⟨g2, 0 + (i + m) * 2, none⟩) (i + (n + m - i) - (i + m)) (cap2 - (i + m))))] [9, 51, 52] [(50, .slice (some ⟨g2, 0 + (i + m) * 2, none⟩) (i + (n + m - i) - (i + m)) (cap2 - (i + m)))] ([SlRun Try.prog 22 (.slice (some ⟨g2, 0, none⟩) (i + (n + m - i)) cap2) (some (.int .i64 ((i + m : Nat)))) none none (.slice (some ⟨g2, 0 + (i + m) * 2, none⟩) (i + (n + m - i) - (i + m)) (cap2 - (i + m)))]) (al1 (slE_lo (P := Try.prog) (T := 22) (e := 33) (k := 2) (by_ := 16) (by kernel_rfl) (lo := i + m) (by omega) (by omega))) ?_
          refine od_ ?_
          refine a1 7 rfl ?_
          refine qo 1 [(7, .sl (.slice (some ⟨g, 0 + i * 2, none⟩) (n - i) (cap - i)))] [9, 50] [(53, .slice (some ⟨g, 0 + i * 2, none⟩) (n - i) (cap - i))] ([SlRun Try.prog 22 (.slice (some ⟨g, 0, none⟩) n cap) (some (.int .i64 ((i : Nat)))) none none (.slice (some ⟨g, 0 + i * 2, none⟩) (n - i) (cap - i))]) (al1 (slE_lo (P := Try.prog) (T := 22) (e := 33) (k := 2) (by_ := 16) (by kernel_rfl) (lo := i) (by omega) (by omega))) ?_
          refine od_ ?_
          exact any_weak hm [9, 50, 53] (by kernel_rfl) rfl rfl rfl
        ·
          refine qo 1 [(7, .sl (.slice (some ⟨g, 0 + i * 2, none⟩) (n - i) (cap - i)))] [9, 46, 49] [(53, .slice (some ⟨g, 0 + i * 2, none⟩) (n - i) (cap - i))] ([SlRun Try.prog 22 (.slice (some ⟨g, 0, none⟩) n cap) (some (.int .i64 ((i : Nat)))) none none (.slice (some ⟨g, 0 + i * 2, none⟩) (n - i) (cap - i))]) (al1 (slE_lo (P := Try.prog) (T := 22) (e := 33) (k := 2) (by_ := 16) (by kernel_rfl) (lo := i) (by omega) (by omega))) ?_
          refine od_ ?_
          refine a1 4 rfl ?_
          refine qo 1 [(4, .sl (.slice (some ⟨g2, 0 + (i + m) * 2, none⟩) (i + (n + m - i) - (i + m)) (cap2 - (i + m))))] [9, 53] [(50, .slice (some ⟨g2, 0 + (i + m) * 2, none⟩) (i + (n + m - i) - (i + m)) (cap2 - (i + m)))] ([SlRun Try.prog 22 (.slice (some ⟨g2, 0, none⟩) (i + (n + m - i)) cap2) (some (.int .i64 ((i + m : Nat)))) none none (.slice (some ⟨g2, 0 + (i + m) * 2, none⟩) (i + (n + m - i) - (i + m)) (cap2 - (i + m)))]) (al1 (slE_lo (P := Try.prog) (T := 22) (e := 33) (k := 2) (by_ := 16) (by kernel_rfl) (lo := i + m) (by omega) (by omega))) ?_
          refine od_ ?_
          exact any_weak hm [9, 50, 53] (by kernel_rfl) rfl rfl rfl
      refine a1 8 rfl ?_
      refine ops_copy 0 rfl (by kernel_rfl) (by kernel_rfl) (g := g2) (of := (0 + (i + m) * 2)) (dn := (i + (n + m - i) - (i + m))) (dc := (cap2 - (i + m))) (m := (n - i)) (cnt := (n - i)) (c := ((sets c2 (0 + i * 2) (vl.flatMap Enc.enc)))) (yv := (.slice (some ⟨g, 0 + i * 2, none⟩) (n - i) (cap - i))) ((cs.toList.drop (0 + i * 2)).take ((n - i) * 2)) (by kernel_rfl) (by kernel_rfl) (T := 33) (ks := 2) (by_ := 16) (by kernel_rfl) (T' := 33) (by kernel_rfl) len_slice (by omega) (fun w hw => first_row (hw.row 2 rfl) (row_room hOw (by omega))) (by rw [sets_size]; exact copy_room (c := cap2) hOw (by omega) (by omega) hc2) (row_one hOw (by omega)) ?_
      refine od_ ?_
      refine any_nil (by kernel_rfl) ?_
      refine ds_ (sq_ (qa0 [] [] [(6, .slice (some ⟨g2, 0, none⟩) (i + (n + m - i)) cap2)] (ds_ (rt ([]) (.slice (some ⟨g2, 0, none⟩) (i + (n + m - i)) cap2) ?_))))
      exact fun w' hw => ⟨some ⟨g2, 0, none⟩, cap2, [_], by rw [show i + (n + m - i) = n + m by omega], .inr ⟨_, _, rfl, rfl, by simp; omega, ins_grow hOw (by omega) hm (by omega) hc2 (by omega) hmax2 hpre2⟩, hw.sub (.cons_cons _ (.cons _ (.cons _ (.refl _))))⟩
    ·
      refine qa [(2, .fit), (5, .no)] [0, 1, 2, 7, 8] [(31, .bool false)] ([Fit .i64 ((n + m : Nat))] ++ ([¬ (((n + m : Nat) : Int) > ((cap : Nat) : Int))])) (alA (al1 (fit64 (by omega) (by omega))) (al1 q15)) (ds_ (f_ (at_skip (ds_ (sq_ (qa [(3, .fit), (4, .sl (.slice (some ⟨g, 0, none⟩) (n + m) cap))] [1, 2, 7, 8] [(0, .slice (some ⟨g, 0, none⟩) (n + m) cap)] ([Fit .i64 ((n + m : Nat))] ++ ([SlRun Try.prog 22 (.slice (some ⟨g, 0, none⟩) n cap) none (some (.int .i64 ((n + m : Nat)))) none (.slice (some ⟨g, 0, none⟩) (n + m) cap)])) (alA (al1 (fit64 (by omega) (by omega))) (al1 (slE_hi (P := Try.prog) (T := 22) (e := 33) (k := 2) (by_ := 16) (by kernel_rfl) (h := n + m) (by omega)))) (ds_ (sq_ (sq_ (ao_ (qo 6 [(4, .fit), (5, .sl (.slice (some ⟨g, 0 + (i + m) * 2, none⟩) (n + m - (i + m)) (cap - (i + m))))] [0, 1, 2, 7, 8] [(61, .slice (some ⟨gv, 0, none⟩) m m), (66, .slice (some ⟨g, 0 + (i + m) * 2, none⟩) (n + m - (i + m)) (cap - (i + m)))] ([Fit .i64 ((i + m : Nat))] ++ ([SlRun Try.prog 22 (.slice (some ⟨g, 0, none⟩) (n + m) cap) (some (.int .i64 ((i + m : Nat)))) none none (.slice (some ⟨g, 0 + (i + m) * 2, none⟩) (n + m - (i + m)) (cap - (i + m)))])) (alA (al1 (fit64 (by omega) (by omega))) (al1 (slE_lo (P := Try.prog) (T := 22) (e := 33) (k := 2) (by_ := 16) (by kernel_rfl) (lo := i + m) (by omega) (by omega)))) (ops_ext (f := 46) (args := #[.slice (some ⟨gv, 0, none⟩) m m, .slice (some ⟨g, 0 + (i + m) * 2, none⟩) (n + m - (i + m)) (cap - (i + m))]) (.bool false) (by kernel_rfl) (by kernel_rfl) (by kernel_rfl) (fun w hw => overlaps_noT (hw.row 0 rfl) (hw.row 1 rfl) (apart_two hw (a := 0) (b := 1) rfl rfl (by decide))) (qo0 1 [] [0, 1, 2, 7, 8] [(68, .bool true)] (on_ (ds_ (t_ (sq_ ?_)))))))))))))))))
      refine at_any (by kernel_rfl) ?_
      refine tk (m := 3) [0, 1, 2, 3, 5, 6] [(3, .fit)] [0, 1, 2] [(69, .slice (some ⟨g, 0, none⟩) (n + m) cap), (72, .int .i64 ((i + m : Nat))), (74, .slice (some ⟨g, 0, none⟩) (n + m) cap), (75, .int .i64 ((i : Nat)))] ([Fit .i64 ((i + m : Nat))]) #[true, true, true, true, false, true, true, false, false] (al1 (fit64 (by omega) (by omega))) ?_
      refine any_cut 1 #[true, true, true, true, true, true, true, true, false] ([(0, .slice (some ⟨g, 0, none⟩) (n + m) cap), (1, .int .i64 ((i : Nat))), (2, .slice (some ⟨gv, 0, none⟩) m m), (73, .slice (some ⟨g, 0 + (i + m) * 2, none⟩) (n + m - (i + m)) (cap - (i + m))), (76, .slice (some ⟨g, 0 + i * 2, none⟩) (n + m - i) (cap - i))]) (bx gv cv 33 :: bx g cs 33 :: X) ?_ (fun hm => ?_)
      rotate_left
      ·
        refine any_fork [4, 7] (by kernel_rfl) (by simp) (each_cons _ rfl ?_ (each_cons _ rfl ?_ (each_nil)))
        ·
          refine qo 1 [(4, .sl (.slice (some ⟨g, 0 + (i + m) * 2, none⟩) (n + m - (i + m)) (cap - (i + m))))] [0, 1, 2, 74, 75] [(73, .slice (some ⟨g, 0 + (i + m) * 2, none⟩) (n + m - (i + m)) (cap - (i + m)))] ([SlRun Try.prog 22 (.slice (some ⟨g, 0, none⟩) (n + m) cap) (some (.int .i64 ((i + m : Nat)))) none none (.slice (some ⟨g, 0 + (i + m) * 2, none⟩) (n + m - (i + m)) (cap - (i + m)))]) (al1 (slE_lo (P := Try.prog) (T := 22) (e := 33) (k := 2) (by_ := 16) (by kernel_rfl) (lo := i + m) (by omega) (by omega))) ?_
          refine od_ ?_
          refine a1 7 rfl ?_
          refine qo 1 [(7, .sl (.slice (some ⟨g, 0 + i * 2, none⟩) (n + m - i) (cap - i)))] [0, 1, 2, 73] [(76, .slice (some ⟨g, 0 + i * 2, none⟩) (n + m - i) (cap - i))] ([SlRun Try.prog 22 (.slice (some ⟨g, 0, none⟩) (n + m) cap) (some (.int .i64 ((i : Nat)))) none none (.slice (some ⟨g, 0 + i * 2, none⟩) (n + m - i) (cap - i))]) (al1 (slE_lo (P := Try.prog) (T := 22) (e := 33) (k := 2) (by_ := 16) (by kernel_rfl) (lo := i) (by omega) (by omega))) ?_
          refine od_ ?_
          exact any_weak hm [0, 1, 2, 73, 76] (by kernel_rfl) rfl rfl rfl
        ·
          refine qo 1 [(7, .sl (.slice (some ⟨g, 0 + i * 2, none⟩) (n + m - i) (cap - i)))] [0, 1, 2, 69, 72] [(76, .slice (some ⟨g, 0 + i * 2, none⟩) (n + m - i) (cap - i))] ([SlRun Try.prog 22 (.slice (some ⟨g, 0, none⟩) (n + m) cap) (some (.int .i64 ((i : Nat)))) none none (.slice (some ⟨g, 0 + i * 2, none⟩) (n + m - i) (cap - i))]) (al1 (slE_lo (P := Try.prog) (T := 22) (e := 33) (k := 2) (by_ := 16) (by kernel_rfl) (lo := i) (by omega) (by omega))) ?_
          refine od_ ?_
          refine a1 4 rfl ?_
          refine qo 1 [(4, .sl (.slice (some ⟨g, 0 + (i + m) * 2, none⟩) (n + m - (i + m)) (cap - (i + m))))] [0, 1, 2, 76] [(73, .slice (some ⟨g, 0 + (i + m) * 2, none⟩) (n + m - (i + m)) (cap - (i + m)))] ([SlRun Try.prog 22 (.slice (some ⟨g, 0, none⟩) (n + m) cap) (some (.int .i64 ((i + m : Nat)))) none none (.slice (some ⟨g, 0 + (i + m) * 2, none⟩) (n + m - (i + m)) (cap - (i + m)))]) (al1 (slE_lo (P := Try.prog) (T := 22) (e := 33) (k := 2) (by_ := 16) (by kernel_rfl) (lo := i + m) (by omega) (by omega))) ?_
          refine od_ ?_
          exact any_weak hm [0, 1, 2, 73, 76] (by kernel_rfl) rfl rfl rfl
      refine a1 8 rfl ?_
      refine ops_copy 1 rfl (by kernel_rfl) (by kernel_rfl) (g := g) (of := (0 + (i + m) * 2)) (dn := (n + m - (i + m))) (dc := (cap - (i + m))) (m := (n + m - i)) (cnt := (n - i)) (c := cs) (yv := (.slice (some ⟨g, 0 + i * 2, none⟩) (n + m - i) (cap - i))) ((cs.toList.drop (0 + i * 2)).take ((n - i) * 2)) (by kernel_rfl) (by kernel_rfl) (T := 33) (ks := 2) (by_ := 16) (by kernel_rfl) (T' := 33) (by kernel_rfl) len_slice (by omega) (fun w hw => first_row (hw.row 1 rfl) (row_room hOw (by omega))) (copy_room (c := cap) hOw (by omega) (by omega) hcs) (row_one hOw (by omega)) ?_
      refine od_ ?_
      refine any_nil (by kernel_rfl) ?_
      refine ds_ (sq_ (ao_ (qo 4 [(2, .sl (.slice (some ⟨g, 0 + i * 2, none⟩) (n + m - i) (cap - i)))] [0] [(80, .slice (some ⟨g, 0 + i * 2, none⟩) (n + m - i) (cap - i)), (81, .slice (some ⟨gv, 0, none⟩) m m)] ([SlRun Try.prog 22 (.slice (some ⟨g, 0, none⟩) (n + m) cap) (some (.int .i64 ((i : Nat)))) none none (.slice (some ⟨g, 0 + i * 2, none⟩) (n + m - i) (cap - i))]) (al1 (slE_lo (P := Try.prog) (T := 22) (e := 33) (k := 2) (by_ := 16) (by kernel_rfl) (lo := i) (by omega) (by omega))) (ops_copy 1 rfl (by kernel_rfl) (by kernel_rfl) (g := g) (of := (0 + i * 2)) (dn := (n + m - i)) (dc := (cap - i)) (m := m) (cnt := m) (c := ((sets cs (0 + (i + m) * 2) ((cs.toList.drop (0 + i * 2)).take ((n - i) * 2))))) (yv := (.slice (some ⟨gv, 0, none⟩) m m)) (vl.flatMap Enc.enc) (by kernel_rfl) (by kernel_rfl) (T := 33) (ks := 2) (by_ := 16) (by kernel_rfl) (T' := 33) (by kernel_rfl) len_slice (by omega) (fun w hw => by have := first_sv (P := Try.prog) (w := w) (p := some ⟨gv, 0, none⟩) (m := m) (cap := m) (cnt := m) (sv_row (hw.row 0 rfl) hcv) (by omega); rw [List.take_of_length_le (by omega)] at this; exact this) (by rw [flat_len, ← hm, sets_size]; exact mul_room (c := cap) (by omega) hcs) (flat_one vl) (on_ (ds_ (sq_ (qa0 [] [] [(6, .slice (some ⟨g, 0, none⟩) (n + m) cap)] (ds_ (rt ([]) (.slice (some ⟨g, 0, none⟩) (n + m) cap) ?_))))))))))
      exact fun w' hw => ⟨_, _, [_], rfl, .inr ⟨_, _, rfl, rfl, by simp; omega, ins_room hOw (by omega) hm (by omega) (by omega)⟩, hw.sub (.cons _ (.refl _))⟩
end Go.Proofs.Ytjfebdhflkndmaa

/-! The walker: slices.SortFunc on a slice of one's own, by the library's contract. -/
namespace Go.Proofs.Ytjfebdhflkndmaa
open Go Go.RowKit Go.Shelf Go.Proofs
open Go.Sort (flatK get_flatK HoldsK putRowK size_flatK)

section
variable {α : Type} [Enc α] [Inhabited α]
theorem flatK_is (l : List α) : flatK Enc.enc (Enc.k α) l.toArray = (l.flatMap Enc.enc).toArray := by
  have hk := Enc.pos (α := α)
  apply Array.ext
  · rw [size_flatK, List.size_toArray, List.size_toArray, flat_len]
  · intro t h1 h2
    have ht : t < l.length * Enc.k α := by rw [← flat_len]; exact h2
    have hi : t / Enc.k α < l.length := Nat.div_lt_of_lt_mul (by rw [Nat.mul_comm]; exact ht)
    have hj : t % Enc.k α < Enc.k α := Nat.mod_lt _ hk
    have hg := flat_get l (t / Enc.k α) hi (t % Enc.k α) hj
    rw [Nat.mul_comm, Nat.div_add_mod] at hg
    have h3 := get_flatK Enc.enc (Enc.k α) l.toArray t (by simpa using ht)
    rw [getElem!_pos (flatK Enc.enc (Enc.k α) l.toArray) t h1] at h3
    rw [h3]
    have e1 : l.toArray[t / Enc.k α]! = l[t / Enc.k α] := by rw [getElem!_pos l.toArray _ (by simpa using hi)]; simp
    rw [e1]
    have h4 : t % Enc.k α < (Enc.enc l[t / Enc.k α]).length := by rw [Enc.len]; exact hj
    rw [getElem!_pos (Enc.enc l[t / Enc.k α]) _ h4]
    rw [List.getElem?_eq_getElem h4, List.getElem?_eq_getElem (by simpa using h2)] at hg
    simp only [Option.some.injEq] at hg
    simpa using hg.symm
theorem holdsK_own {w : World} {g n cap : Nat} {cs : Array Value} {T : TypeId} {l : List α} (hg : w.heap[g]? = some (.cells cs T (0, 0))) (hn : n = l.length) (h : OwnS (Enc.k α) (l.flatMap Enc.enc) n cap cs) : HoldsK Enc.enc (Enc.k α) w g 0 l.toArray := by
  intro j hj
  have hj' : j < n * Enc.k α := by rw [hn]; simpa using hj
  have e0 : j < (l.flatMap Enc.enc).toArray.size := by rw [← flatK_is]; exact hj
  rw [Nat.zero_add]
  constructor
  · rw [cell_own hg, h.get j hj', flatK_is, id, getElem!_pos _ j e0, List.getElem?_eq_getElem (by simpa using e0)]
    simp
  · simp [World.frozen?, hg]
theorem turn_putRow {w : World} {g m n cap : Nat} {cs : Array Value} {T : TypeId} {l l' : List α} (hg : w.heap[g]? = some (.cells cs T (0, 0))) (hn : n = l.length) (hl : l'.length = l.length) (h : OwnS (Enc.k α) (l.flatMap Enc.enc) n cap cs) :
    ∃ cs', Turn g (.cells cs' T (0, 0)) w (putRowK Enc.enc (Enc.k α) (Go.Sort.ahead w m) g 0 l'.toArray) ∧ OwnS (Enc.k α) (l'.flatMap Enc.enc) n cap cs' := by
  have hsz : (l'.flatMap Enc.enc).length = n * Enc.k α := by rw [flat_len, hl, hn]
  have hle : n * Enc.k α ≤ cs.size := by rw [h.csz]; exact Nat.mul_le_mul_right _ h.le
  refine ⟨Go.Sort.putCells id 0 (flatK Enc.enc (Enc.k α) l'.toArray) cs, ⟨?_, fun k hk => ?_, ?_, rfl, rfl, rfl⟩, ⟨hsz, h.le, h.max, ?_, ?_⟩⟩
  · unfold putRowK Go.Sort.putRow Go.Sort.mapBlock Go.Sort.ahead
    simp [Array.getElem?_modify, hg, Go.Sort.onCells]
  · unfold putRowK Go.Sort.putRow Go.Sort.mapBlock Go.Sort.ahead
    simp only [Array.getElem?_modify]
    rw [if_neg (fun e => hk e.symm)]
  · unfold putRowK Go.Sort.putRow Go.Sort.mapBlock Go.Sort.ahead
    simp
  · rw [← h.csz]; simp [Go.Sort.putCells]
  · rw [flatK_is]
    apply List.ext_getElem?
    intro j
    rw [List.getElem?_take]
    by_cases hj : j < n * Enc.k α
    · rw [if_pos hj, Array.getElem?_toList]
      unfold Go.Sort.putCells
      rw [Array.getElem?_mapIdx, Array.getElem?_eq_getElem (by omega)]
      simp only [Option.map_some, Nat.zero_le, true_and, Nat.zero_add, Nat.sub_zero, List.size_toArray, id]
      rw [if_pos (by omega), getElem!_pos _ j (by simpa [hsz] using hj), List.getElem?_eq_getElem (by omega)]
      simp
    · rw [if_neg hj, List.getElem?_eq_none (by omega)]
theorem below_grow (w : World) (os : Array Obj) : Below w.heap.size w (Go.Sort.grow w os) := by
  refine ⟨rfl, rfl, rfl, ?_, fun k hk => ?_⟩
  · simp [Go.Sort.grow]
  · simp only [Go.Sort.grow]
    rw [Array.getElem?_append_left hk]
theorem below_lays {w w' : World} {q : Nat} {os : Array Obj} (h : w' = Go.Sort.grow (w.drewN q) os) : Below w.heap.size w w' := by
  subst h
  have h1 := below_grow (w.drewN q) os
  exact ⟨h1.os, h1.tape, h1.output, h1.size, h1.block⟩
/-- slices.SortFunc on a slice of one's own, under an order in which two that are not one part. -/
theorem sort_own {P : Program} {ρ : Ren} (L : SlLaysF0.n6 P ρ) {T : TypeId} (aE : ∀ w, (isAgg (ρ.t 24)).run P w = .ok true w) (zE : ∀ w, (Go.sizeOf (ρ.t 24)).run P w = .ok (Enc.k α) w) (cf : α → α → Int) (hO : Go.Sort.SWO (ltOf cf))
    (hT : ∀ x y, (ltOf cf) x y = false → (ltOf cf) y x = false → x = y) (g : Nat) (cb : Array Value) (eg : ∀ args w, (callFunc g args).run P w = .ok (.enter g args) w) {w0 w : World} {X Y : List Ob} {p : Option Addr} {n cap : Nat} {l : List α} (hH : Hs w0 (Y ++ X) w) (hS : SlO T Y p n cap l) (hb : n ≤ 1000)
    (hcmp : ∀ blk, CmpLays P g cb Enc.enc (Enc.k α) cf blk 0 n w) :
    Calls P (ρ.f 6) #[.slice p n cap, .func (.func g) #[] cb] w fun e w' => e = .returned (.tuple #[]) ∧ ∃ Y', SlO T Y' p n cap (l.mergeSort fun x y => !(ltOf cf) y x) ∧ Hs w0 (Y' ++ X) w' := by
  rcases hS with ⟨rfl, rfl, rfl, rfl, rfl⟩ | ⟨blk, cs, rfl, rfl, hn, hw⟩
  · refine (AnyF.slices_SortFunc_none L none 0 _ w).mono ?_
    rintro e w' ⟨rfl, rfl⟩
    exact ⟨rfl, [], by simpa using SlO.nil, hH⟩
  · have hg := hH.row 0 rfl
    have hs : l.toArray.size = n := by simpa using hn.symm
    have hl : (l.mergeSort fun x y => !(ltOf cf) y x).length = l.length := List.length_mergeSort l
    have := AnyQ.slices_SortFunc_total L (Enc.k α) aE zE Enc.enc Enc.len Enc.one cf hO g cb blk 0 cap l.toArray w eg (by rw [hs]; exact hcmp blk) (holdsK_own hg hn hw) (hs_lt hg) (by omega) hT
    rw [hs] at this
    refine this.mono ?_
    rintro e w' ⟨rfl, m, os, rfl⟩
    obtain ⟨cs', ht, hw'⟩ := turn_putRow (m := m) hg hn hl hw
    refine ⟨rfl, [(blk, .cells cs' T (0, 0))], .inr ⟨blk, cs', rfl, rfl, by rw [hl]; exact hn, hw'⟩, ?_⟩
    have h2 := hH.turnHead ht
    exact h2.kept (below_grow _ _)
end
end Go.Proofs.Ytjfebdhflkndmaa

/-! The order in which timers fire, and the library's cmp.Compare and cmp.Or: whatever the world, told exactly. -/
namespace Go.Proofs.Ytjfebdhflkndmaa
open Go Go.RowKit

/-- The first that is not 0. -/
def orT : List Int → Int
  | [] => 0
  | z :: r => if z = 0 then orT r else z
/-- Which fires first. -/
def ordT (x y : Tim) : Int := orT [cmpT x.due y.due, cmpT x.id y.id]
set_option maxRecDepth 100000 in
theorem cmp64_x (a b : Int) (w : World) :
    Calls Try.prog 41 #[.int .i64 a, .int .i64 b] w fun e w' => e = .returned (.int .i64 (cmpT a b)) ∧ w' = w := by
  by_cases h1 : a < b
  · have H : Hid (cmpT a b = -1) := if_pos h1
    go_enter Try.func41, Try.ntmps41
    go_wp2
    go_ret
    exact ⟨by rw [H.out]; rfl, rfl⟩
  · by_cases h2 : b < a
    · have H : Hid (cmpT a b = 1) := (if_neg h1).trans (if_pos h2)
      go_enter Try.func41, Try.ntmps41
      go_wp2
      go_ret
      exact ⟨by rw [H.out]; rfl, rfl⟩
    · have H : Hid (cmpT a b = 0) := (if_neg h1).trans (if_neg h2)
      go_enter Try.func41, Try.ntmps41
      go_wp2
      go_ret
      exact ⟨by rw [H.out]; rfl, rfl⟩
set_option maxRecDepth 100000 in
theorem cmpI_x (a b : Int) (w : World) :
    Calls Try.prog 42 #[.int .i64 a, .int .i64 b] w fun e w' => e = .returned (.int .i64 (cmpT a b)) ∧ w' = w := by
  by_cases h1 : a < b
  · have H : Hid (cmpT a b = -1) := if_pos h1
    go_enter Try.func42, Try.ntmps42
    go_wp2
    go_ret
    exact ⟨by rw [H.out]; rfl, rfl⟩
  · by_cases h2 : b < a
    · have H : Hid (cmpT a b = 1) := (if_neg h1).trans (if_pos h2)
      go_enter Try.func42, Try.ntmps42
      go_wp2
      go_ret
      exact ⟨by rw [H.out]; rfl, rfl⟩
    · have H : Hid (cmpT a b = 0) := (if_neg h1).trans (if_neg h2)
      go_enter Try.func42, Try.ntmps42
      go_wp2
      go_ret
      exact ⟨by rw [H.out]; rfl, rfl⟩
theorem orT_drop (zs : List Int) (k : Nat) (hk : k < zs.length) : orT (zs.drop k) = if zs[k] = 0 then orT (zs.drop (k + 1)) else zs[k] := by
  rw [List.drop_eq_getElem_cons hk]; rfl

set_option maxRecDepth 100000 in
set_option maxHeartbeats 400000 in
theorem cor_x (zs : List Int) (g : Nat) (w : World) (hlen : zs.length < 1000) (hg : IsR w g (zs.map (Value.int .i64)).toArray 3) :
    Calls Try.prog 40 #[.slice (some ⟨g, 0, none⟩) zs.length zs.length] w fun e w' => e = .returned (.int .i64 (orT zs)) ∧ w' = w := by
  have hc : ∀ j (h : j < zs.length), w.cell? ⟨g, j, none⟩ = some (.int .i64 zs[j]) := fun j h => by rw [hg.cell j]; simp [h]
  have HC := Lib.hid hc
  clear hc hg
  obtain ⟨n, hn⟩ : ∃ n, zs.length = n := ⟨_, rfl⟩
  rw [hn] at hlen
  rw [hn]
  have HN := Lib.hid hn
  clear hn
  have hlen' : (n : Int) < 1000 := by omega
  go_enter Try.func40, Try.ntmps40
  go_wp2
  go_loop [8] (fun t => ∃ k : Nat, k ≤ n ∧ t = .int .i64 k ∧ Hid (orT (zs.drop k) = orT zs)) (fun t => n - (intOf t).toNat)
  case atStart => exact ⟨0, by omega, rfl, (rfl : _ = _)⟩
  case round =>
    obtain ⟨k, hk, rfl, HK⟩ := hrel
    by_cases hlt : k < n
    · have hlt' : (k : Int) < (n : Int) := by omega
      have hkz : k < zs.length := by rw [HN.out]; exact hlt
      have hcell := HC.out k hkz
      have HD := Lib.hid (orT_drop zs k hkz)
      generalize zs[k] = z at hcell HD
      clear hkz
      by_cases hz : z = 0
      · subst hz
        have HK2 : Hid (orT (zs.drop (k + 1)) = orT zs) := by show _ = _; rw [← HK.out, HD.out, if_pos rfl]
        go_wp2
        go_round
        case rel => exact ⟨k + 1, by omega, by go_num, HK2⟩
        case measure => simp [intOf]; omega
      · have hz' : (z == 0) = false := by simpa using hz
        have hz'' : (z != 0) = true := by simpa using hz
        have HK2 : Hid (orT zs = z) := by show _ = _; rw [← HK.out, HD.out, if_neg hz]
        clear hz
        go_wp2
        go_ret
        exact ⟨by rw [HK2.out]; rfl, rfl⟩
    · have hlt' : (n : Int) ≤ (k : Int) := by omega
      have HK2 : Hid (orT zs = 0) := by show _ = _; rw [← HK.out, List.drop_eq_nil_of_le (by rw [HN.out]; omega)]; rfl
      go_wp2
      go_ret
      exact ⟨by rw [HK2.out]; rfl, rfl⟩
/-- Blocks made and draws. -/
def Lays (w w' : World) : Prop := ∃ q os, w' = Go.Sort.grow (w.drewN q) os
theorem Lays.refl (w : World) : Lays w w := ⟨0, #[], by simp [Go.Sort.grow, World.drewN]⟩
theorem Lays.alloc {w w' : World} (h : Lays w w') (o : Obj) : Lays w (w'.alloc o) := by
  obtain ⟨q, os, rfl⟩ := h
  refine ⟨q, os.push o, ?_⟩
  simp [Go.Sort.grow, World.drewN, World.alloc]
theorem Lays.drew {w w' : World} (h : Lays w w') : Lays w w'.drew := by
  obtain ⟨q, os, rfl⟩ := h
  refine ⟨q + 1, os, ?_⟩
  simp [Go.Sort.grow, World.drewN, World.drew, Nat.add_assoc]
set_option maxRecDepth 100000 in
set_option maxHeartbeats 400000 in
theorem order_x (x y : Tim) (w : World) :
    Calls Try.prog 28 #[.agg #[.int .i64 x.id, .int .i64 x.due], .agg #[.int .i64 y.id, .int .i64 y.due]] w fun e w' => e = .returned (.int .i64 (ordT x y)) ∧ Lays w w' := by
  obtain ⟨xi, xd⟩ := x
  obtain ⟨yi, yd⟩ := y
  go_enter Try.func28, Try.ntmps28
  go_wp2_with fail
  have fA : IsR ((w.alloc (Obj.cells #[.int .i64 xi, .int .i64 xd] 33)).alloc (Obj.cells #[.int .i64 yi, .int .i64 yd] 33)) w.heap.size #[.int .i64 xi, .int .i64 xd] 33 := by unfold IsR; exact (by repeat (first | (with_reducible refine heap_top _ _ _ ?_; first | (simp; done) | (simp; omega)) | rw [Below.heap_alloc _ _ _ (by first | (simp; done) | (simp; omega))]))
  have fB : IsR ((w.alloc (Obj.cells #[.int .i64 xi, .int .i64 xd] 33)).alloc (Obj.cells #[.int .i64 yi, .int .i64 yd] 33)) (w.heap.size + 1) #[.int .i64 yi, .int .i64 yd] 33 := by unfold IsR; exact (by repeat (first | (with_reducible refine heap_top _ _ _ ?_; first | (simp; done) | (simp; omega)) | rw [Below.heap_alloc _ _ _ (by first | (simp; done) | (simp; omega))]))
  have k0 : Lays w ((w.alloc (Obj.cells #[.int .i64 xi, .int .i64 xd] 33)).alloc (Obj.cells #[.int .i64 yi, .int .i64 yd] 33)) := ((Lays.refl _).alloc _).alloc _
  generalize (w.alloc (Obj.cells #[.int .i64 xi, .int .i64 xd] 33)).alloc (Obj.cells #[.int .i64 yi, .int .i64 yd] 33) = W at fA fB k0 ⊢
  have cA := IsR.cell fA
  have cB := IsR.cell fB
  refine wp_region_still_tail 10 (by kernel_rfl) (by kernel_rfl) ?_
  change wpStill _ _ (World.drew W) _ _ _
  simp only [List.take_succ_cons, List.take_zero, List.drop_succ_cons, List.drop_zero]
  iterate 4 still_step
  still_call (cmp64_x xd yd _)
  iterate 4 still_step
  still_call (cmpI_x xi yi _)
  refine wpStill_nil ?_
  change wpList _ _ _ _ _ (World.drew _)
  go_wp2_with fail
  refine (cor_x [cmpT xd yd, cmpT xi yi] W.heap.size _ (by simp) ?_).mono ?_
  · exact heap_top W (Obj.cells #[.int .i64 (cmpT xd yd), .int .i64 (cmpT xi yi)] 3) _ rfl
  rintro e w' ⟨rfl, rfl⟩
  go_wp2_with fail
  go_ret
  exact ⟨rfl, (k0.alloc _).drew⟩
end Go.Proofs.Ytjfebdhflkndmaa

/-! Timers: where one stands; which is the next; plain. -/
namespace Go.Proofs.Ytjfebdhflkndmaa
open Go Go.RowKit

/-- A time's digit. -/
def dig (t lv : Int) : Int := Int.tmod (t / 64 ^ lv.toNat) 64
def placeN (a b : Int) : Nat → Int × Int
  | 0 => (0, dig b 0)
  | n + 1 => if dig a n = dig b n then placeN a b n else ((n : Int), dig b n)
/-- Where a timer that is due at b stands at a. -/
def placeV (a b : Int) : Int × Int := placeN a b 9
section
variable {a b lv t : Int}
theorem shr_is (h0 : 0 ≤ lv) (h8 : lv ≤ 8) (ht : 0 ≤ t) : t.fdiv (2 ^ (min (6 * lv).toNat IntKind.i64.bits)) = t / 64 ^ lv.toNat := by
  obtain ⟨n, rfl⟩ := Int.eq_ofNat_of_zero_le h0
  have e : (6 * (n : Int)).toNat = 6 * n := by omega
  rw [e, Int.fdiv_eq_ediv_of_nonneg _ (by exact Int.pow_nonneg (by decide))]
  have e2 : min (6 * n) IntKind.i64.bits = 6 * n := by show min (6 * n) 64 = 6 * n; omega
  rw [e2, Int.toNat_natCast, Int.pow_mul]
  rfl
theorem div_bnd (ht : 0 ≤ t) (n : Nat) : 0 ≤ t / 64 ^ n ∧ t / 64 ^ n ≤ t := by
  have hp : (0 : Int) < 64 ^ n := Int.pow_pos (by decide)
  exact ⟨Int.ediv_nonneg ht (by omega), Int.ediv_le_self _ ht⟩
theorem dig_bnd (ht : 0 ≤ t) : 0 ≤ dig t lv ∧ dig t lv < 64 := by
  unfold dig
  have := (div_bnd ht lv.toNat).1
  exact ⟨Int.tmod_nonneg _ this, Int.tmod_lt_of_pos _ (by decide)⟩
theorem dig_zero : dig t 0 = Int.tmod t 64 := by simp [dig]
theorem place_on (hI : placeN a b (lv + 1).toNat = placeV a b) (h0 : 0 ≤ lv) (e : dig a lv = dig b lv) : placeN a b (lv - 1 + 1).toNat = placeV a b := by
  obtain ⟨n, rfl⟩ := Int.eq_ofNat_of_zero_le h0
  have e1 : ((n : Int) + 1).toNat = n + 1 := by omega
  have e2 : ((n : Int) - 1 + 1).toNat = n := by omega
  rw [e1] at hI
  rw [e2, ← hI]
  simp [placeN, e]
theorem place_at (hI : placeN a b (lv + 1).toNat = placeV a b) (h0 : 0 ≤ lv) (e : ¬ dig a lv = dig b lv) : placeV a b = (lv, dig b lv) := by
  obtain ⟨n, rfl⟩ := Int.eq_ofNat_of_zero_le h0
  have e1 : ((n : Int) + 1).toNat = n + 1 := by omega
  rw [e1] at hI
  rw [← hI]
  simp [placeN, e]
theorem place_end (hI : placeN a b (lv + 1).toNat = placeV a b) (h0 : ¬ lv ≥ 0) (h1 : -1 ≤ lv) : placeV a b = (0, dig b 0) := by
  have e1 : (lv + 1).toNat = 0 := by omega
  rw [e1] at hI
  rw [← hI]
  rfl
theorem placeN_bnd : ∀ n : Nat, 0 ≤ (placeN a b n).1 ∧ (placeN a b n).1 ≤ n
  | 0 => by simp [placeN]
  | n + 1 => by
    have := placeN_bnd n
    unfold placeN
    split
    · omega
    · simp only []; omega
theorem place_bnd : 0 ≤ (placeV a b).1 ∧ (placeV a b).1 ≤ 8 := by
  unfold placeV placeN
  split
  · have := placeN_bnd (a := a) (b := b) 8; omega
  · simp
end
/-- The document's least: 0 where there is none. -/
def leastS (l : Int) (t : Tim) : Int := if l = 0 ∨ t.due < l then t.due else l
def leastV (ts : List Tim) : Int := ts.foldl leastS 0
section
variable {ts : List Tim} {x t : Tim} {j : Nat} {l : Int}
theorem least_inv : ∀ (ts : List Tim) (l : Int), (∀ t ∈ ts, 0 < t.due) → 0 ≤ l → (ts.foldl leastS l = l ∨ ∃ t ∈ ts, ts.foldl leastS l = t.due) ∧ (∀ t ∈ ts, 0 < ts.foldl leastS l ∧ ts.foldl leastS l ≤ t.due) ∧ (0 < l → ts.foldl leastS l ≤ l ∧ 0 < ts.foldl leastS l)
  | [], l, _, h0 => ⟨.inl rfl, fun t ht => (by cases ht), fun h => ⟨Int.le_refl _, h⟩⟩
  | a :: ts, l, h, h0 => by
    have ha := h a (List.mem_cons_self ..)
    have hl : 0 < leastS l a ∧ leastS l a ≤ a.due ∧ (0 < l → leastS l a ≤ l) ∧ (leastS l a = l ∨ leastS l a = a.due) := by
      unfold leastS
      split
      · exact ⟨ha, Int.le_refl _, fun h => by omega, .inr rfl⟩
      · exact ⟨by omega, by omega, fun _ => Int.le_refl _, .inl rfl⟩
    obtain ⟨h1, h2, h3⟩ := least_inv ts (leastS l a) (fun t ht => h t (List.mem_cons_of_mem _ ht)) (by omega)
    have h3' := h3 hl.1
    rw [List.foldl_cons]
    refine ⟨?_, fun t ht => ?_, fun hp => ⟨by have := hl.2.2.1 hp; omega, h3'.2⟩⟩
    · rcases h1 with h1 | ⟨t, ht, h1⟩
      · rcases hl.2.2.2 with e | e
        · exact .inl (h1.trans e)
        · exact .inr ⟨a, List.mem_cons_self .., h1.trans e⟩
      · exact .inr ⟨t, List.mem_cons_of_mem _ ht, h1⟩
    · rcases List.mem_cons.1 ht with rfl | ht
      · exact ⟨h3'.2, by omega⟩
      · exact h2 t ht
theorem least_is (h : ∀ t ∈ ts, 0 < t.due) (hx : x ∈ ts) (hm : ∀ t ∈ ts, x.due ≤ t.due) : leastV ts = x.due := by
  obtain ⟨h1, h2, _⟩ := least_inv ts 0 h (Int.le_refl _)
  have h4 := h2 x hx
  unfold leastV
  rcases h1 with h1 | ⟨t, ht, h1⟩
  · omega
  · have := hm t ht; omega
theorem least_pos (h : ∀ t ∈ ts, 0 < t.due) : (0 < leastV ts ↔ ts ≠ []) := by
  obtain ⟨h1, h2, _⟩ := least_inv ts 0 h (Int.le_refl _)
  constructor
  · intro hp e; subst e; simp [leastV] at hp
  · intro hne
    obtain ⟨x, hx⟩ := List.exists_mem_of_ne_nil _ hne
    exact (h2 x hx).1
end
def slF (now lv sl : Int) (t : Tim) : List Int := if (placeV now t.due).1 = lv ∧ (placeV now t.due).2 = sl then [t.id] else []
def slotV (now : Int) (ts : List Tim) (lv sl : Int) : List Int := ts.flatMap (slF now lv sl)
def movF (now to : Int) (t : Tim) : Int := if to < t.due then (placeV now t.due).1 - (placeV to t.due).1 else 0
def movV (now to : Int) (ts : List Tim) : Int := (ts.map (movF now to)).sum
section
variable {now to lv sl : Int} {ts : List Tim} {x : Tim} {j : Nat}
theorem slF_yes (h : (placeV now x.due).1 = lv) (h2 : (placeV now x.due).2 = sl) : slF now lv sl x = [x.id] := if_pos ⟨h, h2⟩
theorem slF_no1 (h : ¬ (placeV now x.due).1 = lv) : slF now lv sl x = [] := if_neg fun e => h e.1
theorem slF_no2 (h : ¬ (placeV now x.due).2 = sl) : slF now lv sl x = [] := if_neg fun e => h e.2
/-- Why time does not pass. -/
def passE (now : Int) (ts : List Tim) (to : Int) : Int := if wheelB now ts = true then (if to < now ∨ 1125899906842624 < to then 2 else 0) else 250
theorem passE_bad (h : wheelB now ts = false) : passE now ts to = 250 := by simp [passE, h]
theorem passE_arg (h : wheelB now ts = true) (h2 : to < now ∨ 1125899906842624 < to) : passE now ts to = 2 := by simp [passE, h, h2]
theorem passE_ok (h : wheelB now ts = true) (h2 : ¬ (to < now ∨ 1125899906842624 < to)) : passE now ts to = 0 := by unfold passE; rw [if_pos h, if_neg h2]
end
end Go.Proofs.Ytjfebdhflkndmaa

/-! Timers: the first to fire; plain. -/
namespace Go.Proofs.Ytjfebdhflkndmaa
open Go Go.RowKit

theorem ord_neg {x y : Tim} : ordT x y < 0 ↔ x.due < y.due ∨ (x.due = y.due ∧ x.id < y.id) := by
  unfold ordT orT orT orT
  have h1 := cmpT_iff x.due y.due
  have h2 := cmpT_iff x.id y.id
  split
  · split <;> omega
  · omega
def ltT (x y : Tim) : Bool := decide (ordT x y < 0)
section
variable {ts : List Tim} {m x t : Tim} {j : Nat} {now k : Int}
theorem min_new (hI : ∀ t ∈ ts.take j, m.due ≤ t.due) (hx : ts[j]? = some x) (h : ordT x m < 0) : ∀ t ∈ ts.take (j + 1), x.due ≤ t.due := by
  have h1 := ord_neg.1 h
  exact all_onT (fun t ht => by have := hI t ht; omega) hx (Int.le_refl _)
theorem min_old (hI : ∀ t ∈ ts.take j, m.due ≤ t.due) (hx : ts[j]? = some x) (h : ¬ ordT x m < 0) : ∀ t ∈ ts.take (j + 1), m.due ≤ t.due :=
  all_onT hI hx (by
    rcases Int.lt_or_le x.due m.due with h1 | h1
    · exact absurd (ord_neg.2 (.inl h1)) h
    · exact h1)
theorem min_one (hx : ts[0]? = some x) : ∀ t ∈ ts.take 1, x.due ≤ t.due := by
  have := all_onT (j := 0) (p := fun t : Tim => x.due ≤ t.due) all_take0T hx (Int.le_refl _)
  exact this
/-- When the next timer is due. -/
def nextV (now : Int) (ts : List Tim) : Value := if wheelB now ts = true ∧ ts ≠ [] then .tuple #[.int .i64 (leastV ts), .bool true] else .tuple #[.int .i64 0, .bool false]
theorem nextV_bad (h : wheelB now ts = false) : nextV now ts = .tuple #[.int .i64 0, .bool false] := by simp [nextV, h]
theorem nextV_nil (h : ts.length = 0) : nextV now ts = .tuple #[.int .i64 0, .bool false] := by
  have : ts = [] := List.length_eq_zero_iff.1 h
  simp [nextV, this]
theorem due_pos (h : wheelB now ts = true) : ∀ t ∈ ts, 0 < t.due := fun t ht => by
  have hg := wheel_iff.1 h
  have := hg.n0
  have := hg.tm t ht
  omega
theorem nextV_is (h : wheelB now ts = true) (hm : x ∈ ts) (hI : ∀ t ∈ ts, x.due ≤ t.due) : nextV now ts = .tuple #[.int .i64 x.due, .bool true] := by
  have hne : ts ≠ [] := fun e => by subst e; cases hm
  rw [nextV, if_pos ⟨h, hne⟩, least_is (due_pos h) hm hI]
/-- Where a timer stands. -/
def plV (now : Int) (o : Option Tim) : Value := match o with
  | some x => .tuple #[.int .i64 (placeV now x.due).1, .int .i64 (placeV now x.due).2, .bool true]
  | none => .tuple #[.int .i64 0, .int .i64 0, .bool false]
theorem plO_bad (h : wheelB now ts = false) : plV now (atO now ts k) = plV now none := by rw [atO_bad h]
theorem plO_none (h : wheelB now ts = true) (hg : getK Tim.id ts k = none) : plV now (atO now ts k) = plV now none := by rw [atO_ok h, hg]
theorem plO_some (h : wheelB now ts = true) (hg : getK Tim.id ts k = some x) : plV now (atO now ts k) = plV now (some x) := by rw [atO_ok h, hg]
end
end Go.Proofs.Ytjfebdhflkndmaa

/-! Timers: what moves them; plain. -/
namespace Go.Proofs.Ytjfebdhflkndmaa
open Go Go.RowKit

theorem one_tail {w0 w : World} {Y : List Ob} (h : Hs w0 (Y ++ []) w) : Hs w0 Y w := by rwa [List.append_nil] at h
theorem two_tails {w0 w : World} {Y X : List Ob} (h : Hs w0 (Y ++ (X ++ [])) w) : Hs w0 (Y ++ X) w := by rwa [List.append_nil] at h
abbrev W3 := Int × List Tim × Int
def setV (now : Int) (ts : List Tim) (k at_ : Int) : W3 :=
  if wheelB now ts = true then if idB k = true ∧ now < at_ ∧ at_ ≤ 1125899906842624 then
    match getK Tim.id ts k with
    | some _ => (now, putK Tim.id ts ⟨k, at_⟩, 0)
    | none => (now, insK Tim.id ts ⟨k, at_⟩, 0)
    else (0, [], 2) else (0, [], 250)
def canV (now : Int) (ts : List Tim) (k : Int) : W3 :=
  if wheelB now ts = true then match getK Tim.id ts k with
    | some _ => (now, delK Tim.id ts k, 0)
    | none => (0, [], 4) else (0, [], 250)
section
variable {now k at_ : Int} {ts : List Tim} {x : Tim}
theorem setV_bad (g : wheelB now ts = false) : setV now ts k at_ = (0, [], 250) := by simp [setV, g]
theorem setV_arg (g : wheelB now ts = true) (h : idB k = false ∨ at_ ≤ now ∨ 1125899906842624 < at_) : setV now ts k at_ = (0, [], 2) := by
  unfold setV
  rw [if_pos g, if_neg]
  rintro ⟨h1, h2, h3⟩
  rcases h with h | h
  · rw [h] at h1; cases h1
  · omega
theorem setV_put (g : wheelB now ts = true) (i : idB k = true) (h : now < at_ ∧ at_ ≤ 1125899906842624) (e : getK Tim.id ts k = some x) : setV now ts k at_ = (now, ts.set (posK Tim.id ts k) ⟨k, at_⟩, 0) := by
  simp [setV, g, i, h, e, putK]
theorem set_ins {l : List Tim} {i : Nat} {z t : Tim} (h : i ≤ l.length) : (l.take i ++ [z] ++ l.drop i).set i t = l.take i ++ [t] ++ l.drop i := by
  have e : (l.take i).length = i := by rw [List.length_take]; omega
  rw [List.append_assoc, List.set_append_right _ _ (by omega), e, Nat.sub_self]
  simp
theorem setV_ins (g : wheelB now ts = true) (i : idB k = true) (h : now < at_ ∧ at_ ≤ 1125899906842624) (e : getK Tim.id ts k = none) : setV now ts k at_ = (now, (ts.take (posK Tim.id ts k) ++ ([⟨0, 0⟩] : List Tim) ++ ts.drop (posK Tim.id ts k)).set (posK Tim.id ts k) ⟨k, at_⟩, 0) := by
  rw [set_ins (pos_cut (wheel_iff.1 g).rs).2.2]
  simp [setV, g, i, h, e, insK]
end
end Go.Proofs.Ytjfebdhflkndmaa

/-! Timers: Set. -/
namespace Go.Proofs.Ytjfebdhflkndmaa
open Go Go.RowKit

set_option maxRecDepth 100000 in
theorem set_t (now : Int) (p : Option Addr) (n cap : Nat) (ts : List Tim) (k at_ : Int) (w : World)
 (hts : Sv w p ts) (hn : n = ts.length) (hb : n ≤ 1000)
 : Calls Try.prog 13 #[.agg #[.int .i64 now, .slice p n cap], .int .i64 k, .int .i64 at_] w fun e w' => ∃ q m capq Y, e = .returned (.tuple #[.agg #[.int .i64 (setV now ts k at_).1, .slice q m capq], .int .i64 (setV now ts k at_).2.2]) ∧ SlO 33 Y q m capq (setV now ts k at_).2.1 ∧ Below w.heap.size w w' ∧ Hs w Y w' := by
 refine enter (Hs.start w) Try.func13 rfl Try.ntmps13 rfl (sq_ (ma0 [] [1, 2] (fun γ1 => [(3, .pointer (some ⟨γ1 0, 0, none⟩)), (6, .pointer (some ⟨γ1 1, 0, none⟩))]) (fun γ1 L => bx (γ1 1) (#[.int .i64 0, .slice none 0 0]) 24 :: bx (γ1 0) (#[.int .i64 now, .slice p n cap]) 24 :: L) (fun γ1 => ds_ (sq_ (at_block (sq_ (ao_ (qo0 1 [(0, .go (owns 1 0 2))] [1, 2, 3, 6] [(12, .agg #[.int .i64 now, .slice p n cap])] ?_))))))))
 rcases q3 : wheelB now ts with _ | _
 ·
  refine cD (.int .i64 250) Try.call10 (fun w hw => by have := wcheck_t now p n cap ts w (hts.kept hw.below) hn (by omega); rw [q3] at this; exact this) (qo0 2 [] [1, 2, 3, 6] [(11, .bool true)] (on_ (ds_ (t_ (sq_ (qa0 [(1, .go (owns 0 0 2))] [6] [(7, .int .i64 250)] (ds_ (rt (owns 0 0 2) (.tuple #[.agg #[.int .i64 0, .slice none 0 0], .int .i64 250]) ?_))))))))
  exact fun w' hw => by rw [setV_bad q3]; exact ⟨none, 0, 0, [], rfl, SlO.nil, hw.below, hw.sub (List.nil_sublist _)⟩
 ·
  refine cD (.int .i64 0) Try.call10 (fun w hw => by have := wcheck_t now p n cap ts w (hts.kept hw.below) hn (by omega); rw [q3] at this; exact this) (qo0 2 [] [1, 2, 3, 6] [(11, .bool false)] (on_ (ds_ (f_ (sq_ (ao_ (qo0 1 [] [1, 2, 3, 6] [(17, .int .i64 k)] ?_)))))))
  rcases q8 : idB k with _ | _
  ·
   refine cD (.bool false) Try.call29 (fun w hw => by have := may_t k w; rw [q8] at this; exact this) (qo0 12 [] [1, 2, 3, 6] [(16, .bool true)] (on_ (ds_ (t_ (sq_ (qa0 [(1, .go (owns 0 0 2))] [6] [(7, .int .i64 2)] (ds_ (rt (owns 0 0 2) (.tuple #[.agg #[.int .i64 0, .slice none 0 0], .int .i64 2]) ?_))))))))
   exact fun w' hw => by rw [setV_arg q3 (.inl q8)]; exact ⟨none, 0, 0, [], rfl, SlO.nil, hw.below, hw.sub (List.nil_sublist _)⟩
  ·
   refine cD (.bool true) Try.call29 (fun w hw => by have := may_t k w; rw [q8] at this; exact this) ?_
   by_cases q12 : (at_ : Int) ≤ (now : Int)
   ·
    refine qo 12 [(6, .go (owns 1 0 1)), (7, .yes)] [1, 2, 3, 6] [(16, .bool true)] ([(at_ : Int) ≤ (now : Int)]) (al1 q12) (on_ (ds_ (t_ (sq_ (qa0 [(1, .go (owns 0 0 2))] [6] [(7, .int .i64 2)] (ds_ (rt (owns 0 0 2) (.tuple #[.agg #[.int .i64 0, .slice none 0 0], .int .i64 2]) ?_)))))))
    exact fun w' hw => by rw [setV_arg q3 (.inr (by omega))]; exact ⟨none, 0, 0, [], rfl, SlO.nil, hw.below, hw.sub (List.nil_sublist _)⟩
   ·
    by_cases q16 : (at_ : Int) > (1125899906842624 : Int)
    ·
     refine qo 12 [(6, .go (owns 1 0 1)), (7, .no), (11, .yes)] [1, 2, 3, 6] [(16, .bool true)] ([¬ ((at_ : Int) ≤ (now : Int))] ++ ([(at_ : Int) > (1125899906842624 : Int)])) (alA (al1 q12) (al1 q16)) (on_ (ds_ (t_ (sq_ (qa0 [(1, .go (owns 0 0 2))] [6] [(7, .int .i64 2)] (ds_ (rt (owns 0 0 2) (.tuple #[.agg #[.int .i64 0, .slice none 0 0], .int .i64 2]) ?_)))))))
     exact fun w' hw => by rw [setV_arg q3 (.inr (by omega))]; exact ⟨none, 0, 0, [], rfl, SlO.nil, hw.below, hw.sub (List.nil_sublist _)⟩
    ·
     refine qo 12 [(6, .go (owns 1 0 1)), (7, .no), (11, .no)] [1, 2, 3, 6] [(16, .bool false)] ([¬ ((at_ : Int) ≤ (now : Int))] ++ ([¬ ((at_ : Int) > (1125899906842624 : Int))])) (alA (al1 q12) (al1 q16)) (on_ (ds_ (f_ (at_skip (done_block (ds_ (sq_ (ao_ (qo0 2 [(0, .go (owns 1 0 2))] [1, 2, 3, 6] [(32, .agg #[.int .i64 now, .slice p n cap]), (33, .int .i64 k)] ?_)))))))))
     rcases hg21 : getK Tim.id ts k with _ | y21
     ·
      have hpl21 := (pos_cut (k := k) (wheel_iff.1 q3).rs).2.2
      refine cD (.tuple #[.int .i64 ((posK Tim.id ts k : Nat)), .bool false]) Try.call32 (fun w hw => by have := find_t now p n cap ts k w (hts.kept hw.below) hn (by omega) q3; rw [hasK_none hg21] at this; exact this) (qo0 5 [] [1, 2, 3, 6] [(8, .int .i64 ((posK Tim.id ts k : Nat))), (9, .bool false)] (on_ (ds_ (sq_ (ao_ (qo0 2 [(1, .go (owns 1 1 1))] [1, 2, 3, 6, 8, 9] [(38, .slice p n cap)] (cP (fun v L' => ∃ q_ c_ Y_, v = .slice q_ n c_ ∧ L' = List.take 2 ([bx (γ1 1) (#[.int .i64 0, .slice none 0 0]) 24, bx (γ1 0) (#[.int .i64 now, .slice p n cap]) 24]) ++ (Y_ ++ List.drop 2 ([bx (γ1 1) (#[.int .i64 0, .slice none 0 0]) 24, bx (γ1 0) (#[.int .i64 now, .slice p n cap]) 24])) ∧ SlO 33 Y_ q_ n c_ ts) Try.call33 (fun w hw => (clone_t p n cap ts w (hts.kept hw.below) hn (by omega)).mono fun e w' ⟨q_, c_, Y_, he, hO, hb, hY⟩ => ⟨_, _, he, ⟨q_, c_, Y_, rfl, rfl, hO⟩, hw.join hb hY 2⟩) ?_)))))))
      rintro v24 L24 ⟨q24, cq24, Y24, rfl, rfl, hO24⟩
      refine qo0 1 [] [1, 2, 3, 6, 8, 9] [(10, .slice q24 n cq24)] (on_ (ds_ (sq_ (sq_ (qa0 [] [1, 2, 3, 6, 8, 10] [(41, .bool true)] (ds_ (t_ ?_)))))))
      have hlz8 := (wheel_iff.1 q3).len
      refine ao_ (mo0 4 [] [1, 2, 3, 6, 8] (fun γ27 => [(42, .slice q24 n cq24), (43, .int .i64 ((posK Tim.id ts k : Nat))), (45, .slice (some ⟨γ27 0, 0, none⟩) 1 1)]) (fun γ27 L => bx (γ27 0) (#[.int .i64 0, .int .i64 0]) 33 :: L) (fun γ27 => cP (fun v L' => ∃ q_ capq_ Y_, v = .slice q_ (n + 1) capq_ ∧ L' = [bx (γ1 1) (#[.int .i64 0, .slice none 0 0]) 24, bx (γ1 0) (#[.int .i64 now, .slice p n cap]) 24] ++ (Y_ ++ []) ∧ SlO 33 Y_ q_ (n + 1) capq_ (ts.take (posK Tim.id ts k) ++ [⟨0, 0⟩] ++ ts.drop (posK Tim.id ts k))) Try.call34 (fun w hw => (insert_t _ ([bx (γ1 1) (#[.int .i64 0, .slice none 0 0]) 24, bx (γ1 0) (#[.int .i64 now, .slice p n cap]) 24] ++ []) Y24 q24 n cq24 ts (posK Tim.id ts k) (γ27 0) (#[.int .i64 0, .int .i64 0]) 1 ([⟨0, 0⟩]) w (hw.pull (A := [bx (γ1 1) (#[.int .i64 0, .slice none 0 0]) 24, bx (γ1 0) (#[.int .i64 now, .slice p n cap]) 24]) (Y := Y24) (R := [])) hO24 (by rfl) (by rfl) (by omega) (by omega) (by omega) (by omega)).mono fun e w' ⟨q_, capq_, Y_, he, hO, hY⟩ => ⟨_, _, he, ⟨q_, capq_, Y_, rfl, rfl, hO⟩, hY.push⟩) ?_))
      rintro v28 L28 ⟨q28, cq28, Y28, rfl, rfl, hO28⟩
      refine qo0 1 [] [1, 2, 3, 6, 8] [(10, .slice q28 (n + 1) cq28)] (on_ (ds_ (sq_ ?_)))
      have hlz := (wheel_iff.1 q3).len
      have hln31 := hO28.len
      obtain ⟨g31, cs31, rfl, rfl, hOw31⟩ := hO28.rowOf (i := posK Tim.id ts k) (by omega)
      obtain ⟨x33, hx33⟩ := get_some (l := (ts.take (posK Tim.id ts k) ++ [⟨0, 0⟩] ++ ts.drop (posK Tim.id ts k))) (m := posK Tim.id ts k) (by omega)
      refine ma [(5, .at g31 0 (posK Tim.id ts k)), (6, .go (ownps 2 (0 + (posK Tim.id ts k) * 2) [undef, undef]))] [3, 6, 10] (fun _ => []) (fun _ L => (L.set 2 (bx g31 (((cs31).setIfInBounds (0 + (posK Tim.id ts k) * 2) (.int .i64 k)).setIfInBounds (0 + (posK Tim.id ts k) * 2 + 1) (.int .i64 at_)) 33))) (fun _ => [(some ⟨g31, 0, none⟩ : Option Addr) = some ⟨g31, 0, none⟩, ((posK Tim.id ts k : Nat)) = ((posK Tim.id ts k : Nat) : Int), posK Tim.id ts k < n + 1] ++ ([0 + (posK Tim.id ts k) * 2 < (cs31).size] ++ ([0 + (posK Tim.id ts k) * 2 + 1 < ((cs31).setIfInBounds (0 + (posK Tim.id ts k) * 2) (.int .i64 k)).size]))) (fun _ => (alA (al2 rfl (al2 rfl (al1 (by omega)))) (alA (al1 (by exact hOw31.room hO28.len hx33 (f := 0) (by decide))) (al1 (by simp only [Array.size_setIfInBounds]; exact hOw31.room hO28.len hx33 (f := 1) (by decide)))))) (fun _ => ds_ (sq_ (ma0 [(1, .go (owns 1 0 1)), (4, .go (owns 0 0 2))] [6] (fun _ => [(7, .int .i64 0)]) (fun _ L => (L.set 0 (bx (γ1 1) (#[.int .i64 now, .slice (some ⟨g31, 0, none⟩) (n + 1) cq28]) 24))) (fun _ => ds_ (rt (owns 0 0 2) (.tuple #[.agg #[.int .i64 now, .slice (some ⟨g31, 0, none⟩) (n + 1) cq28], .int .i64 0]) ?_)))))
      exact fun w' hw => by rw [setV_ins q3 q8 (by omega) hg21]; exact ⟨_, _, _, _, rfl, (SlO.ofOwn (hOw31.putAll (x' := (⟨k, at_⟩ : Tim)) hO28.len hx33) (len_set hO28.len)), hw.below, one_tail (Hs.pick [[bx (γ1 1) (#[.int .i64 now, .slice (some ⟨g31, 0, none⟩) (n + 1) cq28]) 24], [bx (γ1 0) (#[.int .i64 now, .slice p n cap]) 24], [bx g31 (((cs31).setIfInBounds (0 + (posK Tim.id ts k) * 2) (.int .i64 k)).setIfInBounds (0 + (posK Tim.id ts k) * 2 + 1) (.int .i64 at_)) 33]] [2] [0, 1] (by kernel_rfl) hw)⟩
     ·
      have hp_y21 := pos_getK (wheel_iff.1 q3).rs hg21
      have hl_y21 := (List.getElem?_eq_some_iff.1 hp_y21).1
      refine cD (.tuple #[.int .i64 ((posK Tim.id ts k : Nat)), .bool true]) Try.call32 (fun w hw => by have := find_t now p n cap ts k w (hts.kept hw.below) hn (by omega) q3; rw [hasK_some hg21] at this; exact this) (qo0 5 [] [1, 2, 3, 6] [(8, .int .i64 ((posK Tim.id ts k : Nat))), (9, .bool true)] (on_ (ds_ (sq_ (ao_ (qo0 2 [(1, .go (owns 1 1 1))] [1, 2, 3, 6, 8, 9] [(38, .slice p n cap)] (cP (fun v L' => ∃ q_ c_ Y_, v = .slice q_ n c_ ∧ L' = List.take 2 ([bx (γ1 1) (#[.int .i64 0, .slice none 0 0]) 24, bx (γ1 0) (#[.int .i64 now, .slice p n cap]) 24]) ++ (Y_ ++ List.drop 2 ([bx (γ1 1) (#[.int .i64 0, .slice none 0 0]) 24, bx (γ1 0) (#[.int .i64 now, .slice p n cap]) 24])) ∧ SlO 33 Y_ q_ n c_ ts) Try.call33 (fun w hw => (clone_t p n cap ts w (hts.kept hw.below) hn (by omega)).mono fun e w' ⟨q_, c_, Y_, he, hO, hb, hY⟩ => ⟨_, _, he, ⟨q_, c_, Y_, rfl, rfl, hO⟩, hw.join hb hY 2⟩) ?_)))))))
      rintro v38 L38 ⟨q38, cq38, Y38, rfl, rfl, hO38⟩
      refine qo0 1 [] [1, 2, 3, 6, 8, 9] [(10, .slice q38 n cq38)] (on_ (ds_ (sq_ (sq_ (qa0 [] [1, 2, 3, 6, 8, 10] [(41, .bool false)] (ds_ (f_ (at_skip (ds_ (sq_ ?_))))))))))
      have hlz := (wheel_iff.1 q3).len
      have hln42 := hO38.len
      obtain ⟨g42, cs42, rfl, rfl, hOw42⟩ := hO38.rowOf (i := posK Tim.id ts k) (by omega)
      refine ma [(5, .at g42 0 (posK Tim.id ts k)), (6, .go (ownps 2 (0 + (posK Tim.id ts k) * 2) [undef, undef]))] [3, 6, 10] (fun _ => []) (fun _ L => (L.set 2 (bx g42 (((cs42).setIfInBounds (0 + (posK Tim.id ts k) * 2) (.int .i64 k)).setIfInBounds (0 + (posK Tim.id ts k) * 2 + 1) (.int .i64 at_)) 33))) (fun _ => [(some ⟨g42, 0, none⟩ : Option Addr) = some ⟨g42, 0, none⟩, ((posK Tim.id ts k : Nat)) = ((posK Tim.id ts k : Nat) : Int), posK Tim.id ts k < n] ++ ([0 + (posK Tim.id ts k) * 2 < (cs42).size] ++ ([0 + (posK Tim.id ts k) * 2 + 1 < ((cs42).setIfInBounds (0 + (posK Tim.id ts k) * 2) (.int .i64 k)).size]))) (fun _ => (alA (al2 rfl (al2 rfl (al1 (by omega)))) (alA (al1 (by exact hOw42.room hO38.len hp_y21 (f := 0) (by decide))) (al1 (by simp only [Array.size_setIfInBounds]; exact hOw42.room hO38.len hp_y21 (f := 1) (by decide)))))) (fun _ => ds_ (sq_ (ma0 [(1, .go (owns 1 0 1)), (4, .go (owns 0 0 2))] [6] (fun _ => [(7, .int .i64 0)]) (fun _ L => (L.set 0 (bx (γ1 1) (#[.int .i64 now, .slice (some ⟨g42, 0, none⟩) n cq38]) 24))) (fun _ => ds_ (rt (owns 0 0 2) (.tuple #[.agg #[.int .i64 now, .slice (some ⟨g42, 0, none⟩) n cq38], .int .i64 0]) ?_)))))
      exact fun w' hw => by rw [setV_put q3 q8 (by omega) hg21]; exact ⟨_, _, _, _, rfl, (SlO.ofOwn (hOw42.putAll (x' := (⟨k, at_⟩ : Tim)) hO38.len hp_y21) (len_set hO38.len)), hw.below, one_tail (Hs.pick [[bx (γ1 1) (#[.int .i64 now, .slice (some ⟨g42, 0, none⟩) n cq38]) 24], [bx (γ1 0) (#[.int .i64 now, .slice p n cap]) 24], [bx g42 (((cs42).setIfInBounds (0 + (posK Tim.id ts k) * 2) (.int .i64 k)).setIfInBounds (0 + (posK Tim.id ts k) * 2 + 1) (.int .i64 at_)) 33]] [2] [0, 1] (by kernel_rfl) hw)⟩
end Go.Proofs.Ytjfebdhflkndmaa

/-! The walker: an operation whose answer is told (a shift); a range over a function whose body may return; a function that holds one. -/
namespace Go.Proofs.Ytjfebdhflkndmaa
open Go Go.RowKit

section
variable {E : Env} {k : List Fr} {l : Sl} {L : List Ob} {all os : List Oper} {o : Oper} {i : Nat}
/-- An operation whose answer is told. -/
theorem ops_opv (v : Value) (hw : wantL all l o = some true) (hd : okD E.n o.dst = true) (hk : knownO l o = true) (h : ∀ w, (execOp (look l) o).run E.P w = .ok (.value v) w) (hn : Ops E k all os (i + 1) (putL o.dst v l) L) : Ops E k all (o :: os) i l L := by
  refine ⟨fun a w ha hs => ?_⟩
  have hg := wantL_spec ha hw
  refine wpListIn_step fun K hK => ?_
  rw [if_pos hg]
  refine ⟨fun _ _ => trivial, ?_⟩
  have hdf : ∀ c, o.op ≠ .defer c := fun c e => by simp [knownO, e] at hk
  rw [Oper.semAt_eq _ _ _ hdf, look_exec ha hk, h]
  exact hK _ _ (hn.out _ _ (ha.put hd v) hs)
theorem run_shr {P : Program} {ρ : Operand → Value} {T U : TypeId} {x y : Operand} {kd kd' : IntKind} {a n : Int} (v : Int) (ho : o.op = .binOp .shr T x y U) (hx : ρ x = .int kd a) (hy : ρ y = .int kd' n) (h0 : 0 ≤ n) (hv : a.fdiv (2 ^ (min n.toNat kd.bits)) = v) (w : World) :
    (execOp ρ o).run P w = .ok (.value (.int kd v)) w := by
  have g : (eqGuard .shr T x y (.int kd a) (.int kd' n)) = (pure () : Sem Unit) := by unfold eqGuard; simp
  unfold execOp
  simp only [ho, hx, hy, g]
  subst hv
  have h1 : ¬ n < 0 := by omega
  simp [binOp, Op.shift, h1]
/-- The statement, its body free to return. -/
theorem at_rangeR {P : Program} {D : List Deferred} {R : Exit → Act → World → Prop} {w0 : World} {n : Nat} {g : Operand} {ps : Array Tmp} {asg body : Code} {gf : FuncId} {lb : Array Value} {fn2 : Func} {c2 : Code} {n2 : Nat}
    (hg : (knownX l g, look l g) = (true, .func (.func gf) #[] lb)) (he : ∀ args w, (callFunc gf args).run P w = .ok (.enter gf args) w)
    (hf : P.funcs[gf]? = some fn2) (hb : fn2.body = some c2) (hn : fn2.ntmps = n2) (hs : Nat.ble (#[Value.func (.yield 0) #[] #[]] ++ lb).size n2 = true)
    (h : ∀ (γ : Nat → Nat) (r : Loop), RecOk n l ps asg body r →
      At ⟨P, none, [], bodyPost P fn2 (fun e w' => ∃ v L', e = .returned v ∧ Hs w0 L' w' ∧ ((∃ i, L'[i]? = some (γ 1, .loop r) ∧ Done ⟨P, none, ⟨.collected (γ 0), #[]⟩ :: D, R, w0, n⟩ k l (L'.eraseIdx i)) ∨
        (∃ i, L'[i]? = some (γ 1, .loop { r with state := .done, pending := some .ret }) ∧ At ⟨P, none, ⟨.collected (γ 0), #[]⟩ :: D, R, w0, n⟩ k .ret l (L'.eraseIdx i)))), w0, n2⟩ []
        c2 (argL (#[.func (.yield (γ 1)) #[] #[]] ++ lb)) ((γ 1, .loop r) :: (γ 0, .deferred (some [])) :: L)) : At ⟨P, none, D, R, w0, n⟩ k (.rangeFunc g ps asg body) l L := by
  obtain ⟨hg1, hg2⟩ := Prod.mk.inj hg
  refine ⟨fun a w ha hw => wpIn_rangeFunc fun fn hfn => ?_⟩
  have hgv : a.eval g = .func (.func gf) #[] lb := by rw [look_eval ha hg1, hg2]
  obtain ⟨r, hr⟩ : ∃ r : Loop, r = { state := .ready, pending := none, fn, tmps := a.tmps, params := ps, assign := asg, body := body, defers := w.heap.size } := ⟨_, rfl⟩
  have hs1 : Hs w0 ((w.heap.size + 1, .loop r) :: (w.heap.size, .deferred (some [])) :: L) ((w.alloc (.deferred (some []))).alloc (.loop r)) := by
    have := (hw.cons (.deferred (some []))).cons (.loop r)
    rwa [World.size_alloc] at this
  have hok : RecOk n l ps asg body r := by subst hr; exact ⟨rfl, rfl, rfl, rfl, rfl, ⟨ha.got, ha.size, rfl⟩⟩
  refine ⟨w.heap.size + 1, [{ target := .collected w.heap.size, args := #[] }], (w.alloc (.deferred (some []))).alloc (.loop r), { target := .fn (.func gf) lb, args := #[.func (.yield (w.heap.size + 1)) #[] #[]] }, (w.alloc (.deferred (some []))).alloc (.loop r), gf, #[.func (.yield (w.heap.size + 1)) #[] #[]] ++ lb, (w.alloc (.deferred (some []))).alloc (.loop r),
    by rw [hr]; exact run_enterLoop_outer _ _ _ _ _, ?_, fun f' hf' => trivial, ?_, fun e => (by cases e), ?_⟩
  · simp only [resolve, hgv]
    simp [go_sem]
  · simp [invoke, go_sem, he]
  · refine fen_calls ((enter hs1 hf hb hn (by simpa using hs) (h (fun i => w.heap.size + i) r hok)).mono ?_)
    rintro e w3 ⟨v, L', rfl, hs3, ⟨j, hj, hd⟩ | ⟨j, hj, hd⟩⟩
    · have hl := hs3.row j hj
      refine ⟨none, _, by have := run_endLoop (P := P) hl (by rw [hok.state]; simp); rw [hok.pending] at this; exact this, ?_⟩
      exact hd.out _ _ ⟨ha.got, ha.size, by simp [ha.defers]⟩ (hs3.gone hj)
    · have hl := hs3.row j hj
      refine ⟨some .ret, _, run_endLoop (P := P) hl (by simp), ?_⟩
      exact hd.out _ _ ⟨ha.got, ha.size, by simp [ha.defers]⟩ (hs3.gone hj)
/-- A call of yield: one round, which may return. -/
theorem ops_yieldR {P : Program} {D : List Deferred} {R : Exit → Act → World → Prop} {w0 : World} {n : Nat} {y : Nat} {args : Array Value} {r : Loop} {nc : Nat} {lc : Sl} {ps : Array Tmp} {asg body : Code}
    (hw : wantL all l o = some true) (hd : okD n o.dst = true) (hc : yieldL l o = some (y, args)) (j : Nat) (hj : L[j]? = some (y, .loop r)) (hr : RecOk nc lc ps asg body r) (hps : args.size = ps.size) (hpn : ((ps.zip args).toList.all fun p => Nat.blt p.1 nc) = true)
    (h : At ⟨P, some y, [], Exit.then (fun a w => ∃ L2 l2 j2, SlR nc [] l2 a ∧ Hs w0 L2 w ∧ L2[j2]? = some (y, .loop r) ∧
        At ⟨P, some y, [], fun e _ w => (e = .normal ∧ ∃ L3 j3, Hs w0 L3 w ∧ L3[j3]? = some (y, .loop { r with state := .busy }) ∧ Ops ⟨P, none, D, R, w0, n⟩ k all os (i + 1) (putL o.dst (.bool true) l) (L3.set j3 (y, .loop r))) ∨
          (e = .ret ∧ ∃ L3 j3, Hs w0 L3 w ∧ L3[j3]? = some (y, .loop { r with state := .busy }) ∧ Ops ⟨P, none, D, R, w0, n⟩ k all os (i + 1) (putL o.dst (.bool false) l) (L3.set j3 (y, .loop { r with state := .done, pending := some .ret }))), w0, nc⟩ [] body l2 (L2.set j2 (y, .loop { r with state := .busy })))
        (fun _ _ _ => False), w0, nc⟩ [] asg (setps (ps.zip args).toList lc) L) : Ops ⟨P, none, D, R, w0, n⟩ k all (o :: os) i l L := by
  refine ⟨fun a w ha hs => ?_⟩
  have hg := wantL_spec ha hw
  refine wpListIn_step fun K hK => ?_
  rw [if_pos hg]
  refine ⟨fun _ _ => trivial, ?_⟩
  have hl := hs.row j hj
  have hy := run_yield (P := P) (args := args) hl (by rw [hr.params]; exact hps)
  have hop : ∀ c, o.op ≠ .defer c := fun c e => by
    unfold yieldL at hc
    rw [e] at hc
    split at hc <;> cases hc
  have hrun : (execOp a.eval o).run P w = .ok (.round y r.fn ((r.params.zip args).foldl (fun tmps (t, a) => tmps.setIfInBounds t a) r.tmps) r.assign r.body) w := by
    have hc' := hc
    unfold yieldL at hc'
    split at hc' <;> try cases hc'
    rename_i hk
    rw [look_exec ha hk]
    split at hc' <;> try cases hc'
    rename_i c hop'
    split at hc' <;> try cases hc'
    rename_i x hx
    split at hc' <;> try cases hc'
    rename_i z first cap hv
    simp only [execOp, hop', resolve, hx, hv, Deferred.ofValue, Sem.run_bind, Sem.run_pure, Result.andThen_ok, invoke]
    exact hy
  rw [Oper.semAt_eq _ _ _ hop, hrun]
  refine ⟨fun e => (by cases e), ?_⟩
  rw [hr.assign, hr.body, hr.params]
  have hsl := setps_ok (ps.zip args).toList lc r.tmps hpn hr.slots
  refine roundIn_of_wpIn (F := fen none) trivial ?_
  rw [Array.foldl_toList] at hsl
  refine wpIn_mono (h.out _ _ hsl hs) ?_
  rintro e a1 w1 hq
  cases e with
  | normal =>
    obtain ⟨L2, l2, j2, ha2, hs2, hj2, hat⟩ := hq
    have hl2 := hs2.row j2 hj2
    refine ⟨_, run_beginRound hl2 hr.state, ?_⟩
    refine wpIn_mono (hat.out _ _ ha2 (hs2.turn j2 hj2 (turn_ob2 hl2))) ?_
    rintro e a3 w3 (⟨rfl, L3, j3, hs3, hj3, hops⟩ | ⟨rfl, L3, j3, hs3, hj3, hops⟩)
    · have hl3 := hs3.row j3 hj3
      refine ⟨_, _, run_endRound none hl3, ?_⟩
      have hrr : ({ ({ r with state := .busy } : Loop) with state := .ready, pending := none } : Loop) = r := by
        have h1 := hr.state; have h2 := hr.pending
        cases r; simp only at h1 h2; subst h1; subst h2; rfl
      refine hK _ _ (hops.out _ _ (ha.put hd _) ?_)
      have := hs3.turn j3 hj3 (turn_ob2 (o' := .loop r) hl3)
      simpa [hrr] using this
    · have hl3 := hs3.row j3 hj3
      refine ⟨_, _, run_endRound (some .ret) hl3, ?_⟩
      refine hK _ _ (hops.out _ _ (ha.put hd _) ?_)
      exact hs3.turn j3 hj3 (turn_ob2 hl3)
  | _ => exact hq.elim
/-- A round is over. -/
theorem done_rndR {P : Program} {w0 : World} {y nc : Nat} {r r2 : Loop} {K K2 : List Ob → Prop} (j : Nat) (hj : L[j]? = some (y, .loop { r with state := .busy })) (h : K (L.set j (y, .loop r))) :
    Done ⟨P, some y, [], fun e _ w => (e = .normal ∧ ∃ L3 j3, Hs w0 L3 w ∧ L3[j3]? = some (y, .loop { r with state := .busy }) ∧ K (L3.set j3 (y, .loop r))) ∨ (e = .ret ∧ ∃ L3 j3, Hs w0 L3 w ∧ L3[j3]? = some (y, .loop { r with state := .busy }) ∧ K2 (L3.set j3 (y, .loop r2))), w0, nc⟩ [] l L :=
  ⟨fun _ _ _ hw => .inl ⟨rfl, L, j, hw, hj, h⟩⟩
/-- A round returns. -/
theorem at_retR {P : Program} {w0 : World} {y nc : Nat} {r r1 r2 : Loop} {K K2 : List Ob → Prop} (j : Nat) (hj : L[j]? = some (y, .loop { r with state := .busy })) (h : K2 (L.set j (y, .loop r2))) :
    At ⟨P, some y, [], fun e _ w => (e = .normal ∧ ∃ L3 j3, Hs w0 L3 w ∧ L3[j3]? = some (y, .loop { r with state := .busy }) ∧ K (L3.set j3 (y, .loop r1))) ∨ (e = .ret ∧ ∃ L3 j3, Hs w0 L3 w ∧ L3[j3]? = some (y, .loop { r with state := .busy }) ∧ K2 (L3.set j3 (y, .loop r2))), w0, nc⟩ k .ret l L :=
  at_ret fun _ _ _ hw => .inr ⟨rfl, L, j, hw, hj, h⟩
end
/-- A function that holds a range over a function. -/
theorem enterM {P : Program} {g : FuncId} {args : Array Value} {fn : Func} {c : Code} {n' : Nat} {w0 w : World} {L : List Ob} {X : Value → List Ob → Prop} (hs' : Hs w0 L w)
    (hf : P.funcs[g]? = some fn) (hb : fn.body = some c) (hn : fn.ntmps = n') (hs : Nat.ble args.size n' = true)
    (h : At ⟨P, none, [], bodyPostM (fen none) 0 P fn (fun e w' => ∃ v L', e = .returned v ∧ Hs w0 L' w' ∧ X v L'), w0, n'⟩ [] c (argL args) L) :
    Calls P g args w fun e w' => ∃ v L', e = .returned v ∧ Hs w0 L' w' ∧ X v L' := by
  have hs2 : args.size ≤ n' := Nat.le_of_ble_eq_true hs
  have hC : CallsIn (fen none) 0 P g args w (fun e w' => ∃ v L', e = .returned v ∧ Hs w0 L' w' ∧ X v L') := by
    refine callsIn_of_wp_marks hf hb trivial (h.out _ _ ⟨fun p hp => ?_, by simp [hn]; omega, rfl⟩ hs') rfl
    obtain ⟨x, hx, rfl⟩ := List.mem_map.1 hp
    have := List.mem_zipIdx_iff_getElem?.1 hx
    simp only at this ⊢
    have hlt : x.2 < args.size := by simpa using (List.getElem?_eq_some_iff.1 this).1
    rw [Array.getElem?_append_left hlt]
    simpa using this
  exact callsIn_wide.1 hC
end Go.Proofs.Ytjfebdhflkndmaa

/-! Timers: where one stands at a time. -/
namespace Go.Proofs.Ytjfebdhflkndmaa
open Go Go.RowKit

set_option maxRecDepth 100000 in
theorem place_t (a b : Int) (w : World) (ha0 : 0 ≤ a) (hb0 : 0 ≤ b) (hb1 : b ≤ 1125899906842624)
 : Calls Try.prog 37 #[.int .i64 a, .int .i64 b] w fun e w' => e = .returned (.tuple #[.int .i64 (placeV a b).1, .int .i64 (placeV a b).2]) ∧ Below w.heap.size w w' := by
 refine (enterM (X := fun v _ => v = .tuple #[.int .i64 (placeV a b).1, .int .i64 (placeV a b).2]) (Hs.start w) Try.func37 rfl Try.ntmps37 (by kernel_rfl) ?_).mono (fun e w' ⟨v, L', he, hw, hx⟩ => ⟨by rw [he, hx], hw.below⟩)
 refine sq_ (ma0 [] [1] (fun γ1 => [(2, .pointer (some ⟨γ1 0, 0, none⟩)), (4, .pointer (some ⟨γ1 1, 0, none⟩)), (5, .pointer (some ⟨γ1 2, 0, none⟩))]) (fun γ1 L => bx (γ1 2) (#[.int .i64 0]) 3 :: bx (γ1 1) (#[.int .i64 0]) 3 :: bx (γ1 0) (#[.int .i64 a]) 2 :: L) (fun γ1 => ds_ (sq_ (sq_ (ao_ (qo0 1 [] [1, 2, 4, 5] [(8, .int .i64 b)] (ops_inline (g := 48) (args := #[.int .i64 b]) (by kernel_rfl) (by kernel_rfl) (by kernel_rfl) (fun args w => Try.call48 args w) Try.func48 rfl Try.ntmps48 rfl (sq_ (ma0 [] [] (fun γ3 => [(1, .pointer (some ⟨γ3 0, 0, none⟩))]) (fun γ3 L => bx (γ3 0) (#[.int .i64 b]) 2 :: L) (fun γ3 => ds_ (sq_ (qa0 [] [] [(2, .func (.func 56) #[] #[.pointer (some ⟨γ3 0, 0, none⟩)])] (ds_ (bk ([]) (.func (.func 56) #[] #[.pointer (some ⟨γ3 0, 0, none⟩)]) (on_ (ds_ (at_block (at_rangeR (gf := 56) (lb := #[.pointer (some ⟨γ3 0, 0, none⟩)]) (by kernel_rfl) (fun args w => Try.call56 args w) Try.func56 rfl Try.ntmps56 (by kernel_rfl) (fun γ6 r6 hr6 => sq_ (qa0 [] [0, 1] [(3, .int .i64 8)] (ds_ (at_block (at_loop (α := Int) [0, 1, 3] (fun lv => [(0, .func (.yield (γ6 1)) #[] #[]), (1, .pointer (some ⟨γ3 0, 0, none⟩)), (3, .int .i64 lv)]) (fun lv => [(γ6 1, .loop r6), (γ6 0, .deferred (some [])), bx (γ3 0) (#[.int .i64 b]) 2, bx (γ1 2) (#[.int .i64 0]) 3, bx (γ1 1) (#[.int .i64 0]) 3, bx (γ1 0) (#[.int .i64 a]) 2]) (fun lv => -1 ≤ lv ∧ lv ≤ 8 ∧ placeN a b (lv + 1).toNat = placeV a b) (fun lv => (lv + 1).toNat) 8 (by kernel_rfl) rfl ⟨by omega, by omega, rfl⟩ ?_)))))))))))))))))))))))
 rintro lv
 rintro ⟨h0, h8, hI⟩
 refine sq_ (sq_ ?_)
 by_cases q9 : (lv : Int) ≥ (0 : Int)
 ·
  refine qa [(1, .yes)] [0, 1, 3] [(5, .bool true)] ([(lv : Int) ≥ (0 : Int)]) (al1 q9) (ds_ (t_ (at_skip (ds_ (sq_ (at_block (sq_ (ao_ (qo 5 [(2, .go (owns 2 0 1)), (4, .fit)] [0, 1, 3] [(8, .func (.yield (γ6 1)) #[] #[]), (9, .int .i64 lv), (10, .int .i64 b), (12, .int .i64 (6 * lv))] ([Fit .i64 (6 * lv)]) (al1 (fit64 (by omega) (by omega))) (ops_opv (.int .i64 (b / 64 ^ lv.toNat)) (by kernel_rfl) (by kernel_rfl) (by kernel_rfl) (fun w => run_shr (kd := .i64) (kd' := .i64) (a := b) (n := 6 * lv) (b / 64 ^ lv.toNat) rfl (by kernel_rfl) (by kernel_rfl) (by omega) (shr_is (by omega) (by omega) hb0) w) (qo0 1 [] [0, 1, 3, 8, 9] [(14, .int .i64 (dig b lv))] (ops_yieldR (args := #[.int .i64 lv, .int .i64 (dig b lv)]) (by kernel_rfl) (by kernel_rfl) (by kernel_rfl) 0 rfl hr6 rfl (by kernel_rfl) (sq_ (qa0 [] [2, 4, 5, 11] [(6, .int .i64 lv)] (ds_ (qa0 [] [2, 4, 5, 6] [(7, .int .i64 (dig b lv))] (done_asg 0 rfl (at_block (sq_ (ao_ (qo 3 [(0, .go (owns 5 0 1)), (2, .fit)] [4, 5, 6, 7] [(12, .int .i64 a), (14, .int .i64 (6 * lv))] ([Fit .i64 (6 * lv)]) (al1 (fit64 (by omega) (by omega))) (ops_opv (.int .i64 (a / 64 ^ lv.toNat)) (by kernel_rfl) (by kernel_rfl) (by kernel_rfl) (fun w => run_shr (kd := .i64) (kd' := .i64) (a := a) (n := 6 * lv) (a / 64 ^ lv.toNat) rfl (by kernel_rfl) (by kernel_rfl) (by omega) (shr_is (by omega) (by omega) ha0) w) ?_))))))))))))))))))))))
  by_cases q17 : (dig a lv : Int) ≠ (dig b lv : Int)
  ·
   refine qo 3 [(6, .yes)] [4, 5, 6, 7] [(18, .bool true)] ([(dig a lv : Int) ≠ (dig b lv : Int)]) (al1 q17) (on_ (ds_ (t_ (sq_ (ma0 [(2, .go (owns 4 0 1)), (3, .go (owns 3 0 1))] [4, 5] (fun _ => []) (fun _ L => ((L.set 3 (bx (γ1 2) (#[.int .i64 (dig b lv)]) 3)).set 4 (bx (γ1 1) (#[.int .i64 lv]) 3))) (fun _ => ds_ (at_retR 0 rfl (qo0 1 [] [0, 1, 3] [(16, .bool true)] (on_ (ds_ (t_ (bk ([]) (.tuple #[]) (.inr ⟨0, rfl, ?_⟩)))))))))))))
   refine at_backM 0 rfl (owns 2 0 1 ++ owns 1 0 1) (.tuple #[.int .i64 lv, .int .i64 (dig b lv)]) [] (by kernel_rfl) (by kernel_rfl) al0 ?_
   exact congrArg _ (by rw [place_at hI (by omega) q17])
  ·
   refine qo 3 [(6, .no)] [4, 5, 6, 7] [(18, .bool false)] ([¬ ((dig a lv : Int) ≠ (dig b lv : Int))]) (al1 q17) (on_ (ds_ (f_ (at_skip (done_block (done_rndR 0 rfl (qo0 1 [] [0, 1, 3] [(16, .bool false)] (on_ (ds_ (f_ (at_skip (done_block (ds_ (qa [(1, .fit)] [0, 1] [(3, .int .i64 (lv - 1))] ([Fit .i64 (lv - 1)]) (al1 (fit64 (by omega) (by omega))) ?_))))))))))))))
   exact dr [0, 1, 3] (lv - 1) ⟨by omega, by omega, place_on hI (by omega) (Classical.not_not.1 q17)⟩
 ·
  refine qa [(1, .no)] [0, 1, 3] [(5, .bool false)] ([¬ ((lv : Int) ≥ (0 : Int))]) (al1 q9) (ds_ (f_ (at_leave _ rfl (done_back (by rfl) (.inl ⟨0, rfl, ?_⟩)))))
  refine done_block (ds_ (sq_ (ma0 [(2, .go (owns 3 0 1)), (3, .go (owns 2 0 1))] [4, 5] (fun _ => []) (fun _ L => (L.set 2 (bx (γ1 2) (#[.int .i64 (Int.tmod b 64)]) 3))) (fun _ => ds_ (at_backM 0 rfl (owns 2 0 1 ++ owns 1 0 1) (.tuple #[.int .i64 0, .int .i64 (Int.tmod b 64)]) [] (by kernel_rfl) (by kernel_rfl) al0 ?_)))))
  exact congrArg _ (by rw [place_end hI (by assumption) h0, dig_zero])
end Go.Proofs.Ytjfebdhflkndmaa

/-! Timers: the next one, where one stands, how much moves. -/
namespace Go.Proofs.Ytjfebdhflkndmaa
open Go Go.RowKit
theorem order_t (x y : Tim) (w : World) : Calls Try.prog 28 #[.agg #[.int .i64 x.id, .int .i64 x.due], .agg #[.int .i64 y.id, .int .i64 y.due]] w fun e w' => e = .returned (.int .i64 (ordT x y)) ∧ Below w.heap.size w w' :=
 (order_x x y w).mono fun e w' ⟨he, q, os, hw⟩ => ⟨he, below_lays hw⟩

set_option maxRecDepth 100000 in
theorem minf_t (p : Option Addr) (n cap : Nat) (ts : List Tim) (w : World)
 (hts : Sv w p ts) (hn : n = ts.length) (hb : n ≤ 1000)
 (h0 : 0 < n)
 : Calls Try.prog 27 #[.slice p n cap, .func (.func 28) #[] #[]] w fun e w' => ∃ x ∈ ts, (∀ t ∈ ts, x.due ≤ t.due) ∧ e = .returned (.agg #[.int .i64 x.id, .int .i64 x.due]) ∧ Below w.heap.size w w' := by
 refine enter (Hs.start w) Try.func27 rfl Try.ntmps27 rfl (sq_ (ma0 [] [0, 1] (fun γ1 => [(4, .pointer (some ⟨γ1 0, 0, none⟩))]) (fun γ1 L => bx (γ1 0) (#[.int .i64 0, .int .i64 0]) 33 :: L) (fun γ1 => ds_ (sq_ (sq_ (qa [(2, .no)] [0, 1, 4] [(9, .bool false)] ([¬ (((n : Nat) : Int) < (1 : Int))]) (al1 ((by omega))) (ds_ (f_ (at_skip (ds_ (sq_ ?_)))))))))))
 obtain ⟨x3, hx3⟩ := get_some (l := ts) (m := 0) (by omega)
 obtain ⟨b5, o5, rfl⟩ := hts.pos (i := 0) (by omega)
 refine ma [(1, .at b5 o5 0), (2, .go (outs b5 (o5 + 0 * 2) [.int .i64 x3.id, .int .i64 x3.due])), (4, .go (owns 0 0 2))] [0, 1, 4] (fun γ6 => [(5, .pointer (some ⟨γ6 0, 0, none⟩))]) (fun γ6 L => bx (γ6 0) (#[.int .i64 x3.id, .int .i64 x3.due]) 33 :: L) (fun γ6 => [(some ⟨b5, o5, none⟩ : Option Addr) = some ⟨b5, o5, none⟩, 0 = ((0 : Nat) : Int), 0 < n] ++ (cellsP w b5 (o5 + 0 * 2) [.int .i64 x3.id, .int .i64 x3.due])) (fun γ6 => (alA (al2 rfl (al2 rfl (al1 (by omega)))) (rd_pre (hts.get hx3) _ rfl))) (fun γ6 => ds_ (sq_ (sq_ (qa0 [] [0, 1, 4, 5] [(6, .int .i64 1)] (ds_ (at_block (at_loop (α := Nat × Tim) [0, 1, 4, 5, 6] (fun ⟨j, m⟩ => [(0, .slice (some ⟨b5, o5, none⟩) n cap), (1, .func (.func 28) #[] #[]), (4, .pointer (some ⟨γ1 0, 0, none⟩)), (5, .pointer (some ⟨γ6 0, 0, none⟩)), (6, .int .i64 ((j : Nat)))]) (fun ⟨j, m⟩ => [bx (γ6 0) (#[.int .i64 m.id, .int .i64 m.due]) 33, bx (γ1 0) (#[.int .i64 0, .int .i64 0]) 33]) (fun ⟨j, m⟩ => j ≤ n ∧ m ∈ ts ∧ ∀ t ∈ ts.take j, m.due ≤ t.due) (fun ⟨j, m⟩ => n - j) (1, x3) (by kernel_rfl) rfl ⟨by omega, List.mem_of_getElem? hx3, min_one hx3⟩ ?_)))))))
 rintro ⟨j, m⟩
 rintro ⟨hj, hm, hI⟩
 refine sq_ (sq_ ?_)
 by_cases q9 : ((j : Nat) : Int) < ((n : Nat) : Int)
 ·
  refine qa [(3, .yes)] [0, 1, 4, 5, 6] [(17, .bool true)] ([((j : Nat) : Int) < ((n : Nat) : Int)]) (al1 q9) (ds_ (t_ (at_skip (ds_ (sq_ (at_block (sq_ ?_)))))))
  obtain ⟨x12, hx12⟩ := get_some (l := ts) (m := j) (by omega)
  refine at_calm rfl (by kernel_rfl) (by kernel_rfl) ?_
  refine cm 6 [(3, .at b5 o5 j), (4, .go (outs b5 (o5 + j * 2) [.int .i64 x12.id, .int .i64 x12.due])), (5, .go (owns 0 0 2))] [0, 1, 4, 5, 6] [(20, .func (.func 28) #[] #[]), (24, .agg #[.int .i64 x12.id, .int .i64 x12.due]), (25, .agg #[.int .i64 m.id, .int .i64 m.due])] ([(some ⟨b5, o5, none⟩ : Option Addr) = some ⟨b5, o5, none⟩, ((j : Nat)) = ((j : Nat) : Int), j < n] ++ (cellsP w b5 (o5 + j * 2) [.int .i64 x12.id, .int .i64 x12.due])) (by kernel_rfl) rfl (alA (al2 rfl (al2 rfl (al1 (by omega)))) (rd_pre (hts.get hx12) _ rfl)) ?_
  refine cK (.int .i64 (ordT x12 m)) Try.call28 (fun w hw => order_t x12 m w) ?_
  by_cases q15 : (ordT x12 m : Int) < (0 : Int)
  ·
   refine cm 1 [(7, .yes)] [0, 1, 4, 5, 6] [(27, .bool true)] ([(ordT x12 m : Int) < (0 : Int)]) (by kernel_rfl) rfl (al1 q15) ?_
   refine calm_nil' ?_
   refine ds_ (t_ (ma [(2, .at b5 o5 j), (3, .go (outs b5 (o5 + j * 2) [.int .i64 x12.id, .int .i64 x12.due])), (4, .go (owns 0 0 2))] [0, 1, 4, 5, 6] (fun _ => []) (fun _ L => (L.set 0 (bx (γ6 0) (#[.int .i64 x12.id, .int .i64 x12.due]) 33))) (fun _ => [(some ⟨b5, o5, none⟩ : Option Addr) = some ⟨b5, o5, none⟩, ((j : Nat)) = ((j : Nat) : Int), j < n] ++ (cellsP w b5 (o5 + j * 2) [.int .i64 x12.id, .int .i64 x12.due])) (fun _ => (alA (al2 rfl (al2 rfl (al1 (by omega)))) (rd_pre (hts.get hx12) _ rfl))) (fun _ => done_block (ds_ (qa [(1, .fit)] [0, 1, 4, 5] [(6, .int .i64 ((j + 1 : Nat)))] ([Fit .i64 ((j + 1 : Nat))]) (al1 (fit64 (by omega) (by omega))) ?_)))))
   exact dr [0, 1, 4, 5, 6] (j + 1, x12) ⟨by omega, List.mem_of_getElem? hx12, min_new hI hx12 q15⟩
  ·
   refine cm 1 [(7, .no)] [0, 1, 4, 5, 6] [(27, .bool false)] ([¬ ((ordT x12 m : Int) < (0 : Int))]) (by kernel_rfl) rfl (al1 q15) ?_
   refine calm_nil' ?_
   refine ds_ (f_ (at_skip (done_block (ds_ (qa [(1, .fit)] [0, 1, 4, 5] [(6, .int .i64 ((j + 1 : Nat)))] ([Fit .i64 ((j + 1 : Nat))]) (al1 (fit64 (by omega) (by omega))) ?_)))))
   exact dr [0, 1, 4, 5, 6] (j + 1, m) ⟨by omega, hm, min_old hI hx12 q15⟩
 ·
  refine qa [(3, .no)] [0, 1, 4, 5, 6] [(17, .bool false)] ([¬ (((j : Nat) : Int) < ((n : Nat) : Int))]) (al1 q9) (ds_ (f_ (at_leave _ rfl (ds_ (sq_ (ma0 [(0, .go (owns 0 0 2)), (1, .go (owns 1 0 2))] [4] (fun _ => []) (fun _ L => (L.set 1 (bx (γ1 0) (#[.int .i64 m.id, .int .i64 m.due]) 33))) (fun _ => ds_ (rt (owns 1 0 2) (.agg #[.int .i64 m.id, .int .i64 m.due]) ?_))))))))
  exact fun w' hw => ⟨m, hm, by rw [List.take_of_length_le (by omega)] at hI; exact hI, rfl, hw.below⟩

set_option maxRecDepth 100000 in
theorem next_t (now : Int) (p : Option Addr) (n cap : Nat) (ts : List Tim) (w : World)
 (hts : Sv w p ts) (hn : n = ts.length) (hb : n ≤ 1000)
 : Calls Try.prog 9 #[.agg #[.int .i64 now, .slice p n cap]] w fun e w' => e = .returned (nextV now ts) ∧ Below w.heap.size w w' := by
 refine enter (Hs.start w) Try.func9 rfl Try.ntmps9 rfl (sq_ (ma0 [] [] (fun γ1 => [(1, .pointer (some ⟨γ1 0, 0, none⟩))]) (fun γ1 L => bx (γ1 0) (#[.int .i64 now, .slice p n cap]) 24 :: L) (fun γ1 => ds_ (sq_ (sq_ (ao_ (qo0 1 [(0, .go (owns 0 0 2))] [1] [(4, .agg #[.int .i64 now, .slice p n cap])] ?_)))))))
 rcases q3 : wheelB now ts with _ | _
 ·
  refine cD (.int .i64 250) Try.call10 (fun w hw => by have := wcheck_t now p n cap ts w (hts.kept hw.below) hn (by omega); rw [q3] at this; exact this) (qo0 7 [] [1] [(12, .bool true)] (on_ (ds_ (t_ (sq_ (qa0 [] [] [(2, .int .i64 0), (3, .bool false)] (ds_ (rt ([]) (.tuple #[.int .i64 0, .bool false]) ?_))))))))
  exact fun w' hw => ⟨by rw [nextV_bad q3], hw.below⟩
 ·
  refine cD (.int .i64 0) Try.call10 (fun w hw => by have := wcheck_t now p n cap ts w (hts.kept hw.below) hn (by omega); rw [q3] at this; exact this) ?_
  by_cases q7 : ((n : Nat) : Int) = (0 : Int)
  ·
   refine qo 7 [(5, .go (owns 0 1 1)), (7, .yes)] [1] [(12, .bool true)] ([((n : Nat) : Int) = (0 : Int)]) (al1 q7) (on_ (ds_ (t_ (sq_ (qa0 [] [] [(2, .int .i64 0), (3, .bool false)] (ds_ (rt ([]) (.tuple #[.int .i64 0, .bool false]) ?_)))))))
   exact fun w' hw => ⟨by rw [nextV_nil (by omega)], hw.below⟩
  ·
   refine qo 7 [(5, .go (owns 0 1 1)), (7, .no)] [1] [(12, .bool false)] ([¬ (((n : Nat) : Int) = (0 : Int))]) (al1 q7) (on_ (ds_ (f_ (at_skip (ds_ (sq_ (ao_ (qo0 2 [(1, .go (owns 0 1 1))] [] [(14, .slice p n cap)] (cP (fun v L' => ∃ x : Tim, v = .agg #[.int .i64 x.id, .int .i64 x.due] ∧ L' = [bx (γ1 0) (#[.int .i64 now, .slice p n cap]) 24] ∧ x ∈ ts ∧ ∀ t ∈ ts, x.due ≤ t.due) Try.call27 (fun w hw => (minf_t p n cap ts w (hts.kept hw.below) hn (by omega) (by omega)).mono (fun e w' ⟨x, hm, hI, he, h3⟩ => ⟨_, _, he, ⟨x, rfl, rfl, hm, hI⟩, hw.kept h3⟩)) ?_)))))))))
   rintro v12 L12 ⟨x12, rfl, rfl, hm12, hI12⟩
   refine qo0 3 [] [] [(2, .int .i64 x12.due), (3, .bool true)] (on_ (ds_ (rt ([]) (.tuple #[.int .i64 x12.due, .bool true]) ?_)))
   exact fun w' hw => ⟨by rw [nextV_is q3 hm12 hI12], hw.below⟩

set_option maxRecDepth 100000 in
theorem passes_t (now : Int) (p : Option Addr) (n cap : Nat) (ts : List Tim) (to : Int) (w : World)
 (hts : Sv w p ts) (hn : n = ts.length) (hb : n ≤ 1000)
 : Calls Try.prog 30 #[.agg #[.int .i64 now, .slice p n cap], .int .i64 to] w fun e w' => e = .returned (.int .i64 (passE now ts to)) ∧ Below w.heap.size w w' := by
 refine enter (Hs.start w) Try.func30 rfl Try.ntmps30 rfl (sq_ (ma0 [] [1] (fun γ1 => [(2, .pointer (some ⟨γ1 0, 0, none⟩))]) (fun γ1 L => bx (γ1 0) (#[.int .i64 now, .slice p n cap]) 24 :: L) (fun γ1 => ds_ (sq_ (sq_ (ao_ (qo0 1 [(0, .go (owns 0 0 2))] [1, 2] [(6, .agg #[.int .i64 now, .slice p n cap])] ?_)))))))
 rcases q3 : wheelB now ts with _ | _
 ·
  refine cD (.int .i64 250) Try.call10 (fun w hw => by have := wcheck_t now p n cap ts w (hts.kept hw.below) hn (by omega); rw [q3] at this; exact this) (qo0 1 [] [1, 2] [(5, .int .i64 250)] (on_ (ds_ (sq_ (qa0 [] [1, 2, 5] [(9, .bool true)] (ds_ (t_ (sq_ (qa0 [] [] [(4, .int .i64 250)] (ds_ (rt ([]) (.int .i64 250) ?_)))))))))))
  exact fun w' hw => ⟨by rw [passE_bad q3], hw.below⟩
 ·
  refine cD (.int .i64 0) Try.call10 (fun w hw => by have := wcheck_t now p n cap ts w (hts.kept hw.below) hn (by omega); rw [q3] at this; exact this) (qo0 1 [] [1, 2] [(5, .int .i64 0)] (on_ (ds_ (sq_ (qa0 [] [1, 2, 5] [(9, .bool false)] (ds_ (f_ (at_skip (ds_ (sq_ (sq_ ?_)))))))))))
  by_cases q10 : (to : Int) < (now : Int)
  ·
   refine qa [(2, .go (owns 0 0 1)), (3, .yes)] [] [(18, .bool true)] ([(to : Int) < (now : Int)]) (al1 q10) (ds_ (t_ (sq_ (qa0 [] [] [(4, .int .i64 2)] (ds_ (rt ([]) (.int .i64 2) ?_))))))
   exact fun w' hw => ⟨by rw [passE_arg q3 (by omega)], hw.below⟩
  ·
   by_cases q14 : (to : Int) > (1125899906842624 : Int)
   ·
    refine qa [(2, .go (owns 0 0 1)), (3, .no), (6, .yes)] [] [(18, .bool true)] ([¬ ((to : Int) < (now : Int))] ++ ([(to : Int) > (1125899906842624 : Int)])) (alA (al1 q10) (al1 q14)) (ds_ (t_ (sq_ (qa0 [] [] [(4, .int .i64 2)] (ds_ (rt ([]) (.int .i64 2) ?_))))))
    exact fun w' hw => ⟨by rw [passE_arg q3 (by omega)], hw.below⟩
   ·
    refine qa [(2, .go (owns 0 0 1)), (3, .no), (6, .no)] [] [(18, .bool false)] ([¬ ((to : Int) < (now : Int))] ++ ([¬ ((to : Int) > (1125899906842624 : Int))])) (alA (al1 q10) (al1 q14)) (ds_ (f_ (at_skip (ds_ (sq_ (qa0 [] [] [(4, .int .i64 0)] (ds_ (rt ([]) (.int .i64 0) ?_))))))))
    exact fun w' hw => ⟨by rw [passE_ok q3 (by omega)], hw.below⟩

set_option maxRecDepth 100000 in
theorem wplace_t (now : Int) (p : Option Addr) (n cap : Nat) (ts : List Tim) (k : Int) (w : World)
 (hts : Sv w p ts) (hn : n = ts.length) (hb : n ≤ 1000)
 : Calls Try.prog 21 #[.agg #[.int .i64 now, .slice p n cap], .int .i64 k] w fun e w' => e = .returned (plV now (atO now ts k)) ∧ Below w.heap.size w w' := by
 refine enter (Hs.start w) Try.func21 rfl Try.ntmps21 rfl (sq_ (ma0 [] [1] (fun γ1 => [(2, .pointer (some ⟨γ1 0, 0, none⟩))]) (fun γ1 L => bx (γ1 0) (#[.int .i64 now, .slice p n cap]) 24 :: L) (fun γ1 => ds_ (sq_ (ao_ (qo0 2 [(0, .go (owns 0 0 2))] [2] [(12, .agg #[.int .i64 now, .slice p n cap]), (13, .int .i64 k)] ?_))))))
 rcases q3 : wheelB now ts with _ | _
 ·
  refine cD (.tuple #[.int .i64 0, .bool false]) Try.call15 (fun w hw => by have := at_t now p n cap ts k w (hts.kept hw.below) hn (by omega); rw [atO_bad q3] at this; exact this) (qo0 5 [] [2] [(7, .int .i64 0), (8, .bool false)] (on_ (ds_ (sq_ (sq_ (qa0 [] [2, 7] [(18, .bool true)] (ds_ (t_ (sq_ (qa0 [] [] [(4, .int .i64 0), (5, .int .i64 0), (6, .bool false)] (ds_ (rt ([]) (.tuple #[.int .i64 0, .int .i64 0, .bool false]) ?_))))))))))))
  exact fun w' hw => ⟨by rw [plO_bad q3]; rfl, hw.below⟩
 ·
  rcases hg7 : getK Tim.id ts k with _ | y7
  ·
   refine cD (.tuple #[.int .i64 0, .bool false]) Try.call15 (fun w hw => by have := at_t now p n cap ts k w (hts.kept hw.below) hn (by omega); rw [atO_ok q3, hg7] at this; exact this) (qo0 5 [] [2] [(7, .int .i64 0), (8, .bool false)] (on_ (ds_ (sq_ (sq_ (qa0 [] [2, 7] [(18, .bool true)] (ds_ (t_ (sq_ (qa0 [] [] [(4, .int .i64 0), (5, .int .i64 0), (6, .bool false)] (ds_ (rt ([]) (.tuple #[.int .i64 0, .int .i64 0, .bool false]) ?_))))))))))))
   exact fun w' hw => ⟨by rw [plO_none q3 hg7]; rfl, hw.below⟩
  ·
   have hymy7 := (wheel_iff.1 q3).tm y7 (getK_mem hg7).1
   refine cD (.tuple #[.int .i64 y7.due, .bool true]) Try.call15 (fun w hw => by have := at_t now p n cap ts k w (hts.kept hw.below) hn (by omega); rw [atO_ok q3, hg7] at this; exact this) (qo0 5 [] [2] [(7, .int .i64 y7.due), (8, .bool true)] (on_ (ds_ (sq_ (sq_ (qa0 [] [2, 7] [(18, .bool false)] (ds_ (f_ (at_skip (ds_ (sq_ ?_)))))))))))
   have hn0 := (wheel_iff.1 q3).n0
   refine ao_ (qo0 3 [(1, .go (owns 0 0 1))] [] [(21, .int .i64 now), (22, .int .i64 y7.due)] (cD (.tuple #[.int .i64 ((placeV now y7.due).1), .int .i64 ((placeV now y7.due).2)]) Try.call37 (fun w hw => place_t now y7.due w (by omega) (by omega) (by omega)) (qo0 5 [] [] [(9, .int .i64 ((placeV now y7.due).1)), (10, .int .i64 ((placeV now y7.due).2))] (on_ (ds_ (sq_ (qa0 [] [] [(4, .int .i64 ((placeV now y7.due).1)), (5, .int .i64 ((placeV now y7.due).2)), (6, .bool true)] (ds_ (rt ([]) (.tuple #[.int .i64 ((placeV now y7.due).1), .int .i64 ((placeV now y7.due).2), .bool true]) ?_)))))))))
   exact fun w' hw => ⟨by rw [plO_some q3 hg7]; rfl, hw.below⟩

set_option maxRecDepth 100000 in
theorem slot_t (now : Int) (p : Option Addr) (n cap : Nat) (ts : List Tim) (lv sl : Int) (w : World)
 (hts : Sv w p ts) (hn : n = ts.length) (hb : n ≤ 1000)
 : Calls Try.prog 23 #[.agg #[.int .i64 now, .slice p n cap], .int .i64 lv, .int .i64 sl] w fun e w' => ∃ q m capq Y, e = .returned (.slice q m capq) ∧ SlO 3 Y q m capq (if wheelB now ts = true then slotV now ts lv sl else []) ∧ m ≤ 1000 ∧ Below w.heap.size w w' ∧ Hs w Y w' := by
 refine enter (Hs.start w) Try.func23 rfl Try.ntmps23 rfl (sq_ (ma0 [] [] (fun γ1 => [(3, .pointer (some ⟨γ1 0, 0, none⟩)), (4, .pointer (some ⟨γ1 1, 0, none⟩)), (5, .pointer (some ⟨γ1 2, 0, none⟩))]) (fun γ1 L => bx (γ1 2) (#[.int .i64 sl]) 3 :: bx (γ1 1) (#[.int .i64 lv]) 3 :: bx (γ1 0) (#[.int .i64 now, .slice p n cap]) 24 :: L) (fun γ1 => ds_ (sq_ (sq_ (ao_ (qo0 1 [(0, .go (owns 2 0 2))] [3, 4, 5] [(11, .agg #[.int .i64 now, .slice p n cap])] ?_)))))))
 rcases q3 : wheelB now ts with _ | _
 ·
  refine cD (.int .i64 250) Try.call10 (fun w hw => by have := wcheck_t now p n cap ts w (hts.kept hw.below) hn (by omega); rw [q3] at this; exact this) (qo0 1 [] [3, 4, 5] [(13, .bool true)] (on_ (ds_ (t_ (sq_ (qa0 [] [] [(6, .slice none 0 0)] (ds_ (rt ([]) (.slice none 0 0) ?_))))))))
  exact fun w' hw => by rw [if_neg (by decide)]; exact ⟨none, 0, 0, [], rfl, SlO.nil, by omega, hw.below, hw.sub (List.nil_sublist _)⟩
 ·
  refine cD (.int .i64 0) Try.call10 (fun w hw => by have := wcheck_t now p n cap ts w (hts.kept hw.below) hn (by omega); rw [q3] at this; exact this) (qo0 1 [] [3, 4, 5] [(13, .bool false)] (on_ (ds_ (f_ (at_skip (ds_ (sq_ (qa0 [] [3] [(7, .func (.func 39) #[] #[.pointer (some ⟨γ1 0, 0, none⟩), .pointer (some ⟨γ1 1, 0, none⟩), .pointer (some ⟨γ1 2, 0, none⟩)])] (ds_ (sq_ (qa0 [] [3, 7] [(8, .slice none 0 0)] (ds_ (sq_ (sq_ (qa0 [(1, .go (owns 2 1 1))] [7, 8] [(16, .slice p n cap), (17, .int .i64 ((n : Nat))), (18, .int .i64 0)] (ds_ (at_block ?_)))))))))))))))))
  have hgw := wheel_iff.1 q3
  have hn0 := hgw.n0
  refine at_loop (α := Nat × List Ob × Option Addr × Nat × Nat) [7, 8, 16, 17, 18] (fun ⟨j, Yo, po, nu, co⟩ => [(7, .func (.func 39) #[] #[.pointer (some ⟨γ1 0, 0, none⟩), .pointer (some ⟨γ1 1, 0, none⟩), .pointer (some ⟨γ1 2, 0, none⟩)]), (8, .slice po nu co), (16, .slice p n cap), (17, .int .i64 ((n : Nat))), (18, .int .i64 ((j : Nat)))]) (fun ⟨j, Yo, po, nu, co⟩ => bx (γ1 2) (#[.int .i64 sl]) 3 :: bx (γ1 1) (#[.int .i64 lv]) 3 :: bx (γ1 0) (#[.int .i64 now, .slice p n cap]) 24 :: (Yo ++ [])) (fun ⟨j, Yo, po, nu, co⟩ => j ≤ n ∧ nu ≤ j ∧ SlO 3 Yo po nu co ((ts.take j).flatMap (slF now lv sl))) (fun ⟨j, Yo, po, nu, co⟩ => n - j) (0, [], none, 0, 0) (by kernel_rfl) rfl ⟨Nat.zero_le _, Nat.le_refl _, by rw [List.take_zero]; exact SlO.nil⟩ ?_
  rintro ⟨j, Yo, po, nu, co⟩
  rintro ⟨hj, hnu, hO⟩
  refine sq_ ?_
  by_cases q11 : ((j : Nat) : Int) < ((n : Nat) : Int)
  ·
   refine qa [(0, .yes)] [7, 8, 16, 17, 18] [(19, .bool true)] ([((j : Nat) : Int) < ((n : Nat) : Int)]) (al1 q11) (ds_ (sq_ (t_ (at_skip (ds_ (sq_ (at_block (sq_ ?_))))))))
   obtain ⟨b14, o14, rfl⟩ := hts.pos (i := j) (by omega)
   obtain ⟨x16, hx16⟩ := get_some (l := ts) (m := j) (by omega)
   refine ma [(0, .at b14 o14 j), (1, .go (outs b14 (o14 + j * 2) [.int .i64 x16.id, .int .i64 x16.due])), (3, .go (owns 0 0 2))] [7, 8, 16, 17, 18] (fun γ17 => [(10, .pointer (some ⟨γ17 0, 0, none⟩))]) (fun γ17 L => bx (γ17 0) (#[.int .i64 x16.id, .int .i64 x16.due]) 33 :: L) (fun γ17 => [(some ⟨b14, o14, none⟩ : Option Addr) = some ⟨b14, o14, none⟩, ((j : Nat)) = ((j : Nat) : Int), j < n] ++ (cellsP w b14 (o14 + j * 2) [.int .i64 x16.id, .int .i64 x16.due])) (fun γ17 => (alA (al2 rfl (al2 rfl (al1 (by omega)))) (rd_pre (hts.get hx16) _ rfl))) (fun γ17 => ds_ (sq_ ?_))
   have htm := hgw.tm x16 (List.mem_of_getElem? hx16)
   refine ao_ (qo0 2 [(1, .go (owns 0 0 2))] [7, 8, 10, 16, 17, 18] [(22, .func (.func 39) #[] #[.pointer (some ⟨γ1 0, 0, none⟩), .pointer (some ⟨γ1 1, 0, none⟩), .pointer (some ⟨γ1 2, 0, none⟩)]), (23, .agg #[.int .i64 x16.id, .int .i64 x16.due])] (ops_inline (g := 39) (args := #[.agg #[.int .i64 x16.id, .int .i64 x16.due], .pointer (some ⟨γ1 0, 0, none⟩), .pointer (some ⟨γ1 1, 0, none⟩), .pointer (some ⟨γ1 2, 0, none⟩)]) (by kernel_rfl) (by kernel_rfl) (by kernel_rfl) (fun args w => Try.call39 args w) Try.func39 rfl Try.ntmps39 rfl (sq_ (ma0 [] [1, 2, 3] (fun γ19 => [(4, .pointer (some ⟨γ19 0, 0, none⟩))]) (fun γ19 L => bx (γ19 0) (#[.int .i64 x16.id, .int .i64 x16.due]) 33 :: L) (fun γ19 => ds_ (sq_ (ao_ (qo0 4 [(1, .go (owns 4 0 1)), (3, .go (owns 0 1 1))] [2, 3] [(10, .int .i64 now), (12, .int .i64 x16.due)] (cD (.tuple #[.int .i64 ((placeV now x16.due).1), .int .i64 ((placeV now x16.due).2)]) Try.call37 (fun w hw => place_t now x16.due w (by omega) (by omega) (by omega)) (qo0 5 [] [2, 3] [(6, .int .i64 ((placeV now x16.due).1)), (7, .int .i64 ((placeV now x16.due).2))] (on_ (ds_ (sq_ ?_)))))))))))))
   by_cases q23 : ((placeV now x16.due).1 : Int) = (lv : Int)
   ·
    by_cases q25 : ((placeV now x16.due).2 : Int) = (sl : Int)
    ·
     refine qa [(1, .go (owns 3 0 1)), (2, .yes), (5, .go (owns 2 0 1)), (6, .yes)] [] [(5, .bool true)] ([((placeV now x16.due).1 : Int) = (lv : Int)] ++ ([((placeV now x16.due).2 : Int) = (sl : Int)])) (alA (al1 q23) (al1 q25)) (ds_ (bk ([]) (.bool true) (on_ (ds_ (t_ (ao_ (mo0 4 [(2, .go (owns 1 0 1))] [7, 16, 17, 18] (fun γ28 => [(25, .slice po nu co), (28, .slice (some ⟨γ28 0, 0, none⟩) 1 1)]) (fun γ28 L => bx (γ28 0) (#[.int .i64 x16.id]) 3 :: L) (fun γ28 => ops_append (α := Int) [bx (γ28 0) (#[.int .i64 x16.id]) 3, bx (γ19 0) (#[.int .i64 x16.id, .int .i64 x16.due]) 33, bx (γ17 0) (#[.int .i64 x16.id, .int .i64 x16.due]) 33, bx (γ1 2) (#[.int .i64 sl]) 3, bx (γ1 1) (#[.int .i64 lv]) 3, bx (γ1 0) (#[.int .i64 now, .slice (some ⟨b14, o14, none⟩) n cap]) 24] Yo ([]) (.refl _) rfl (by kernel_rfl) (by kernel_rfl) (p := po) (n := nu) (cap := co) (m := 1) (yv := .slice (some ⟨γ28 0, 0, none⟩) 1 1) (by kernel_rfl) (by kernel_rfl) (T := 3) (by_ := 8) (by kernel_rfl) (((ts.take j).flatMap (slF now lv sl))) ([x16.id]) hO (fun w hw => src_svn Try.underlying45 (sv_row (hw.row 0 rfl) (by rfl)) (by rfl)) (by rfl) (by have hmx : maxLen = 9223372036854775807 := rfl; omega) (by have hmx : maxLen = 9223372036854775807 := rfl; omega) (fun Y29 p29 cap29 hO29 => qo0 1 [] [7, 16, 17, 18] [(8, .slice p29 (nu + 1) cap29)] (on_ (done_block (ds_ (qa [(0, .fit)] [7, 8, 16, 17] [(18, .int .i64 ((j + 1 : Nat)))] ([Fit .i64 ((j + 1 : Nat))]) (al1 (fit64 (by omega) (by omega))) (Done.drop (L' := bx (γ1 2) (#[.int .i64 sl]) 3 :: bx (γ1 1) (#[.int .i64 lv]) 3 :: bx (γ1 0) (#[.int .i64 now, .slice (some ⟨b14, o14, none⟩) n cap]) 24 :: (Y29 ++ [])) ?_ (List.Sublist.cons _ (List.Sublist.cons _ (List.Sublist.cons _ (List.Sublist.cons_cons _ (List.Sublist.cons_cons _ (List.Sublist.cons_cons _ (List.Sublist.refl _)))))))))))))))))))))
     exact dr [7, 8, 16, 17, 18] (j + 1, Y29, p29, (nu + 1), cap29) ⟨by omega, by omega, by rw [gath_onT hx16 (slF_yes q23 q25)]; exact hO29⟩
    ·
     refine qa [(1, .go (owns 3 0 1)), (2, .yes), (5, .go (owns 2 0 1)), (6, .no)] [] [(5, .bool false)] ([((placeV now x16.due).1 : Int) = (lv : Int)] ++ ([¬ (((placeV now x16.due).2 : Int) = (sl : Int))])) (alA (al1 q23) (al1 q25)) (ds_ (bk ([]) (.bool false) (on_ (ds_ (f_ (at_skip (done_block (ds_ (qa [(0, .fit)] [7, 8, 16, 17] [(18, .int .i64 ((j + 1 : Nat)))] ([Fit .i64 ((j + 1 : Nat))]) (al1 (fit64 (by omega) (by omega))) (Done.drop (L' := bx (γ1 2) (#[.int .i64 sl]) 3 :: bx (γ1 1) (#[.int .i64 lv]) 3 :: bx (γ1 0) (#[.int .i64 now, .slice (some ⟨b14, o14, none⟩) n cap]) 24 :: (Yo ++ [])) ?_ (List.Sublist.cons _ (List.Sublist.cons _ (List.Sublist.cons_cons _ (List.Sublist.cons_cons _ (List.Sublist.cons_cons _ (List.Sublist.refl _))))))))))))))))
     exact dr [7, 8, 16, 17, 18] (j + 1, Yo, po, nu, co) ⟨by omega, by omega, by rw [gath_onT hx16 (slF_no2 q25), List.append_nil]; exact hO⟩
   ·
    refine qa [(1, .go (owns 3 0 1)), (2, .no)] [] [(5, .bool false)] ([¬ (((placeV now x16.due).1 : Int) = (lv : Int))]) (al1 q23) (ds_ (bk ([]) (.bool false) (on_ (ds_ (f_ (at_skip (done_block (ds_ (qa [(0, .fit)] [7, 8, 16, 17] [(18, .int .i64 ((j + 1 : Nat)))] ([Fit .i64 ((j + 1 : Nat))]) (al1 (fit64 (by omega) (by omega))) (Done.drop (L' := bx (γ1 2) (#[.int .i64 sl]) 3 :: bx (γ1 1) (#[.int .i64 lv]) 3 :: bx (γ1 0) (#[.int .i64 now, .slice (some ⟨b14, o14, none⟩) n cap]) 24 :: (Yo ++ [])) ?_ (List.Sublist.cons _ (List.Sublist.cons _ (List.Sublist.cons_cons _ (List.Sublist.cons_cons _ (List.Sublist.cons_cons _ (List.Sublist.refl _))))))))))))))))
    exact dr [7, 8, 16, 17, 18] (j + 1, Yo, po, nu, co) ⟨by omega, by omega, by rw [gath_onT hx16 (slF_no1 q23), List.append_nil]; exact hO⟩
  ·
   refine qa [(0, .no)] [7, 8, 16, 17, 18] [(19, .bool false)] ([¬ (((j : Nat) : Int) < ((n : Nat) : Int))]) (al1 q11) (ds_ (sq_ (f_ (at_leave _ rfl (ds_ (sq_ (qa0 [] [] [(6, .slice po nu co)] (ds_ (rt ([]) (.slice po nu co) ?_)))))))))
   exact fun w' hw => by rw [List.take_of_length_le (by omega)] at hO; rw [if_pos rfl]; exact ⟨_, _, _, _, rfl, hO, by omega, hw.below, ((hw.tailN 3).sub (List.sublist_append_left Yo ([])))⟩

end Go.Proofs.Ytjfebdhflkndmaa

/-! The library's sort of timers: its bodies, as the kit's command lays them (written out). -/
namespace Go.Proofs.Ytjfebdhflkndmaa
open Go Go.Shelf Go.Proofs
def sortTL_ren : Go.Shelf.Ren := ⟨fun | 6 => 43 | 15 => 52 | 14 => 51 | 28 => 65 | 29 => 66 | 20 => 57 | 21 => 58 | 22 => 59 | 23 => 60 | 24 => 61 | 25 => 62 | 26 => 63 | 27 => 64 | 46 => 68 | 47 => 69 | 48 => 70 | 49 => 71 | 50 => 72 | 57 => 73 | n => n, fun | 22 => 22 | 24 => 33 | 25 => 60 | 3 => 3 | 39 => 84 | 0 => 0 | 53 => 96 | 55 => 98 | 4 => 4 | 46 => 90 | 45 => 89 | 50 => 64 | 5 => 5 | 9 => 9 | 66 => 100 | 70 => 104 | 76 => 106 | 77 => 48 | n => n, fun | n => n⟩
theorem sortTL : Go.Proofs.SlLaysF0.n6 Try.prog sortTL_ren where
  mixed := by kernel_rfl
  f6 := ⟨"slices.SortFunc[[]mainsheet/api.Timer,mainsheet/api.Timer]", by decide, Try.func43.trans (congrArg some (by kernel_rfl))⟩
  f14 := ⟨"slices.pdqsortCmpFunc[mainsheet/api.Timer]", by decide, Try.func51.trans (congrArg some (by kernel_rfl))⟩
  f15 := Try.func52.trans (congrArg some (by kernel_rfl))
  f20 := ⟨"slices.insertionSortCmpFunc[mainsheet/api.Timer]", by decide, Try.func57.trans (congrArg some (by kernel_rfl))⟩
  f21 := ⟨"slices.heapSortCmpFunc[mainsheet/api.Timer]", by decide, Try.func58.trans (congrArg some (by kernel_rfl))⟩
  f22 := ⟨"slices.breakPatternsCmpFunc[mainsheet/api.Timer]", by decide, Try.func59.trans (congrArg some (by kernel_rfl))⟩
  f23 := ⟨"slices.choosePivotCmpFunc[mainsheet/api.Timer]", by decide, Try.func60.trans (congrArg some (by kernel_rfl))⟩
  f24 := ⟨"slices.reverseRangeCmpFunc[mainsheet/api.Timer]", by decide, Try.func61.trans (congrArg some (by kernel_rfl))⟩
  f25 := ⟨"slices.partialInsertionSortCmpFunc[mainsheet/api.Timer]", by decide, Try.func62.trans (congrArg some (by kernel_rfl))⟩
  f26 := ⟨"slices.partitionEqualCmpFunc[mainsheet/api.Timer]", by decide, Try.func63.trans (congrArg some (by kernel_rfl))⟩
  f27 := ⟨"slices.partitionCmpFunc[mainsheet/api.Timer]", by decide, Try.func64.trans (congrArg some (by kernel_rfl))⟩
  f28 := Try.func65.trans (congrArg some (by kernel_rfl))
  f29 := Try.func66.trans (congrArg some (by kernel_rfl))
  f46 := ⟨"slices.siftDownCmpFunc[mainsheet/api.Timer]", by decide, Try.func68.trans (congrArg some (by kernel_rfl))⟩
  f47 := Try.func69.trans (congrArg some (by kernel_rfl))
  f48 := Try.func70.trans (congrArg some (by kernel_rfl))
  f49 := ⟨"slices.medianAdjacentCmpFunc[mainsheet/api.Timer]", by decide, Try.func71.trans (congrArg some (by kernel_rfl))⟩
  f50 := ⟨"slices.medianCmpFunc[mainsheet/api.Timer]", by decide, Try.func72.trans (congrArg some (by kernel_rfl))⟩
  f57 := ⟨"slices.order2CmpFunc[mainsheet/api.Timer]", by decide, Try.func73.trans (congrArg some (by kernel_rfl))⟩
  t0 := Try.underlying0
  a0 := Try.isAgg0
  z0 := Try.sizeOf0
  v0 := Try.zeroValue0
  t3 := Try.underlying3
  a3 := Try.isAgg3
  z3 := Try.sizeOf3
  v3 := Try.zeroValue3
  t4 := Try.underlying4
  a4 := Try.isAgg4
  z4 := Try.sizeOf4
  v4 := Try.zeroValue4
  t5 := Try.underlying5
  a5 := Try.isAgg5
  z5 := Try.sizeOf5
  v5 := Try.zeroValue5
  t9 := Try.underlying9
  a9 := Try.isAgg9
  z9 := Try.sizeOf9
  v9 := Try.zeroValue9
  t22 := Try.underlying22
  a22 := Try.isAgg22
  z22 := Try.sizeOf22
  v22 := Try.zeroValue22
  t25 := Try.underlying60
  a25 := Try.isAgg60
  z25 := Try.sizeOf60
  v25 := Try.zeroValue60
  t39 := Try.underlying84
  a39 := Try.isAgg84
  z39 := Try.sizeOf84
  v39 := Try.zeroValue84
  t45 := Try.underlying89
  a45 := Try.isAgg89
  z45 := Try.sizeOf89
  v45 := Try.zeroValue89
  t46 := Try.underlying90
  a46 := Try.isAgg90
  z46 := Try.sizeOf90
  v46 := Try.zeroValue90
  t50 := Try.underlying64
  a50 := Try.isAgg64
  z50 := Try.sizeOf64
  v50 := Try.zeroValue64
  t53 := Try.underlying96
  a53 := Try.isAgg96
  z53 := Try.sizeOf96
  v53 := Try.zeroValue96
  t55 := Try.underlying98
  a55 := Try.isAgg98
  z55 := Try.sizeOf98
  v55 := Try.zeroValue98
  t66 := Try.underlying100
  a66 := Try.isAgg100
  z66 := Try.sizeOf100
  v66 := Try.zeroValue100
  t70 := Try.underlying104
  a70 := Try.isAgg104
  z70 := Try.sizeOf104
  v70 := Try.zeroValue104
  t76 := Try.underlying106
  a76 := Try.isAgg106
  z76 := Try.sizeOf106
  v76 := Try.zeroValue106
  t77 := Try.underlying48
  a77 := Try.isAgg48
  z77 := Try.sizeOf48
  v77 := Try.zeroValue48
end Go.Proofs.Ytjfebdhflkndmaa

/-! Timers in the order in which they fire; plain, and the library's sort of them. -/
namespace Go.Proofs.Ytjfebdhflkndmaa
open Go Go.RowKit Go.Shelf Go.Proofs

theorem ltOf_ord (x y : Tim) : ltOf ordT x y = decide (x.due < y.due ∨ (x.due = y.due ∧ x.id < y.id)) := by
  unfold ltOf
  exact decide_eq_decide.2 ord_neg
theorem swoT : Go.Sort.SWO (ltOf ordT) where
  irrefl x := by rw [ltOf_ord]; simp
  trans x y z h1 h2 := by rw [ltOf_ord] at *; simp only [decide_eq_true_eq] at *; omega
  ntrans x y z h1 h2 := by rw [ltOf_ord] at *; simp only [decide_eq_false_iff_not] at *; omega
theorem totT (x y : Tim) (h1 : ltOf ordT x y = false) (h2 : ltOf ordT y x = false) : x = y := by
  rw [ltOf_ord] at *
  simp only [decide_eq_false_iff_not] at h1 h2
  obtain ⟨a, b⟩ := x
  obtain ⟨c, d⟩ := y
  simp only [Tim.mk.injEq] at *
  omega
/-- Timers in order. -/
def sortT (l : List Tim) : List Tim := l.mergeSort fun x y => !ltOf ordT y x
theorem sortFunc_t {w0 w : World} {X Y : List Ob} {p : Option Addr} {n cap : Nat} {l : List Tim} (hH : Hs w0 (Y ++ X) w) (hS : SlO 33 Y p n cap l) (hb : n ≤ 1000) :
    Calls Try.prog 43 #[.slice p n cap, .func (.func 28) #[] #[]] w fun e w' => e = .returned (.tuple #[]) ∧ ∃ Y', SlO 33 Y' p n cap (sortT l) ∧ Hs w0 (Y' ++ X) w' :=
  sort_own (α := Tim) sortTL Try.isAgg33 Try.sizeOf33 ordT swoT totT 28 #[] (fun args w => Try.call28 args w) hH hS hb (fun _ _ _ _ _ x y => order_x x y _)
end Go.Proofs.Ytjfebdhflkndmaa

/-! Timers: time passes; plain. -/
namespace Go.Proofs.Ytjfebdhflkndmaa
open Go Go.RowKit Go.Proofs

def leF (to : Int) (t : Tim) : List Tim := if t.due > to then [t] else []
def duF (to : Int) (t : Tim) : List Tim := if t.due > to then [] else [t]
def leL (ts : List Tim) (to : Int) : List Tim := ts.flatMap (leF to)
def duL (ts : List Tim) (to : Int) : List Tim := ts.flatMap (duF to)
section
variable {now to : Int} {ts : List Tim} {x t : Tim} {j : Nat}
theorem leF_yes (h : x.due > to) : leF to x = [⟨x.id, x.due⟩] := if_pos h
theorem leF_no (h : ¬ x.due > to) : leF to x = [] := if_neg h
theorem duF_yes (h : x.due > to) : duF to x = [] := if_pos h
theorem duF_no (h : ¬ x.due > to) : duF to x = [⟨x.id, x.due⟩] := if_neg h
/-- A wheel to which time has passed; what has fired. -/
def passW (now : Int) (ts : List Tim) (to : Int) : W3 := if passE now ts to = 0 then (to, leL ts to, 0) else (0, [], passE now ts to)
def passD (now : Int) (ts : List Tim) (to : Int) : List Tim := if passE now ts to = 0 then sortT (duL ts to) else []
theorem passW_no (h : passE now ts to ≠ 0) : passW now ts to = (0, [], passE now ts to) := if_neg h
theorem passW_ok (h : passE now ts to = 0) : passW now ts to = (to, leL ts to, 0) := if_pos h
theorem passD_no (h : passE now ts to ≠ 0) : passD now ts to = [] := if_neg h
theorem passD_ok (h : passE now ts to = 0) : passD now ts to = sortT (duL ts to) := if_pos h
/-- The document's row: behind all that are due no later. -/
def insT (t : Tim) : List Tim → List Tim
  | [] => [t]
  | d :: r => if d.due > t.due then t :: d :: r else d :: insT t r
/-- The inner loop. -/
def InsI (t : Tim) (due next : List Tim) (k : Nat) (b : Bool) : Prop := (b = false → next = due.take k ∧ insT t due = due.take k ++ insT t (due.drop k)) ∧ (b = true → next ++ due.drop k = insT t due)
variable {due next : List Tim} {d : Tim} {k : Nat}
def rstep (to : Int) (d : List Tim) (t : Tim) : List Tim := if t.due > to then d else insT t d
def rdueL (ts : List Tim) (to : Int) : List Tim := ts.foldl (rstep to) []
/-- In the order in which they fire. -/
def Fires (l : List Tim) : Prop := l.Pairwise fun x y => x.due < y.due ∨ (x.due = y.due ∧ x.id < y.id)
end
end Go.Proofs.Ytjfebdhflkndmaa

/-! Timers: time passes. -/
namespace Go.Proofs.Ytjfebdhflkndmaa
open Go Go.RowKit

set_option maxRecDepth 100000 in
theorem sorted_t (w0 : World) (X Y : List Ob) (p : Option Addr) (n cap : Nat) (l : List Tim) (w : World)
 (hH : Hs w0 (Y ++ X) w) (hO : SlO 33 Y p n cap l) (hb : n ≤ 1000)
 : Calls Try.prog 31 #[.slice p n cap] w fun e w' => ∃ Y', e = .returned (.slice p n cap) ∧ SlO 33 Y' p n cap (sortT l) ∧ Hs w0 (Y' ++ X) w' := by
 rw [show Y ++ X = Y ++ (X ++ []) from by rw [List.append_nil]] at hH
 refine enter hH Try.func31 rfl Try.ntmps31 rfl (sq_ (qa0 [] [0] [] (ds_ (sq_ (ao_ (qo0 1 [] [0] [(3, .slice p n cap)] (cP (fun v L' => ∃ Y_, v = .tuple #[] ∧ L' = Y_ ++ (X ++ []) ∧ SlO 33 Y_ p n cap (sortT l)) Try.call43 (fun w hw => (sortFunc_t hw hO (by omega)).mono fun e w' ⟨he, Y_, hO, hY⟩ => ⟨_, _, he, ⟨Y_, rfl, rfl, hO⟩, hY⟩) ?_)))))))
 rintro v3 L3 ⟨Y3, rfl, rfl, hO3⟩
 refine on_ (ds_ (sq_ (qa0 [] [] [(2, .slice p n cap)] (ds_ (rt ([]) (.slice p n cap) ?_)))))
 exact fun w' hw => ⟨_, rfl, hO3, by simpa using hw⟩

set_option maxRecDepth 100000 in
theorem pass_t (now : Int) (p : Option Addr) (n cap : Nat) (ts : List Tim) (to : Int) (w : World)
 (hts : Sv w p ts) (hn : n = ts.length) (hb : n ≤ 1000)
 : Calls Try.prog 11 #[.agg #[.int .i64 now, .slice p n cap], .int .i64 to] w fun e w' => ∃ q m capq Y q2 m2 capq2 X, e = .returned (.tuple #[.agg #[.int .i64 (passW now ts to).1, .slice q m capq], .slice q2 m2 capq2, .int .i64 (passW now ts to).2.2]) ∧ SlO 33 Y q m capq (passW now ts to).2.1 ∧ SlO 33 X q2 m2 capq2 (passD now ts to) ∧ Below w.heap.size w w' ∧ Hs w (Y ++ X) w' := by
 refine enter (Hs.start w) Try.func11 rfl Try.ntmps11 rfl (sq_ (ma0 [] [1] (fun γ1 => [(2, .pointer (some ⟨γ1 0, 0, none⟩)), (4, .pointer (some ⟨γ1 1, 0, none⟩))]) (fun γ1 L => bx (γ1 1) (#[.int .i64 0, .slice none 0 0]) 24 :: bx (γ1 0) (#[.int .i64 now, .slice p n cap]) 24 :: L) (fun γ1 => ds_ (sq_ (sq_ (ao_ (qo0 2 [(0, .go (owns 1 0 2))] [1, 2, 4] [(12, .agg #[.int .i64 now, .slice p n cap]), (13, .int .i64 to)] (cD (.int .i64 (passE now ts to)) Try.call30 (fun w hw => passes_t now p n cap ts to w (hts.kept hw.below) hn (by omega)) (qo0 1 [] [1, 2, 4] [(7, .int .i64 (passE now ts to))] (on_ (ds_ (sq_ ?_))))))))))))
 by_cases q5 : (passE now ts to : Int) ≠ (0 : Int)
 ·
  refine qa [(1, .yes)] [1, 2, 4, 7] [(16, .bool true)] ([(passE now ts to : Int) ≠ (0 : Int)]) (al1 q5) (ds_ (t_ (sq_ (qa0 [(2, .go (owns 0 0 2))] [4] [(5, .slice none 0 0), (6, .int .i64 (passE now ts to))] (ds_ (rt (owns 0 0 2) (.tuple #[.agg #[.int .i64 0, .slice none 0 0], .slice none 0 0, .int .i64 (passE now ts to)]) ?_))))))
  exact fun w' hw => by rw [passW_no q5, passD_no q5]; exact ⟨none, 0, 0, [], none, 0, 0, [], rfl, SlO.nil, SlO.nil, hw.below, hw.sub (List.nil_sublist _)⟩
 ·
  refine qa [(1, .no)] [1, 2, 4, 7] [(16, .bool false)] ([¬ ((passE now ts to : Int) ≠ (0 : Int))]) (al1 q5) (ds_ (f_ (at_skip (ds_ (sq_ (qa0 [] [1, 2, 4] [(8, .slice none 0 0), (9, .slice none 0 0)] (ds_ (sq_ (sq_ (qa0 [(1, .go (owns 1 1 1))] [1, 4, 8, 9] [(20, .slice p n cap), (21, .int .i64 ((n : Nat))), (22, .int .i64 0)] (ds_ (at_block (at_loop (α := Nat × List Ob × Option Addr × Nat × Nat × List Ob × Option Addr × Nat × Nat) [1, 4, 8, 9, 20, 21, 22] (fun ⟨j, Yo, po, nu, co, Yd, pd, nd, cd⟩ => [(1, .int .i64 to), (4, .pointer (some ⟨γ1 1, 0, none⟩)), (8, .slice po nu co), (9, .slice pd nd cd), (20, .slice p n cap), (21, .int .i64 ((n : Nat))), (22, .int .i64 ((j : Nat)))]) (fun ⟨j, Yo, po, nu, co, Yd, pd, nd, cd⟩ => bx (γ1 1) (#[.int .i64 0, .slice none 0 0]) 24 :: bx (γ1 0) (#[.int .i64 now, .slice p n cap]) 24 :: (Yo ++ (Yd ++ []))) (fun ⟨j, Yo, po, nu, co, Yd, pd, nd, cd⟩ => j ≤ n ∧ nu ≤ j ∧ nd ≤ j ∧ SlO 33 Yo po nu co ((ts.take j).flatMap (leF to)) ∧ SlO 33 Yd pd nd cd ((ts.take j).flatMap (duF to))) (fun ⟨j, Yo, po, nu, co, Yd, pd, nd, cd⟩ => n - j) (0, [], none, 0, 0, [], none, 0, 0) (by kernel_rfl) rfl ⟨Nat.zero_le _, Nat.le_refl _, Nat.le_refl _, by rw [List.take_zero]; exact SlO.nil, by rw [List.take_zero]; exact SlO.nil⟩ ?_)))))))))))))
  rintro ⟨j, Yo, po, nu, co, Yd, pd, nd, cd⟩
  rintro ⟨hj, hnu, hnd, hO, hP⟩
  refine sq_ ?_
  by_cases q12 : ((j : Nat) : Int) < ((n : Nat) : Int)
  ·
   refine qa [(0, .yes)] [1, 4, 8, 9, 20, 21, 22] [(23, .bool true)] ([((j : Nat) : Int) < ((n : Nat) : Int)]) (al1 q12) (ds_ (sq_ (t_ (at_skip (ds_ (sq_ (at_block (sq_ ?_))))))))
   obtain ⟨b15, o15, rfl⟩ := hts.pos (i := j) (by omega)
   obtain ⟨x17, hx17⟩ := get_some (l := ts) (m := j) (by omega)
   refine ma [(0, .at b15 o15 j), (1, .go (outs b15 (o15 + j * 2) [.int .i64 x17.id, .int .i64 x17.due])), (3, .go (owns 0 0 2))] [1, 4, 8, 9, 20, 21, 22] (fun γ18 => [(11, .pointer (some ⟨γ18 0, 0, none⟩))]) (fun γ18 L => bx (γ18 0) (#[.int .i64 x17.id, .int .i64 x17.due]) 33 :: L) (fun γ18 => [(some ⟨b15, o15, none⟩ : Option Addr) = some ⟨b15, o15, none⟩, ((j : Nat)) = ((j : Nat) : Int), j < n] ++ (cellsP w b15 (o15 + j * 2) [.int .i64 x17.id, .int .i64 x17.due])) (fun γ18 => (alA (al2 rfl (al2 rfl (al1 (by omega)))) (rd_pre (hts.get hx17) _ rfl))) (fun γ18 => ds_ (sq_ ?_))
   by_cases q20 : (x17.due : Int) ≤ (to : Int)
   ·
    refine qa [(1, .go (owns 0 1 1)), (3, .yes)] [1, 4, 8, 9, 11, 20, 21, 22] [(29, .bool true)] ([(x17.due : Int) ≤ (to : Int)]) (al1 q20) (ds_ (t_ (ao_ (mo0 3 [(1, .go (owns 0 0 2))] [1, 4, 8, 20, 21, 22] (fun γ22 => [(30, .slice pd nd cd), (32, .slice (some ⟨γ22 0, 0, none⟩) 1 1)]) (fun γ22 L => bx (γ22 0) (#[.int .i64 x17.id, .int .i64 x17.due]) 33 :: L) (fun γ22 => Ops.pick [[bx (γ22 0) (#[.int .i64 x17.id, .int .i64 x17.due]) 33], [bx (γ18 0) (#[.int .i64 x17.id, .int .i64 x17.due]) 33], [bx (γ1 1) (#[.int .i64 0, .slice none 0 0]) 24], [bx (γ1 0) (#[.int .i64 now, .slice (some ⟨b15, o15, none⟩) n cap]) 24], Yo, Yd] [0, 1, 2, 3, 5, 4] [] (bx (γ22 0) (#[.int .i64 x17.id, .int .i64 x17.due]) 33 :: bx (γ18 0) (#[.int .i64 x17.id, .int .i64 x17.due]) 33 :: bx (γ1 1) (#[.int .i64 0, .slice none 0 0]) 24 :: bx (γ1 0) (#[.int .i64 now, .slice (some ⟨b15, o15, none⟩) n cap]) 24 :: (Yd ++ (Yo ++ []))) (by kernel_rfl) rfl rfl (ops_append (α := Tim) [bx (γ22 0) (#[.int .i64 x17.id, .int .i64 x17.due]) 33, bx (γ18 0) (#[.int .i64 x17.id, .int .i64 x17.due]) 33, bx (γ1 1) (#[.int .i64 0, .slice none 0 0]) 24, bx (γ1 0) (#[.int .i64 now, .slice (some ⟨b15, o15, none⟩) n cap]) 24] Yd ((Yo ++ [])) (.refl _) rfl (by kernel_rfl) (by kernel_rfl) (p := pd) (n := nd) (cap := cd) (m := 1) (yv := .slice (some ⟨γ22 0, 0, none⟩) 1 1) (by kernel_rfl) (by kernel_rfl) (T := 33) (by_ := 16) (by kernel_rfl) (((ts.take j).flatMap (duF to))) ([⟨x17.id, x17.due⟩]) hP (fun w hw => src_svn Try.underlying22 (sv_row (hw.row 0 rfl) (by rfl)) (by rfl)) (by rfl) (by have hmx : maxLen = 9223372036854775807 := rfl; omega) (by have hmx : maxLen = 9223372036854775807 := rfl; omega) (fun Y23 p23 cap23 hO23 => qo0 1 [] [1, 4, 8, 20, 21, 22] [(9, .slice p23 (nd + 1) cap23)] (on_ (done_block (ds_ (qa [(0, .fit)] [1, 4, 8, 9, 20, 21] [(22, .int .i64 ((j + 1 : Nat)))] ([Fit .i64 ((j + 1 : Nat))]) (al1 (fit64 (by omega) (by omega))) (Done.pick [[bx (γ22 0) (#[.int .i64 x17.id, .int .i64 x17.due]) 33], [bx (γ18 0) (#[.int .i64 x17.id, .int .i64 x17.due]) 33], [bx (γ1 1) (#[.int .i64 0, .slice none 0 0]) 24], [bx (γ1 0) (#[.int .i64 now, .slice (some ⟨b15, o15, none⟩) n cap]) 24], Y23, Yo] [2, 3, 5, 4] [0, 1] (bx (γ1 1) (#[.int .i64 0, .slice none 0 0]) 24 :: bx (γ1 0) (#[.int .i64 now, .slice (some ⟨b15, o15, none⟩) n cap]) 24 :: (Yo ++ (Y23 ++ []))) (by kernel_rfl) rfl rfl ?_))))))))))))
    exact dr [1, 4, 8, 9, 20, 21, 22] (j + 1, Yo, po, nu, co, Y23, p23, (nd + 1), cap23) ⟨by omega, by omega, by omega, by rw [gath_onT hx17 (leF_no (by omega)), List.append_nil]; exact hO, by rw [gath_onT hx17 (duF_no (by omega))]; exact hO23⟩
   ·
    refine qa [(1, .go (owns 0 1 1)), (3, .no)] [1, 4, 8, 9, 11, 20, 21, 22] [(29, .bool false)] ([¬ ((x17.due : Int) ≤ (to : Int))]) (al1 q20) (ds_ (f_ (ao_ (mo0 3 [(1, .go (owns 0 0 2))] [1, 4, 9, 20, 21, 22] (fun γ27 => [(34, .slice po nu co), (36, .slice (some ⟨γ27 0, 0, none⟩) 1 1)]) (fun γ27 L => bx (γ27 0) (#[.int .i64 x17.id, .int .i64 x17.due]) 33 :: L) (fun γ27 => ops_append (α := Tim) [bx (γ27 0) (#[.int .i64 x17.id, .int .i64 x17.due]) 33, bx (γ18 0) (#[.int .i64 x17.id, .int .i64 x17.due]) 33, bx (γ1 1) (#[.int .i64 0, .slice none 0 0]) 24, bx (γ1 0) (#[.int .i64 now, .slice (some ⟨b15, o15, none⟩) n cap]) 24] Yo ((Yd ++ [])) (.refl _) rfl (by kernel_rfl) (by kernel_rfl) (p := po) (n := nu) (cap := co) (m := 1) (yv := .slice (some ⟨γ27 0, 0, none⟩) 1 1) (by kernel_rfl) (by kernel_rfl) (T := 33) (by_ := 16) (by kernel_rfl) (((ts.take j).flatMap (leF to))) ([⟨x17.id, x17.due⟩]) hO (fun w hw => src_svn Try.underlying22 (sv_row (hw.row 0 rfl) (by rfl)) (by rfl)) (by rfl) (by have hmx : maxLen = 9223372036854775807 := rfl; omega) (by have hmx : maxLen = 9223372036854775807 := rfl; omega) (fun Y28 p28 cap28 hO28 => qo0 1 [] [1, 4, 9, 20, 21, 22] [(8, .slice p28 (nu + 1) cap28)] (on_ (done_block (ds_ (qa [(0, .fit)] [1, 4, 8, 9, 20, 21] [(22, .int .i64 ((j + 1 : Nat)))] ([Fit .i64 ((j + 1 : Nat))]) (al1 (fit64 (by omega) (by omega))) (Done.pick [[bx (γ27 0) (#[.int .i64 x17.id, .int .i64 x17.due]) 33], [bx (γ18 0) (#[.int .i64 x17.id, .int .i64 x17.due]) 33], [bx (γ1 1) (#[.int .i64 0, .slice none 0 0]) 24], [bx (γ1 0) (#[.int .i64 now, .slice (some ⟨b15, o15, none⟩) n cap]) 24], Y28, Yd] [2, 3, 4, 5] [0, 1] (bx (γ1 1) (#[.int .i64 0, .slice none 0 0]) 24 :: bx (γ1 0) (#[.int .i64 now, .slice (some ⟨b15, o15, none⟩) n cap]) 24 :: (Y28 ++ (Yd ++ []))) (by kernel_rfl) rfl rfl ?_)))))))))))
    exact dr [1, 4, 8, 9, 20, 21, 22] (j + 1, Y28, p28, (nu + 1), cap28, Yd, pd, nd, cd) ⟨by omega, by omega, by omega, by rw [gath_onT hx17 (leF_yes (by omega))]; exact hO28, by rw [gath_onT hx17 (duF_yes (by omega)), List.append_nil]; exact hP⟩
  ·
   refine qa [(0, .no)] [1, 4, 8, 9, 20, 21, 22] [(23, .bool false)] ([¬ (((j : Nat) : Int) < ((n : Nat) : Int))]) (al1 q12) (ds_ (sq_ (f_ (at_leave _ rfl (ds_ (sq_ ?_))))))
   rw [List.take_of_length_le (by omega)] at hO hP
   refine ao_ (qo0 4 [] [4] [(41, .agg #[.int .i64 to, .slice po nu co]), (42, .slice pd nd cd)] (Ops.pick [[bx (γ1 1) (#[.int .i64 0, .slice none 0 0]) 24], [bx (γ1 0) (#[.int .i64 now, .slice p n cap]) 24], Yo, Yd] [0, 1, 3, 2] [] (bx (γ1 1) (#[.int .i64 0, .slice none 0 0]) 24 :: bx (γ1 0) (#[.int .i64 now, .slice p n cap]) 24 :: (Yd ++ (Yo ++ []))) (by kernel_rfl) rfl rfl (cP (fun v L' => ∃ Y_, v = .slice pd nd cd ∧ L' = [bx (γ1 1) (#[.int .i64 0, .slice none 0 0]) 24, bx (γ1 0) (#[.int .i64 now, .slice p n cap]) 24] ++ (Y_ ++ ((Yo ++ []))) ∧ SlO 33 Y_ pd nd cd (sortT ((ts.flatMap (duF to))))) Try.call31 (fun w hw => (sorted_t _ ([bx (γ1 1) (#[.int .i64 0, .slice none 0 0]) 24, bx (γ1 0) (#[.int .i64 now, .slice p n cap]) 24] ++ ((Yo ++ []))) Yd pd nd cd ((ts.flatMap (duF to))) w (Hs.front (A := [bx (γ1 1) (#[.int .i64 0, .slice none 0 0]) 24, bx (γ1 0) (#[.int .i64 now, .slice p n cap]) 24]) (Y := Yd) (R := ((Yo ++ []))) hw) hP (by omega)).mono fun e w' ⟨Y_, he, hO, hY⟩ => ⟨_, _, he, ⟨Y_, rfl, rfl, hO⟩, hY.push⟩) ?_)))
   rintro v33 L33 ⟨Y33, rfl, rfl, hO33⟩
   refine mo0 3 [(5, .go (owns 0 0 2))] [4] (fun _ => [(5, .slice pd nd cd), (6, .int .i64 0)]) (fun _ L => (L.set 0 (bx (γ1 1) (#[.int .i64 to, .slice po nu co]) 24))) (fun _ => on_ (ds_ (rt (owns 0 0 2) (.tuple #[.agg #[.int .i64 to, .slice po nu co], .slice pd nd cd, .int .i64 0]) ?_)))
   exact fun w' hw => by rw [passW_ok (Classical.not_not.1 q5), passD_ok (Classical.not_not.1 q5)]; exact ⟨_, _, _, _, _, _, _, _, rfl, hO, hO33, hw.below, two_tails (Hs.pick [[bx (γ1 1) (#[.int .i64 to, .slice po nu co]) 24], [bx (γ1 0) (#[.int .i64 now, .slice p n cap]) 24], Y33, Yo] [3, 2] [0, 1] (by kernel_rfl) hw)⟩
end Go.Proofs.Ytjfebdhflkndmaa

/-! Timers: the document's wheel, made anew by numbers; plain. -/
namespace Go.Proofs.Ytjfebdhflkndmaa
open Go Go.RowKit

section
variable {α : Type} {f : α → Int} {g : Int → Option α} {c : Nat} {x : α}
/-- The rows of the numbers 0 .. c - 1. -/
def mk0 (g : Int → Option α) (c : Nat) : List α := (List.range c).flatMap fun i : Nat => (g (i : Int)).toList
end
def wiG (ts : List Tim) (k at_ n : Int) : Option Tim := if n = k then (if at_ > 0 then some ⟨n, at_⟩ else none) else if atR ts n > 0 then some ⟨n, atR ts n⟩ else none
def wiL (ts : List Tim) (k at_ : Int) (c : Nat) : List Tim := mk0 (wiG ts k at_) c
section
variable {ts : List Tim} {now k at_ n : Int} {c j : Nat} {x : Tim}
theorem GoodW.getd (h : GoodW now ts) : getK Tim.id ts k = some x ↔ x ∈ ts ∧ x.id = k := getK_iff h.rs
theorem GoodW.pos (h : GoodW now ts) (hx : x ∈ ts) : 0 < x.due := by have := h.tm x hx; have := h.n0; omega
end
end Go.Proofs.Ytjfebdhflkndmaa

/-! Timers: what the statements ask; plain. -/
namespace Go.Proofs.Ytjfebdhflkndmaa
open Go Go.RowKit

theorem Hs.joinT {w0 w w' : World} {L Y X : List Ob} (h : Hs w0 L w) (hb : Below w.heap.size w w') (hY : Hs w (Y ++ X) w') (n : Nat) : Hs w0 (L.take n ++ (Y ++ (X ++ L.drop n))) w' := by
  have := h.join hb hY n
  rwa [List.append_assoc] at this
theorem wkw1 : setV 60 [] 1 64 = (60, [⟨1, 64⟩], 0) := by decide
theorem wkw2 : plV 60 (atO 60 [⟨1, 64⟩] 1) = .tuple #[.int .i64 1, .int .i64 1, .bool true] := by
  rw [atO_ok (by decide)]
  rfl
theorem wkwp : passE 60 [⟨1, 64⟩] 64 = 0 := by decide
theorem wkw3 : passW 60 [⟨1, 64⟩] 64 = (64, [], 0) := by rw [passW_ok wkwp]; rfl
theorem wkw4 : passD 60 [⟨1, 64⟩] 64 = [⟨1, 64⟩] := by
  rw [passD_ok wkwp]
  show sortT [⟨1, 64⟩] = _
  simp [sortT]
section
variable {now k at_ to : Int} {ts : List Tim} {x : Tim}
end
end Go.Proofs.Ytjfebdhflkndmaa

/-! Timers: the layer does something; a wheel in memory of its own. -/
namespace Go.Proofs.Ytjfebdhflkndmaa
open Go Go.RowKit

set_option maxRecDepth 100000 in
theorem wakes_t  (w : World)
 : Calls Try.prog 8 #[] w fun e w' => e = .returned (.bool true) ∧ Below w.heap.size w w' := by
 refine enter (Hs.start w) Try.func8 rfl Try.ntmps8 rfl (sq_ (qa0 [] [] [] (ds_ (sq_ (ao_ (qo0 1 [] [] [(10, .agg #[.int .i64 60, .slice none 0 0])] (cP (fun v L' => ∃ q_ m_ c_ Y_, v = .tuple #[.agg #[.int .i64 60, .slice q_ m_ c_], .int .i64 0] ∧ L' = List.take 0 ([]) ++ (Y_ ++ List.drop 0 ([])) ∧ SlO 33 Y_ q_ m_ c_ ([⟨1, 64⟩] : List Tim)) Try.call13 (fun w hw => by have := set_t 60 none 0 0 [] 1 64 w Sv.nil rfl (by omega); rw [wkw1] at this; exact this.mono fun e w' ⟨q_, m_, c_, Y_, he, hO, hb, hY⟩ => ⟨_, _, he, ⟨q_, m_, c_, Y_, rfl, rfl, hO⟩, hw.join hb hY 0⟩) ?_)))))))
 rintro v3 L3 ⟨q3, m3, c3, Y3, rfl, rfl, hO3⟩
 have hm3 := hO3.len
 simp only [List.length_cons, List.length_nil] at hm3
 refine mo0 6 [(6, .go (owns 0 0 2))] [] (fun γ4 => [(1, .pointer (some ⟨γ4 0, 0, none⟩)), (2, .int .i64 0)]) (fun γ4 L => bx (γ4 0) (#[.int .i64 60, .slice q3 m3 c3]) 24 :: L) (fun γ4 => on_ (ds_ (sq_ (ao_ (qo0 1 [(0, .go (owns 0 0 2))] [1, 2] [(15, .agg #[.int .i64 60, .slice q3 m3 c3])] (cD (.tuple #[.int .i64 1, .int .i64 1, .bool true]) Try.call21 (fun w hw => by have := wplace_t 60 q3 m3 c3 (([⟨1, 64⟩] : List Tim)) 1 w (hO3.atN (A := [_]) hw) hO3.len (by omega); rw [wkw2] at this; exact this) (qo0 7 [] [1, 2] [(3, .int .i64 1), (4, .int .i64 1), (5, .bool true)] (on_ (ds_ (sq_ (ao_ (qo0 1 [(0, .go (owns 0 0 2))] [2, 3, 4, 5] [(21, .agg #[.int .i64 60, .slice q3 m3 c3])] (cP (fun v L' => ∃ q_ m_ c_ Y_ q2_ m2_ c2_ X_, v = .tuple #[.agg #[.int .i64 64, .slice q_ m_ c_], .slice q2_ m2_ c2_, .int .i64 0] ∧ L' = List.take 1 (bx (γ4 0) (#[.int .i64 60, .slice q3 m3 c3]) 24 :: (Y3 ++ [])) ++ (Y_ ++ (X_ ++ List.drop 1 (bx (γ4 0) (#[.int .i64 60, .slice q3 m3 c3]) 24 :: (Y3 ++ [])))) ∧ SlO 33 Y_ q_ m_ c_ ([] : List Tim) ∧ SlO 33 X_ q2_ m2_ c2_ ([⟨1, 64⟩] : List Tim)) Try.call11 (fun w hw => by have := pass_t 60 q3 m3 c3 (([⟨1, 64⟩] : List Tim)) 64 w (hO3.atN (A := [_]) hw) hO3.len (by omega); rw [wkw3, wkw4] at this; exact this.mono fun e w' ⟨q_, m_, c_, Y_, q2_, m2_, c2_, X_, he, h1, h2, hb, hY⟩ => ⟨_, _, he, ⟨q_, m_, c_, Y_, q2_, m2_, c2_, X_, rfl, rfl, h1, h2⟩, hw.joinT hb hY 1⟩) ?_)))))))))))))
 rintro v8 L8 ⟨q8, m8, c8, Y8, p8, k8, d8, Yx8, rfl, rfl, hO8, hP8⟩
 have hm8 := hO8.len
 have hn8 := hP8.len
 simp only [List.length_cons, List.length_nil] at hm8
 simp only [List.length_cons, List.length_nil] at hn8
 refine mo0 8 [(7, .go (owns 0 0 2))] [2, 3, 4, 5] (fun γ9 => [(7, .slice p8 k8 d8), (8, .int .i64 0)]) (fun γ9 L => bx (γ9 0) (#[.int .i64 64, .slice q8 m8 c8]) 24 :: L) (fun γ9 => on_ (ds_ (sq_ ?_)))
 by_cases q11 : ((k8 : Nat) : Int) = (1 : Int)
 ·
  refine At.pick [[bx (γ9 0) (#[.int .i64 64, .slice q8 m8 c8]) 24], [bx (γ4 0) (#[.int .i64 60, .slice q3 m3 c3]) 24], Y8, Yx8, Y3] [0, 1, 3, 2, 4] [] (bx (γ9 0) (#[.int .i64 64, .slice q8 m8 c8]) 24 :: bx (γ4 0) (#[.int .i64 60, .slice q3 m3 c3]) 24 :: (Yx8 ++ (Y8 ++ (Y3 ++ [])))) (by kernel_rfl) rfl rfl ?_
  have hln13 := hP8.len
  obtain ⟨g13, cs13, rfl, rfl, hOw13⟩ := hP8.rowOf (i := 0) (by omega)
  refine qa [(20, .yes), (24, .at g13 0 0), (25, .go (ownps 2 (0 + 0 * 2) [.int .i64 ((⟨1, 64⟩ : Tim).id), .int .i64 ((⟨1, 64⟩ : Tim).due)])), (27, .eqs true)] [] [(0, .bool true)] ([((k8 : Nat) : Int) = (1 : Int)] ++ ([(some ⟨g13, 0, none⟩ : Option Addr) = some ⟨g13, 0, none⟩, 0 = ((0 : Nat) : Int), 0 < k8] ++ (acellsP cs13 (0 + 0 * 2) [.int .i64 ((⟨1, 64⟩ : Tim).id), .int .i64 ((⟨1, 64⟩ : Tim).due)] ++ ([EqRun Try.prog .eql 33 (.tmp 51) (.tmp 52) (.agg #[.int .i64 ((⟨1, 64⟩ : Tim).id), .int .i64 ((⟨1, 64⟩ : Tim).due)]) (.agg #[.int .i64 1, .int .i64 64]) true])))) (alA (al1 q11) (alA (al2 rfl (al2 rfl (al1 (by omega)))) (alA (rda_pre ((hOw13.rdx hP8.len (by rfl))) _ rfl) (al1 (tim_eq_t (a := (⟨1, 64⟩ : Tim)) (b := (⟨1, 64⟩ : Tim)) rfl))))) (ds_ (rt ([]) (.bool true) ?_))
  exact fun w' hw => ⟨rfl, hw.below⟩
 ·
  refine qa [(20, .no)] [] [(0, .bool false)] ([¬ (((k8 : Nat) : Int) = (1 : Int))]) (al1 q11) (ds_ (rt ([]) (.bool false) ?_))
  exfalso; first | omega | (simp only [List.length_nil] at *; omega)

end Go.Proofs.Ytjfebdhflkndmaa

/-! Timers: the document's wheel with one timer more. -/
namespace Go.Proofs.Ytjfebdhflkndmaa
open Go Go.RowKit

end Go.Proofs.Ytjfebdhflkndmaa

/-! The walker: two cells of an element changed in place. -/
namespace Go.Proofs.Ytjfebdhflkndmaa
open Go Go.RowKit
section
variable {α : Type} [Enc α] {l : List α} {x x' : α} {v v' : Value} {i f n cap : Nat} {cs : Array Value}
end
end Go.Proofs.Ytjfebdhflkndmaa

/-! The walker: three bounds; what slices.Delete does to its row. -/
namespace Go.Proofs.Ytjfebdhflkndmaa
open Go Go.RowKit
section
variable {P : Program} {T e : TypeId} {n cap k by_ b o lo hi mx : Nat}
end
section
variable {α : Type} [Enc α] {l : List α} {i i2 n cap : Nat} {cs : Array Value} {w : World}
end
section
variable {E : Env} {k : List Fr} {l lx : Sl} {L : List Ob} {c d : Code}
end
end Go.Proofs.Ytjfebdhflkndmaa

/-! Timers: slices.Delete. -/
namespace Go.Proofs.Ytjfebdhflkndmaa
open Go Go.RowKit

end Go.Proofs.Ytjfebdhflkndmaa

/-! Timers: Cancel. -/
namespace Go.Proofs.Ytjfebdhflkndmaa
open Go Go.RowKit

end Go.Proofs.Ytjfebdhflkndmaa

/-! The statement WheelSets, walked. -/
namespace Go.Proofs.Ytjfebdhflkndmaa
open Go Go.RowKit
theorem bool_eqRun (op : BinOp) (hop : op = .eql ∨ op = .neq) (x y : Operand) (a b r : Bool) (hr : r = (if op = .eql then a == b else !(a == b))) : EqRun Try.prog op 4 x y (.bool a) (.bool b) r := by
 intro w
 subst hr
 have hg : Try.prog.eqGuardType Try.prog.depth 4 = false := by kernel_rfl
 have key : (Op.equal 4 (.bool a) (.bool b)).run Try.prog w = .ok (a == b) w := by
  unfold Op.equal
  rw [show Op.maxDepth = 9999 + 1 from rfl]
  exact run_equalIn_bool' w 9999 4 a b Try.underlying4
 have guard : (eqGuard op 4 x y (.bool a) (.bool b)).run Try.prog w = .ok () w := by
  unfold eqGuard
  rcases hop with rfl | rfl <;> simp [hg]
 rw [Sem.run_bind, guard]
 simp only [Result.andThen_ok]
 rcases hop with rfl | rfl <;> simp [binOp, Sem.run_bind, key]
theorem bool_eq {x y : Operand} (a b : Bool) : EqRun Try.prog .eql 4 x y (.bool a) (.bool b) (a == b) := bool_eqRun _ (.inl rfl) x y a b _ (by simp)

end Go.Proofs.Ytjfebdhflkndmaa

/-! Timers: ahead of the next one none fires; plain. -/
namespace Go.Proofs.Ytjfebdhflkndmaa
open Go Go.RowKit

section
variable {now to : Int} {ts : List Tim} {x : Tim} {i : Nat}
theorem nextV_okd (h : wheelB now ts = true) (hne : ts ≠ []) : nextV now ts = .tuple #[.int .i64 (leastV ts), .bool true] := by rw [nextV, if_pos ⟨h, hne⟩]
theorem nx_mem (h : wheelB now ts = true) (hne : ts ≠ []) : (∃ x ∈ ts, leastV ts = x.due) ∧ ∀ t ∈ ts, leastV ts ≤ t.due := by
  obtain ⟨h1, h2, _⟩ := least_inv ts 0 (due_pos h) (Int.le_refl _)
  have hp := (least_pos (due_pos h)).2 hne
  refine ⟨?_, fun t ht => (h2 t ht).2⟩
  rcases h1 with h1 | h1
  · unfold leastV at hp; omega
  · exact h1
/-- How much those that are left move. -/
def mvL (now to : Int) (l : List Tim) : Int := (l.map fun t => (placeV now t.due).1 - (placeV to t.due).1).sum
end
end Go.Proofs.Ytjfebdhflkndmaa

/-! Maps that count: m[k]++ over a row of numbers; plain. -/
namespace Go.Proofs.Ytjfebdhflkndmaa
open Go Go.RowKit

def bumpL (l : List Int) : List (Int × Int) := l.foldl (fun D k => mupd D k ((mget D k).getD 0 + 1)) []
section
variable {l : List Int} {k : Int}
theorem bump_on : bumpL (l ++ [k]) = mupd (bumpL l) k ((mget (bumpL l) k).getD 0 + 1) := by simp [bumpL]
theorem mget_out : ∀ {D : List (Int × Int)}, k ∉ D.map (·.1) → mget D k = none
  | [], _ => rfl
  | p :: D, h => by
    simp only [List.map_cons, List.mem_cons, not_or] at h
    unfold mget
    rw [if_neg (fun e => h.1 e.symm)]
    exact mget_out h.2
theorem mupd_out {v : Int} : ∀ {D : List (Int × Int)}, k ∉ D.map (·.1) → mupd D k v = D ++ [(k, v)]
  | [], _ => rfl
  | p :: D, h => by
    simp only [List.map_cons, List.mem_cons, not_or] at h
    unfold mupd
    rw [if_neg (fun e => h.1 e.symm), mupd_out h.2]
    rfl
theorem bump_acc : ∀ (l acc : List Int), (acc ++ l).Nodup → l.foldl (fun D k => mupd D k ((mget D k).getD 0 + 1)) (acc.map fun k => (k, (1 : Int))) = (acc ++ l).map fun k => (k, (1 : Int))
  | [], acc, _ => by simp
  | a :: l, acc, h => by
    have ha : a ∉ (acc.map fun k => (k, (1 : Int))).map (·.1) := by
      rw [List.map_map]
      intro hm
      obtain ⟨b, hb, e⟩ := List.mem_map.1 hm
      have e' : b = a := e
      subst e'
      have := (List.nodup_append.1 h).2.2 b hb b (List.mem_cons_self ..)
      exact this rfl
    rw [List.foldl_cons, mget_out ha, mupd_out ha]
    have e1 : (acc.map fun k => (k, (1 : Int))) ++ [(a, (none : Option Int).getD 0 + 1)] = (acc ++ [a]).map fun k => (k, (1 : Int)) := by simp
    rw [e1, bump_acc l (acc ++ [a]) (by simpa using h)]
    simp
theorem bump_is (h : l.Nodup) : bumpL l = l.map fun k => (k, (1 : Int)) := by
  have := bump_acc l [] (by simpa using h)
  simpa [bumpL] using this
theorem bump_len (h : l.Nodup) : (bumpL l).length = l.length := by rw [bump_is h]; simp
theorem mget_ones : ∀ {l : List Int}, k ∈ l → mget (l.map fun k => (k, (1 : Int))) k = some 1
  | a :: l, h => by
    rw [List.map_cons]
    unfold mget
    by_cases e : a = k
    · rw [if_pos e]
    · rw [if_neg e]
      rcases List.mem_cons.1 h with h | h
      · exact absurd h.symm e
      · exact mget_ones h
theorem bump_get (h : l.Nodup) (hk : k ∈ l) : (mget (bumpL l) k).getD 0 = 1 := by rw [bump_is h, mget_ones hk]; rfl
theorem bump_new (h : (l ++ [k]).Nodup) : (mget (bumpL l) k).getD 0 = 0 := by
  have h1 := List.nodup_append.1 h
  rw [bump_is h1.1, mget_out]
  · rfl
  · rw [List.map_map]
    intro hm
    obtain ⟨b, hb, e⟩ := List.mem_map.1 hm
    have e' : b = k := e
    subst e'
    exact h1.2.2 b hb b (by simp) rfl
theorem same_len {a b : List Int} (h : a.Nodup) (h2 : b.Nodup) (e : ∀ x, x ∈ a ↔ x ∈ b) : a.length = b.length := ((List.perm_ext_iff_of_nodup h h2).2 e).length_eq
end
end Go.Proofs.Ytjfebdhflkndmaa

/-! Timers: each stands in one slot; plain. -/
namespace Go.Proofs.Ytjfebdhflkndmaa
open Go Go.RowKit

section
variable {a b c : Int}
theorem dig_mod (h : 0 ≤ a) (n : Nat) : dig a (n : Int) = a / 64 ^ n % 64 := by
  unfold dig
  rw [Int.toNat_natCast, Int.tmod_eq_emod_of_nonneg (div_bnd h n).1]
theorem div_succ (h : 0 ≤ a) (n : Nat) : a / 64 ^ (n + 1) = a / 64 ^ n / 64 := by
  rw [Int.pow_succ, ← Int.ediv_ediv_of_nonneg (by exact Int.pow_nonneg (by decide))]
theorem div_le (h : a ≤ b) (n : Nat) : a / 64 ^ n ≤ b / 64 ^ n := Int.ediv_le_ediv (by exact Int.pow_pos (by decide)) h
theorem place_spec (h0 : 0 ≤ a) (h : a < b) : ∀ n : Nat, a / 64 ^ n = b / 64 ^ n → ∃ m : Nat, m < n ∧ placeN a b n = ((m : Int), dig b m) ∧ dig a m < dig b m ∧ a / 64 ^ (m + 1) = b / 64 ^ (m + 1)
  | 0, e => by simp at e; omega
  | n + 1, e => by
    have hb : 0 ≤ b := by omega
    unfold placeN
    split
    · rename_i hd
      rw [dig_mod h0, dig_mod hb] at hd
      have e1 := div_succ h0 n
      have e2 := div_succ hb n
      obtain ⟨m, hm, h1, h2, h3⟩ := place_spec h0 h n (by omega)
      exact ⟨m, by omega, h1, h2, h3⟩
    · rename_i hd
      refine ⟨n, by omega, rfl, ?_, e⟩
      have hle := div_le (Int.le_of_lt h) n
      have e1 := div_succ h0 n
      have e2 := div_succ hb n
      rw [dig_mod h0, dig_mod hb] at *
      omega
theorem placeV_spec (h0 : 0 ≤ a) (h : a < b) (hb : b ≤ 1125899906842624) : ∃ m : Nat, m ≤ 8 ∧ placeV a b = ((m : Int), dig b m) ∧ dig a m < dig b m ∧ a / 64 ^ (m + 1) = b / 64 ^ (m + 1) := by
  have ea : a / 64 ^ 9 = 0 := Int.ediv_eq_zero_of_lt h0 (by omega)
  have eb : b / 64 ^ 9 = 0 := Int.ediv_eq_zero_of_lt (by omega) (by omega)
  obtain ⟨m, hm, h1, h2, h3⟩ := place_spec h0 h 9 (by rw [ea, eb])
  exact ⟨m, by omega, h1, h2, h3⟩
theorem div_more (h0 : 0 ≤ a) (hb : 0 ≤ b) {m : Nat} (e : a / 64 ^ m = b / 64 ^ m) : ∀ k : Nat, a / 64 ^ (m + k) = b / 64 ^ (m + k)
  | 0 => e
  | k + 1 => by
    have := div_more h0 hb e k
    rw [← Nat.add_assoc, div_succ h0, div_succ hb, this]
theorem place_mono (h0 : 0 ≤ a) (h : a < b) (hbc : b ≤ c) (hc : c ≤ 1125899906842624) : (placeV a b).1 ≤ (placeV a c).1 := by
  obtain ⟨n, hn, e1, l1, _⟩ := placeV_spec h0 h (by omega)
  obtain ⟨m, hm, e2, _, q2⟩ := placeV_spec h0 (show a < c by omega) hc
  rw [e1, e2]
  show (n : Int) ≤ (m : Int)
  rcases Nat.lt_or_ge m n with hlt | hge
  · have h1 := div_more h0 (by omega) q2 (n - (m + 1))
    rw [show m + 1 + (n - (m + 1)) = n by omega] at h1
    have h2 := div_le (Int.le_of_lt h) n
    have h3 := div_le hbc n
    rw [dig_mod h0, dig_mod (by omega)] at l1
    have h4 : a / 64 ^ n = b / 64 ^ n := by omega
    rw [h4] at l1
    omega
  · omega
end
section
variable {now : Int} {ts : List Tim} {x t : Tim} {lv sl q : Nat} {k : Int}
theorem GoodW.plc (h : GoodW now ts) (hx : x ∈ ts) : ∃ m : Nat, m ≤ 8 ∧ placeV now x.due = ((m : Int), dig x.due m) ∧ dig now m < dig x.due m ∧ 0 ≤ dig x.due m ∧ dig x.due m < 64 := by
  have ht := h.tm x hx
  obtain ⟨m, h1, h2, h3, _⟩ := placeV_spec h.n0 ht.2.2.1 ht.2.2.2
  have hb := dig_bnd (t := x.due) (lv := (m : Int)) (by have := h.n0; omega)
  exact ⟨m, h1, h2, h3, hb.1, hb.2⟩
theorem mem_slot {lv sl : Int} : k ∈ slotV now ts lv sl ↔ ∃ t ∈ ts, t.id = k ∧ placeV now t.due = (lv, sl) := by
  unfold slotV
  rw [List.mem_flatMap]
  constructor
  · rintro ⟨t, ht, hk⟩
    unfold slF at hk
    split at hk
    · rename_i hp
      refine ⟨t, ht, (List.mem_singleton.1 hk).symm, ?_⟩
      rw [← hp.1, ← hp.2]
    · cases hk
  · rintro ⟨t, ht, rfl, hp⟩
    refine ⟨t, ht, ?_⟩
    unfold slF
    rw [hp, if_pos ⟨rfl, rfl⟩]
    simp
/-- None stands in the slot that Now's digit says, nor ahead of it. -/
theorem slot_ahead (h : GoodW now ts) (hl : 0 < (slotV now ts (lv : Int) (sl : Int)).length) : dig now (lv : Int) < (sl : Int) := by
  obtain ⟨k, hk⟩ := List.exists_mem_of_length_pos hl
  obtain ⟨t, ht, _, hp⟩ := mem_slot.1 hk
  obtain ⟨m, _, e, hd, _⟩ := h.plc ht
  rw [e] at hp
  have h1 : (m : Int) = (lv : Int) := congrArg Prod.fst hp
  have h2 : dig t.due (m : Int) = (sl : Int) := congrArg Prod.snd hp
  rw [← h1, ← h2]; exact hd
def slR (now : Int) (ts : List Tim) (lv c : Nat) : List Int := (List.range c).flatMap fun s : Nat => slotV now ts (lv : Int) (s : Int)
def slP (now : Int) (ts : List Tim) (c : Nat) : List Int := (List.range c).flatMap fun l : Nat => slR now ts l 64
theorem slR_on {c : Nat} : slR now ts lv (c + 1) = slR now ts lv c ++ slotV now ts (lv : Int) (c : Int) := by unfold slR; rw [List.range_succ, List.flatMap_append]; simp
theorem slP_on {c : Nat} : slP now ts (c + 1) = slP now ts c ++ slR now ts c 64 := by unfold slP; rw [List.range_succ, List.flatMap_append]; simp
theorem mem_slR {c : Nat} : k ∈ slR now ts lv c ↔ ∃ s : Nat, s < c ∧ k ∈ slotV now ts (lv : Int) (s : Int) := by
  unfold slR
  rw [List.mem_flatMap]
  simp only [List.mem_range]
theorem mem_slP {c : Nat} : k ∈ slP now ts c ↔ ∃ l : Nat, l < c ∧ k ∈ slR now ts l 64 := by
  unfold slP
  rw [List.mem_flatMap]
  simp only [List.mem_range]
theorem slot_nodup (h : GoodW now ts) {lv sl : Int} : (slotV now ts lv sl).Nodup := by
  unfold slotV
  refine List.pairwise_flatMap.2 ⟨fun t _ => by unfold slF; split <;> simp, ?_⟩
  refine h.rs.imp fun {a b} hab x hx y hy e => ?_
  unfold slF at hx hy
  split at hx
  · split at hy
    · simp only [List.mem_singleton] at hx hy; omega
    · cases hy
  · cases hx
theorem slot_one (h : GoodW now ts) {l l' s s' : Int} (h1 : k ∈ slotV now ts l s) (h2 : k ∈ slotV now ts l' s') : l = l' ∧ s = s' := by
  obtain ⟨t, ht, e1, p1⟩ := mem_slot.1 h1
  obtain ⟨t', ht', e2, p2⟩ := mem_slot.1 h2
  have := h.rs.inj ht ht' (by omega)
  subst this
  rw [p1] at p2
  exact ⟨congrArg Prod.fst p2, congrArg Prod.snd p2⟩
theorem range_lt (c : Nat) : (List.range c).Pairwise fun a b => a < b := List.pairwise_lt_range
theorem slR_nodup (h : GoodW now ts) (c : Nat) : (slR now ts lv c).Nodup := by
  unfold slR
  refine List.pairwise_flatMap.2 ⟨fun s _ => slot_nodup h, (range_lt c).imp fun {a b} hab x hx y hy e => ?_⟩
  subst e
  have := (slot_one h hx hy).2
  omega
theorem slP_nodup (h : GoodW now ts) (c : Nat) : (slP now ts c).Nodup := by
  unfold slP
  refine List.pairwise_flatMap.2 ⟨fun s _ => slR_nodup h 64, (range_lt c).imp fun {a b} hab x hx y hy e => ?_⟩
  subst e
  obtain ⟨s, _, hs⟩ := mem_slR.1 hx
  obtain ⟨s', _, hs'⟩ := mem_slR.1 hy
  have := (slot_one h hs hs').1
  omega
theorem slot_new (h : GoodW now ts) (hsl : sl < 64) {x : Int} (hx : (slotV now ts (lv : Int) (sl : Int))[q]? = some x) : (mget (bumpL (slP now ts lv ++ slR now ts lv sl ++ (slotV now ts (lv : Int) (sl : Int)).take q)) x).getD 0 = 0 := by
  refine bump_new ?_
  have h1 : (slP now ts lv ++ (slR now ts lv sl ++ slotV now ts (lv : Int) (sl : Int))).Nodup := by
    rw [← slR_on]
    have h2 := slP_nodup h (lv + 1)
    rw [slP_on] at h2
    refine h2.sublist ((List.Sublist.refl _).append ?_)
    have h3 : ∀ d : Nat, (slR now ts lv (sl + 1)).Sublist (slR now ts lv (sl + 1 + d)) := fun d => by
      induction d with
      | zero => exact List.Sublist.refl _
      | succ d ih => rw [← Nat.add_assoc, slR_on (c := sl + 1 + d)]; exact ih.trans (List.sublist_append_left _ _)
    have := h3 (63 - sl)
    rwa [show sl + 1 + (63 - sl) = 64 by omega] at this
  have e : (slotV now ts (lv : Int) (sl : Int)).take (q + 1) = (slotV now ts (lv : Int) (sl : Int)).take q ++ [x] := by rw [List.take_add_one, hx]; rfl
  have h4 : (slP now ts lv ++ (slR now ts lv sl ++ (slotV now ts (lv : Int) (sl : Int)).take (q + 1))).Nodup :=
    h1.sublist ((List.Sublist.refl _).append ((List.Sublist.refl _).append (List.take_sublist _ _)))
  rw [e] at h4
  simpa using h4
theorem bump_next {D : List (Int × Int)} {a l : List Int} {x : Int} (hD : D = bumpL (a ++ l.take q)) (hx : l[q]? = some x) : mupd D x ((mget D x).getD 0 + 1) = bumpL (a ++ l.take (q + 1)) := by
  rw [List.take_add_one, hx]
  subst hD
  have := bump_on (l := a ++ l.take q) (k := x)
  rw [← this]
  simp
theorem slP_mem (h : GoodW now ts) : k ∈ slP now ts 9 ↔ k ∈ ts.map Tim.id := by
  rw [mem_slP, List.mem_map]
  constructor
  · rintro ⟨l, _, hl⟩
    obtain ⟨s, _, hs⟩ := mem_slR.1 hl
    obtain ⟨t, ht, e, _⟩ := mem_slot.1 hs
    exact ⟨t, ht, e⟩
  · rintro ⟨t, ht, rfl⟩
    obtain ⟨m, hm, e, _, h0, h1⟩ := h.plc ht
    refine ⟨m, by omega, mem_slR.2 ⟨(dig t.due (m : Int)).toNat, by omega, mem_slot.2 ⟨t, ht, rfl, ?_⟩⟩⟩
    rw [e, show ((dig t.due (m : Int)).toNat : Int) = dig t.due (m : Int) by omega]
theorem all_one (h : GoodW now ts) (ht : t ∈ ts) : (mget (bumpL (slP now ts 9)) t.id).getD 0 = 1 := bump_get (slP_nodup h 9) ((slP_mem h).2 (List.mem_map.2 ⟨t, ht, rfl⟩))
theorem all_len (h : GoodW now ts) : (bumpL (slP now ts 9)).length = ts.length := by
  rw [bump_len (slP_nodup h 9), same_len (slP_nodup h 9) (h.rs.map Tim.id (fun a b hab => by omega) : (ts.map Tim.id).Nodup) fun x => slP_mem h, List.length_map]
/-- The first that is due stands on the least level. -/
theorem first_low (h : wheelB now ts = true) {c : Int} (hE : ∃ t ∈ ts, c = (placeV now t.due).1) (hI : ∀ t ∈ ts, c ≤ (placeV now t.due).1) (hx : x ∈ ts) : x.due = leastV ts → (placeV now x.due).1 = c := fun e => by
  have hg := wheel_iff.1 h
  obtain ⟨t, ht, e2⟩ := hE
  have h1 := hI x hx
  have hne : ts ≠ [] := fun e => by subst e; cases hx
  have h2 := (nx_mem h hne).2 t ht
  have h3 := place_mono hg.n0 (hg.tm x hx).2.2.1 (show x.due ≤ t.due by omega) (hg.tm t ht).2.2.2
  omega
end
end Go.Proofs.Ytjfebdhflkndmaa

/-! The statement WheelSlots, walked. -/
namespace Go.Proofs.Ytjfebdhflkndmaa
open Go Go.RowKit

set_option maxRecDepth 100000 in
theorem slots_law (now : Int) (p : Option Addr) (n cap : Nat) (ts : List Tim) (w : World)
 (hts : Sv w p ts) (hn : n = ts.length)
 : Calls Try.prog 7 #[.agg #[.int .i64 now, .slice p n cap]] w fun e w' => e = .returned (.bool true) ∧ Below w.heap.size w w' := by
 refine enter (Hs.start w) Try.func7 rfl Try.ntmps7 rfl (sq_ (ma0 [] [] (fun γ1 => [(1, .pointer (some ⟨γ1 0, 0, none⟩))]) (fun γ1 L => bx (γ1 0) (#[.int .i64 now, .slice p n cap]) 24 :: L) (fun γ1 => ds_ (sq_ (sq_ (ao_ (cD (.bool true) Try.call8 (fun w hw => wakes_t w) (qo0 1 [] [1] [(25, .bool false)] (on_ (ds_ (f_ (at_skip (ds_ (sq_ (sq_ ?_)))))))))))))))
 by_cases q5 : ((n : Nat) : Int) > (100 : Int)
 ·
  refine qa [(1, .go (owns 0 1 1)), (3, .yes)] [1] [(34, .bool true)] ([((n : Nat) : Int) > (100 : Int)]) (al1 q5) (ds_ (t_ (sq_ (qa0 [] [] [(2, .bool true)] (ds_ (rt ([]) (.bool true) ?_))))))
  exact fun w' hw => ⟨rfl, hw.below⟩
 ·
  refine ao_ (qo 6 [(1, .go (owns 0 1 1)), (3, .no), (5, .go (owns 0 0 2))] [1] [(30, .bool false), (31, .agg #[.int .i64 now, .slice p n cap])] ([¬ (((n : Nat) : Int) > (100 : Int))]) (al1 q5) ?_)
  rcases q9 : wheelB now ts with _ | _
  ·
   refine cD (.int .i64 250) Try.call10 (fun w hw => by have := wcheck_t now p n cap ts w (hts.kept hw.below) hn (by omega); rw [q9] at this; exact this) (qo0 2 [] [1] [(34, .bool true)] (on_ (ds_ (t_ (sq_ (qa0 [] [] [(2, .bool true)] (ds_ (rt ([]) (.bool true) ?_))))))))
   exact fun w' hw => ⟨rfl, hw.below⟩
  ·
   refine cD (.int .i64 0) Try.call10 (fun w hw => by have := wcheck_t now p n cap ts w (hts.kept hw.below) hn (by omega); rw [q9] at this; exact this) (qo0 2 [] [1] [(34, .bool false)] (on_ (ds_ (f_ (at_skip (ds_ (sq_ ?_)))))))
   have hgw := wheel_iff.1 q9
   have hn0 := hgw.n0
   have hn1 := hgw.n1
   refine ma0 [] [1] (fun γ13 => [(3, .map (some (γ13 0)))]) (fun γ13 L => (γ13 0, .map #[] 0) :: L) (fun γ13 => ds_ (sq_ (sq_ (qa0 [] [1, 3] [(36, .int .i64 0)] (ds_ (at_block (at_loop (α := Nat × List (Int × Int) × Array MapEntry × Nat) [1, 3, 36] (fun ⟨lv, Da, esa, cka⟩ => [(1, .pointer (some ⟨γ1 0, 0, none⟩)), (3, .map (some (γ13 0))), (36, .int .i64 ((lv : Nat)))]) (fun ⟨lv, Da, esa, cka⟩ => [(γ13 0, .map esa cka), bx (γ1 0) (#[.int .i64 now, .slice p n cap]) 24]) (fun ⟨lv, Da, esa, cka⟩ => lv ≤ 9 ∧ MapIs .i64 (Value.int .i64) esa Da ∧ Da = bumpL (slP now ts lv)) (fun ⟨lv, Da, esa, cka⟩ => 9 - lv) (0, [], #[], 0) (by kernel_rfl) rfl ⟨Nat.zero_le _, (MapIs.nil (ik := .i64) (enc := (Value.int .i64))), rfl⟩ ?_)))))))
   rintro ⟨lv, Da, esa, cka⟩
   rintro ⟨hlv, hMa, hDa⟩
   refine sq_ ?_
   by_cases q16 : ((lv : Nat) : Int) < (9 : Int)
   ·
    refine qa [(0, .yes)] [1, 3, 36] [(37, .bool true)] ([((lv : Nat) : Int) < (9 : Int)]) (al1 q16) (ds_ (sq_ (t_ (at_skip (ds_ (sq_ (at_block (sq_ (qa0 [] [1, 3, 36] [(4, .int .i64 ((lv : Nat)))] (ds_ (sq_ (qa0 [] [1, 3, 4, 36] [(39, .int .i64 0)] (ds_ (at_block (at_loop (α := Nat × List (Int × Int) × Array MapEntry × Nat) [1, 3, 4, 36, 39] (fun ⟨sl, Db, esb, ckb⟩ => [(1, .pointer (some ⟨γ1 0, 0, none⟩)), (3, .map (some (γ13 0))), (4, .int .i64 ((lv : Nat))), (36, .int .i64 ((lv : Nat))), (39, .int .i64 ((sl : Nat)))]) (fun ⟨sl, Db, esb, ckb⟩ => [(γ13 0, .map esb ckb), bx (γ1 0) (#[.int .i64 now, .slice p n cap]) 24]) (fun ⟨sl, Db, esb, ckb⟩ => sl ≤ 64 ∧ MapIs .i64 (Value.int .i64) esb Db ∧ Db = bumpL (slP now ts lv ++ slR now ts lv sl)) (fun ⟨sl, Db, esb, ckb⟩ => 64 - sl) (0, Da, esa, cka) (by kernel_rfl) rfl ⟨Nat.zero_le _, hMa, by rw [hDa]; simp [slR]⟩ ?_)))))))))))))))
    rintro ⟨sl, Db, esb, ckb⟩
    rintro ⟨hsl, hMb, hDb⟩
    refine sq_ ?_
    by_cases q21 : ((sl : Nat) : Int) < (64 : Int)
    ·
     refine qa [(0, .yes)] [1, 3, 4, 36, 39] [(40, .bool true)] ([((sl : Nat) : Int) < (64 : Int)]) (al1 q21) (ds_ (sq_ (t_ (at_skip (ds_ (sq_ (at_block (sq_ (qa0 [] [1, 3, 4, 36, 39] [(5, .int .i64 ((sl : Nat)))] (ds_ (sq_ (ao_ (qo0 3 [(0, .go (owns 1 0 2))] [1, 3, 4, 5, 36, 39] [(42, .agg #[.int .i64 now, .slice p n cap]), (43, .int .i64 ((lv : Nat))), (44, .int .i64 ((sl : Nat)))] (cP (fun v L' => ∃ q_ m_ c_ Y_, v = .slice q_ m_ c_ ∧ L' = List.take 2 ([(γ13 0, .map esb ckb), bx (γ1 0) (#[.int .i64 now, .slice p n cap]) 24]) ++ (Y_ ++ List.drop 2 ([(γ13 0, .map esb ckb), bx (γ1 0) (#[.int .i64 now, .slice p n cap]) 24])) ∧ SlO 3 Y_ q_ m_ c_ (slotV now ts (lv : Int) (sl : Int)) ∧ m_ ≤ 1000) Try.call23 (fun w hw => by have := slot_t now p n cap ts (lv : Int) (sl : Int) w (hts.kept hw.below) hn (by omega); rw [if_pos q9] at this; exact this.mono fun e w' ⟨q_, m_, c_, Y_, he, hO, hm, hb, hY⟩ => ⟨_, _, he, ⟨q_, m_, c_, Y_, rfl, rfl, hO, hm⟩, hw.join hb hY 2⟩) ?_))))))))))))))
     rintro v25 L25 ⟨q25, m25, cq25, Y25, rfl, rfl, hO25, hmb25⟩
     have hm25 := hO25.len
     refine qo0 1 [] [1, 3, 4, 5, 36, 39] [(6, .slice q25 m25 cq25)] (on_ (ds_ (sq_ (sq_ ?_))))
     by_cases q28 : ((m25 : Nat) : Int) > (0 : Int)
     ·
      refine ao_ (qo 9 [(2, .yes), (6, .go (owns 1 0 1)), (8, .fit)] [1, 3, 4, 6, 36, 39] [(49, .bool true), (50, .int .i64 ((sl : Nat))), (52, .int .i64 now), (54, .int .i64 (6 * ((lv : Nat))))] ([((m25 : Nat) : Int) > (0 : Int)] ++ ([Fit .i64 (6 * ((lv : Nat)))])) (alA (al1 q28) (al1 (fit64 (by omega) (by omega)))) (ops_opv (.int .i64 (now / 64 ^ ((lv : Nat) : Int).toNat)) (by kernel_rfl) (by kernel_rfl) (by kernel_rfl) (fun w => run_shr (kd := .i64) (kd' := .i64) (a := now) (n := 6 * ((lv : Nat))) (now / 64 ^ ((lv : Nat) : Int).toNat) rfl (by kernel_rfl) (by kernel_rfl) (by omega) (shr_is (lv := ((lv : Nat) : Int)) (by omega) (by omega) hn0) w) (qo 3 [(11, .no)] [1, 3, 4, 6, 36, 39] [(58, .bool false)] ([¬ (((sl : Nat) : Int) ≤ (dig now ((lv : Nat) : Int) : Int))]) (al1 ((by have := slot_ahead (lv := lv) (sl := sl) hgw (by omega); omega))) (on_ (ds_ (f_ (at_skip (ds_ (sq_ (qa0 [] [1, 3, 4, 36, 39] [(59, .slice q25 m25 cq25), (60, .int .i64 ((m25 : Nat))), (61, .int .i64 0)] (ds_ (at_block (at_loop (α := Nat × List (Int × Int) × Array MapEntry × Nat) [1, 3, 4, 36, 39, 59, 60, 61] (fun ⟨qq, Dc, esc, ckc⟩ => [(1, .pointer (some ⟨γ1 0, 0, none⟩)), (3, .map (some (γ13 0))), (4, .int .i64 ((lv : Nat))), (36, .int .i64 ((lv : Nat))), (39, .int .i64 ((sl : Nat))), (59, .slice q25 m25 cq25), (60, .int .i64 ((m25 : Nat))), (61, .int .i64 ((qq : Nat)))]) (fun ⟨qq, Dc, esc, ckc⟩ => (γ13 0, .map esc ckc) :: bx (γ1 0) (#[.int .i64 now, .slice p n cap]) 24 :: (Y25 ++ [])) (fun ⟨qq, Dc, esc, ckc⟩ => qq ≤ m25 ∧ MapIs .i64 (Value.int .i64) esc Dc ∧ Dc = bumpL (slP now ts lv ++ slR now ts lv sl ++ (slotV now ts (lv : Int) (sl : Int)).take qq)) (fun ⟨qq, Dc, esc, ckc⟩ => m25 - qq) (0, Db, esb, ckb) (by kernel_rfl) rfl ⟨Nat.zero_le _, hMb, by rw [hDb]; simp⟩ ?_)))))))))))))
      rintro ⟨qq, Dc, esc, ckc⟩
      rintro ⟨hqq, hMc, hDc⟩
      refine sq_ ?_
      by_cases q33 : ((qq : Nat) : Int) < ((m25 : Nat) : Int)
      ·
       refine qa [(0, .yes)] [1, 3, 4, 36, 39, 59, 60, 61] [(62, .bool true)] ([((qq : Nat) : Int) < ((m25 : Nat) : Int)]) (al1 q33) (ds_ (sq_ (t_ (at_skip (ds_ (sq_ (at_block (sq_ ?_))))))))
       have hln36 := hO25.len
       obtain ⟨g36, cs36, rfl, rfl, hOw36⟩ := hO25.rowOf (i := qq) (by omega)
       obtain ⟨x38, hx38⟩ := get_some (l := (slotV now ts (lv : Int) (sl : Int))) (m := qq) (by omega)
       refine qa [(0, .at g36 0 qq), (1, .go (ownps 2 (0 + qq * 1) [.int .i64 x38]))] [1, 3, 4, 36, 39, 59, 60, 61] [(8, .int .i64 x38)] ([(some ⟨g36, 0, none⟩ : Option Addr) = some ⟨g36, 0, none⟩, ((qq : Nat)) = ((qq : Nat) : Int), qq < m25] ++ (acellsP cs36 (0 + qq * 1) [.int .i64 x38])) (alA (al2 rfl (al2 rfl (al1 (by omega)))) (rda_pre ((hOw36.rdx hO25.len hx38)) _ rfl)) (ds_ ?_)
       have hz : (mget Dc x38).getD 0 = 0 := by rw [hDc]; exact slot_new hgw (by omega) hx38
       refine ao_ (qo0 2 [] [1, 3, 4, 36, 39, 59, 60, 61] [(65, .map (some (γ13 0))), (66, .int .i64 x38)] (ops_lookup (ik := .i64) (enc := (Value.int .i64)) (kk := x38) 0 ((Value.int .i64) 0) (.int .i64 ((mget Dc x38).getD 0)) rfl (by kernel_rfl) (by kernel_rfl) (by kernel_rfl) (by kernel_rfl) (⟨3, 3, by kernel_rfl, by kernel_rfl, by kernel_rfl⟩ : mapB Try.prog 58 .i64 ((Value.int .i64) 0)) rfl hMc (map_getD _ _ _) (qo 1 [(3, .fit)] [1, 3, 4, 36, 39, 59, 60, 61, 65, 66] [(68, .int .i64 (((mget Dc x38).getD 0) + 1))] ([Fit .i64 (((mget Dc x38).getD 0) + 1)]) (al1 (fit64 (by omega) (by omega))) (ops_update (ik := .i64) (enc := (Value.int .i64)) (kk := x38) 0 (((mget Dc x38).getD 0) + 1) ((Value.int .i64) 0) rfl (by kernel_rfl) (by kernel_rfl) (by kernel_rfl) (by kernel_rfl) (by kernel_rfl) (⟨3, 3, by kernel_rfl, by kernel_rfl, by kernel_rfl⟩ : mapB Try.prog 58 .i64 ((Value.int .i64) 0)) rfl hMc (fun es42 ck42 hM42 => on_ (done_block (ds_ (qa [(0, .fit)] [1, 3, 4, 36, 39, 59, 60] [(61, .int .i64 ((qq + 1 : Nat)))] ([Fit .i64 ((qq + 1 : Nat))]) (al1 (fit64 (by omega) (by omega))) ?_))))))))
       exact dr [1, 3, 4, 36, 39, 59, 60, 61] (qq + 1, (mupd Dc x38 (((mget Dc x38).getD 0) + 1)), es42, ck42) ⟨by omega, hM42, bump_next hDc hx38⟩
      ·
       refine qa [(0, .no)] [1, 3, 4, 36, 39, 59, 60, 61] [(62, .bool false)] ([¬ (((qq : Nat) : Int) < ((m25 : Nat) : Int))]) (al1 q33) (ds_ (sq_ (f_ (at_leave _ rfl (done_block (ds_ (qa [(0, .fit)] [1, 3, 4, 36] [(39, .int .i64 ((sl + 1 : Nat)))] ([Fit .i64 ((sl + 1 : Nat))]) (al1 (fit64 (by omega) (by omega))) (Done.drop (L' := [(γ13 0, .map esc ckc), bx (γ1 0) (#[.int .i64 now, .slice p n cap]) 24]) ?_ (List.Sublist.cons_cons _ (List.Sublist.cons_cons _ (List.sublist_append_right _ _)))))))))))
       exact dr [1, 3, 4, 36, 39] (sl + 1, Dc, esc, ckc) ⟨by omega, hMc, by rw [slR_on, hDc, List.take_of_length_le (by omega), List.append_assoc]⟩
     ·
      refine qa [(2, .no)] [1, 3, 4, 6, 36, 39] [(58, .bool false)] ([¬ (((m25 : Nat) : Int) > (0 : Int))]) (al1 q28) (ds_ (f_ (at_skip (ds_ (sq_ (qa0 [] [1, 3, 4, 36, 39] [(59, .slice q25 m25 cq25), (60, .int .i64 ((m25 : Nat))), (61, .int .i64 0)] (ds_ (at_block (at_loop (α := Nat × List (Int × Int) × Array MapEntry × Nat) [1, 3, 4, 36, 39, 59, 60, 61] (fun ⟨qq, Dc, esc, ckc⟩ => [(1, .pointer (some ⟨γ1 0, 0, none⟩)), (3, .map (some (γ13 0))), (4, .int .i64 ((lv : Nat))), (36, .int .i64 ((lv : Nat))), (39, .int .i64 ((sl : Nat))), (59, .slice q25 m25 cq25), (60, .int .i64 ((m25 : Nat))), (61, .int .i64 ((qq : Nat)))]) (fun ⟨qq, Dc, esc, ckc⟩ => (γ13 0, .map esc ckc) :: bx (γ1 0) (#[.int .i64 now, .slice p n cap]) 24 :: (Y25 ++ [])) (fun ⟨qq, Dc, esc, ckc⟩ => qq ≤ m25 ∧ MapIs .i64 (Value.int .i64) esc Dc ∧ Dc = bumpL (slP now ts lv ++ slR now ts lv sl ++ (slotV now ts (lv : Int) (sl : Int)).take qq)) (fun ⟨qq, Dc, esc, ckc⟩ => m25 - qq) (0, Db, esb, ckb) (by kernel_rfl) rfl ⟨Nat.zero_le _, hMb, by rw [hDb]; simp⟩ ?_)))))))))
      rintro ⟨qq, Dc, esc, ckc⟩
      rintro ⟨hqq, hMc, hDc⟩
      refine sq_ ?_
      by_cases q50 : ((qq : Nat) : Int) < ((m25 : Nat) : Int)
      ·
       refine qa [(0, .yes)] [1, 3, 4, 36, 39, 59, 60, 61] [(62, .bool true)] ([((qq : Nat) : Int) < ((m25 : Nat) : Int)]) (al1 q50) (ds_ (sq_ (t_ (at_skip (ds_ (sq_ (at_block (sq_ ?_))))))))
       have hln53 := hO25.len
       obtain ⟨g53, cs53, rfl, rfl, hOw53⟩ := hO25.rowOf (i := qq) (by omega)
       obtain ⟨x55, hx55⟩ := get_some (l := (slotV now ts (lv : Int) (sl : Int))) (m := qq) (by omega)
       refine qa [(0, .at g53 0 qq), (1, .go (ownps 2 (0 + qq * 1) [.int .i64 x55]))] [1, 3, 4, 36, 39, 59, 60, 61] [(8, .int .i64 x55)] ([(some ⟨g53, 0, none⟩ : Option Addr) = some ⟨g53, 0, none⟩, ((qq : Nat)) = ((qq : Nat) : Int), qq < m25] ++ (acellsP cs53 (0 + qq * 1) [.int .i64 x55])) (alA (al2 rfl (al2 rfl (al1 (by omega)))) (rda_pre ((hOw53.rdx hO25.len hx55)) _ rfl)) (ds_ ?_)
       have hz : (mget Dc x55).getD 0 = 0 := by rw [hDc]; exact slot_new hgw (by omega) hx55
       refine ao_ (qo0 2 [] [1, 3, 4, 36, 39, 59, 60, 61] [(65, .map (some (γ13 0))), (66, .int .i64 x55)] (ops_lookup (ik := .i64) (enc := (Value.int .i64)) (kk := x55) 0 ((Value.int .i64) 0) (.int .i64 ((mget Dc x55).getD 0)) rfl (by kernel_rfl) (by kernel_rfl) (by kernel_rfl) (by kernel_rfl) (⟨3, 3, by kernel_rfl, by kernel_rfl, by kernel_rfl⟩ : mapB Try.prog 58 .i64 ((Value.int .i64) 0)) rfl hMc (map_getD _ _ _) (qo 1 [(3, .fit)] [1, 3, 4, 36, 39, 59, 60, 61, 65, 66] [(68, .int .i64 (((mget Dc x55).getD 0) + 1))] ([Fit .i64 (((mget Dc x55).getD 0) + 1)]) (al1 (fit64 (by omega) (by omega))) (ops_update (ik := .i64) (enc := (Value.int .i64)) (kk := x55) 0 (((mget Dc x55).getD 0) + 1) ((Value.int .i64) 0) rfl (by kernel_rfl) (by kernel_rfl) (by kernel_rfl) (by kernel_rfl) (by kernel_rfl) (⟨3, 3, by kernel_rfl, by kernel_rfl, by kernel_rfl⟩ : mapB Try.prog 58 .i64 ((Value.int .i64) 0)) rfl hMc (fun es59 ck59 hM59 => on_ (done_block (ds_ (qa [(0, .fit)] [1, 3, 4, 36, 39, 59, 60] [(61, .int .i64 ((qq + 1 : Nat)))] ([Fit .i64 ((qq + 1 : Nat))]) (al1 (fit64 (by omega) (by omega))) ?_))))))))
       exact dr [1, 3, 4, 36, 39, 59, 60, 61] (qq + 1, (mupd Dc x55 (((mget Dc x55).getD 0) + 1)), es59, ck59) ⟨by omega, hM59, bump_next hDc hx55⟩
      ·
       refine qa [(0, .no)] [1, 3, 4, 36, 39, 59, 60, 61] [(62, .bool false)] ([¬ (((qq : Nat) : Int) < ((m25 : Nat) : Int))]) (al1 q50) (ds_ (sq_ (f_ (at_leave _ rfl (done_block (ds_ (qa [(0, .fit)] [1, 3, 4, 36] [(39, .int .i64 ((sl + 1 : Nat)))] ([Fit .i64 ((sl + 1 : Nat))]) (al1 (fit64 (by omega) (by omega))) (Done.drop (L' := [(γ13 0, .map esc ckc), bx (γ1 0) (#[.int .i64 now, .slice p n cap]) 24]) ?_ (List.Sublist.cons_cons _ (List.Sublist.cons_cons _ (List.sublist_append_right _ _)))))))))))
       exact dr [1, 3, 4, 36, 39] (sl + 1, Dc, esc, ckc) ⟨by omega, hMc, by rw [slR_on, hDc, List.take_of_length_le (by omega), List.append_assoc]⟩
    ·
     refine qa [(0, .no)] [1, 3, 4, 36, 39] [(40, .bool false)] ([¬ (((sl : Nat) : Int) < (64 : Int))]) (al1 q21) (ds_ (sq_ (f_ (at_leave _ rfl (done_block (ds_ (qa [(0, .fit)] [1, 3] [(36, .int .i64 ((lv + 1 : Nat)))] ([Fit .i64 ((lv + 1 : Nat))]) (al1 (fit64 (by omega) (by omega))) ?_)))))))
     exact dr [1, 3, 36] (lv + 1, Db, esb, ckb) ⟨by omega, hMb, by rw [slP_on, hDb, show sl = 64 from by omega]⟩
   ·
    refine qa [(0, .no)] [1, 3, 36] [(37, .bool false)] ([¬ (((lv : Nat) : Int) < (9 : Int))]) (al1 q16) (ds_ (sq_ (f_ (at_leave _ rfl (ds_ (sq_ (sq_ ?_)))))))
    have e9 : lv = 9 := by omega
    rw [e9] at hDa
    have hall := fun (t : Tim) (ht : t ∈ ts) => all_one hgw ht
    rw [← hDa] at hall
    have hmlen := all_len hgw
    rw [← hDa] at hmlen
    refine qa0 [(1, .go (owns 1 1 1))] [1, 3] [(73, .slice p n cap), (74, .int .i64 ((n : Nat))), (75, .int .i64 0)] (ds_ (at_block (at_loop (α := Nat) [1, 3, 73, 74, 75] (fun j1 => [(1, .pointer (some ⟨γ1 0, 0, none⟩)), (3, .map (some (γ13 0))), (73, .slice p n cap), (74, .int .i64 ((n : Nat))), (75, .int .i64 ((j1 : Nat)))]) (fun j1 => [(γ13 0, .map esa cka), bx (γ1 0) (#[.int .i64 now, .slice p n cap]) 24]) (fun j1 => j1 ≤ n) (fun j1 => n - j1) 0 (by kernel_rfl) rfl (Nat.zero_le _) ?_)))
    rintro j1
    rintro hj1
    refine sq_ ?_
    by_cases q69 : ((j1 : Nat) : Int) < ((n : Nat) : Int)
    ·
     refine qa [(0, .yes)] [1, 3, 73, 74, 75] [(76, .bool true)] ([((j1 : Nat) : Int) < ((n : Nat) : Int)]) (al1 q69) (ds_ (sq_ (t_ (at_skip (ds_ (sq_ (at_block (sq_ ?_))))))))
     obtain ⟨b72, o72, rfl⟩ := hts.pos (i := j1) (by omega)
     obtain ⟨x74, hx74⟩ := get_some (l := ts) (m := j1) (by omega)
     refine ma [(0, .at b72 o72 j1), (1, .go (outs b72 (o72 + j1 * 2) [.int .i64 x74.id, .int .i64 x74.due])), (3, .go (owns 0 0 2))] [1, 3, 73, 74, 75] (fun γ75 => [(10, .pointer (some ⟨γ75 0, 0, none⟩))]) (fun γ75 L => bx (γ75 0) (#[.int .i64 x74.id, .int .i64 x74.due]) 33 :: L) (fun γ75 => [(some ⟨b72, o72, none⟩ : Option Addr) = some ⟨b72, o72, none⟩, ((j1 : Nat)) = ((j1 : Nat) : Int), j1 < n] ++ (cellsP w b72 (o72 + j1 * 2) [.int .i64 x74.id, .int .i64 x74.due])) (fun γ75 => (alA (al2 rfl (al2 rfl (al1 (by omega)))) (rd_pre (hts.get hx74) _ rfl))) (fun γ75 => ds_ (sq_ ?_))
     have hg1 := hall x74 (List.mem_of_getElem? hx74)
     refine ao_ (qo0 3 [(2, .go (owns 0 0 1))] [1, 3, 73, 74, 75] [(79, .map (some (γ13 0))), (81, .int .i64 x74.id)] (ops_lookup (ik := .i64) (enc := (Value.int .i64)) (kk := x74.id) 1 ((Value.int .i64) 0) (.int .i64 ((mget Da x74.id).getD 0)) rfl (by kernel_rfl) (by kernel_rfl) (by kernel_rfl) (by kernel_rfl) (⟨3, 3, by kernel_rfl, by kernel_rfl, by kernel_rfl⟩ : mapB Try.prog 58 .i64 ((Value.int .i64) 0)) rfl hMa (map_getD _ _ _) (qo 1 [(4, .no)] [1, 3, 73, 74, 75] [(83, .bool false)] ([¬ (((mget Da x74.id).getD 0 : Int) ≠ (1 : Int))]) (al1 ((by omega))) (on_ (ds_ (f_ (at_skip (done_block (ds_ (qa [(0, .fit)] [1, 3, 73, 74] [(75, .int .i64 ((j1 + 1 : Nat)))] ([Fit .i64 ((j1 + 1 : Nat))]) (al1 (fit64 (by omega) (by omega))) (Done.drop (L' := [(γ13 0, .map esa cka), bx (γ1 0) (#[.int .i64 now, .slice (some ⟨b72, o72, none⟩) n cap]) 24]) ?_ (List.Sublist.cons _ (List.Sublist.cons_cons _ (List.Sublist.cons_cons _ (List.Sublist.refl _)))))))))))))))
     exact done_round [1, 3, 73, 74, 75] (j1 + 1) (by kernel_rfl) rfl (by omega) (by first | omega | (simp only; omega))
    ·
     refine qa [(0, .no)] [1, 3, 73, 74, 75] [(76, .bool false)] ([¬ (((j1 : Nat) : Int) < ((n : Nat) : Int))]) (al1 q69) (ds_ (sq_ (f_ (at_leave _ rfl (ds_ (sq_ (ao_ (qo0 1 [(0, .go (owns 1 0 2))] [1, 3] [(86, .agg #[.int .i64 now, .slice p n cap])] ?_))))))))
     rcases q81 : decide (ts = []) with _ | _
     ·
      refine cD (.tuple #[.int .i64 (leastV ts), .bool true]) Try.call9 (fun w hw => by have := next_t now p n cap ts w (hts.kept hw.below) hn (by omega); rw [nextV_okd q9 (of_decide_eq_false q81)] at this; exact this) (qo0 5 [] [1, 3] [(11, .int .i64 (leastV ts)), (12, .bool true)] (on_ (ds_ (sq_ (qa0 [] [1, 3, 11, 12] [(13, .int .i64 9)] (ds_ (sq_ (sq_ (qa0 [(1, .go (owns 1 1 1))] [1, 3, 11, 12, 13] [(91, .slice p n cap), (92, .int .i64 ((n : Nat))), (93, .int .i64 0)] (ds_ (at_block (at_loop (α := Nat × Int) [1, 3, 11, 12, 13, 91, 92, 93] (fun ⟨j2, c⟩ => [(1, .pointer (some ⟨γ1 0, 0, none⟩)), (3, .map (some (γ13 0))), (11, .int .i64 (leastV ts)), (12, .bool true), (13, .int .i64 c), (91, .slice p n cap), (92, .int .i64 ((n : Nat))), (93, .int .i64 ((j2 : Nat)))]) (fun ⟨j2, c⟩ => [(γ13 0, .map esa cka), bx (γ1 0) (#[.int .i64 now, .slice p n cap]) 24]) (fun ⟨j2, c⟩ => j2 ≤ n ∧ (0 ≤ c ∧ c ≤ 9) ∧ ((j2 = 0 ∧ c = 9) ∨ ∃ t ∈ ts, c = (placeV now t.due).1) ∧ ∀ t ∈ ts.take j2, c ≤ (placeV now t.due).1) (fun ⟨j2, c⟩ => n - j2) (0, 9) (by kernel_rfl) rfl ⟨Nat.zero_le _, ⟨by omega, by omega⟩, .inl ⟨rfl, rfl⟩, all_take0T⟩ ?_))))))))))))
      rintro ⟨j2, c⟩
      rintro ⟨hj2, hc9, hcE, hcI⟩
      refine sq_ ?_
      by_cases q86 : ((j2 : Nat) : Int) < ((n : Nat) : Int)
      ·
       refine qa [(0, .yes)] [1, 3, 11, 12, 13, 91, 92, 93] [(94, .bool true)] ([((j2 : Nat) : Int) < ((n : Nat) : Int)]) (al1 q86) (ds_ (sq_ (t_ (at_skip (ds_ (sq_ (at_block (sq_ ?_))))))))
       obtain ⟨b89, o89, rfl⟩ := hts.pos (i := j2) (by omega)
       obtain ⟨x91, hx91⟩ := get_some (l := ts) (m := j2) (by omega)
       refine ma [(0, .at b89 o89 j2), (1, .go (outs b89 (o89 + j2 * 2) [.int .i64 x91.id, .int .i64 x91.due])), (3, .go (owns 0 0 2))] [1, 3, 11, 12, 13, 91, 92, 93] (fun γ92 => [(15, .pointer (some ⟨γ92 0, 0, none⟩))]) (fun γ92 L => bx (γ92 0) (#[.int .i64 x91.id, .int .i64 x91.due]) 33 :: L) (fun γ92 => [(some ⟨b89, o89, none⟩ : Option Addr) = some ⟨b89, o89, none⟩, ((j2 : Nat)) = ((j2 : Nat) : Int), j2 < n] ++ (cellsP w b89 (o89 + j2 * 2) [.int .i64 x91.id, .int .i64 x91.due])) (fun γ92 => (alA (al2 rfl (al2 rfl (al1 (by omega)))) (rd_pre (hts.get hx91) _ rfl))) (fun γ92 => ds_ (sq_ ?_))
       have hpb := place_bnd (a := now) (b := x91.due)
       refine ao_ (qo0 3 [(0, .go (owns 2 0 2)), (2, .go (owns 0 0 1))] [1, 3, 11, 12, 13, 91, 92, 93] [(98, .agg #[.int .i64 now, .slice (some ⟨b89, o89, none⟩) n cap]), (100, .int .i64 x91.id)] (cD (.tuple #[.int .i64 ((placeV now x91.due).1), .int .i64 ((placeV now x91.due).2), .bool true]) Try.call21 (fun w hw => by have := wplace_t now (some ⟨b89, o89, none⟩) n cap ts x91.id w (hts.kept hw.below) hn (by omega); rw [plO_some q9 (hgw.getd.2 ⟨List.mem_of_getElem? hx91, rfl⟩)] at this; exact this) (qo0 7 [] [1, 3, 11, 12, 13, 91, 92, 93] [(16, .int .i64 ((placeV now x91.due).1)), (18, .bool true)] (on_ (ds_ (sq_ (sq_ (qa0 [] [1, 3, 11, 12, 13, 16, 91, 92, 93] [(106, .bool false)] (ds_ (f_ (at_skip (ds_ ?_))))))))))))
       by_cases q97 : ((placeV now x91.due).1 : Int) < (c : Int)
       ·
        refine qa [(2, .is [] (.int .i64 ((placeV now x91.due).1)))] [1, 3, 11, 12, 91, 92, 93] [(13, .int .i64 ((placeV now x91.due).1))] ([Value.int .i64 (if ((placeV now x91.due).1 : Int) < (c : Int) then (placeV now x91.due).1 else c) = .int .i64 ((placeV now x91.due).1)]) (al1 (by rw [if_pos q97])) (done_block (ds_ (qa [(0, .fit)] [1, 3, 11, 12, 13, 91, 92] [(93, .int .i64 ((j2 + 1 : Nat)))] ([Fit .i64 ((j2 + 1 : Nat))]) (al1 (fit64 (by omega) (by omega))) (Done.drop (L' := [(γ13 0, .map esa cka), bx (γ1 0) (#[.int .i64 now, .slice (some ⟨b89, o89, none⟩) n cap]) 24]) ?_ (List.Sublist.cons _ (List.Sublist.cons_cons _ (List.Sublist.cons_cons _ (List.Sublist.refl _))))))))
        exact dr [1, 3, 11, 12, 13, 91, 92, 93] (j2 + 1, (placeV now x91.due).1) ⟨by omega, by omega, .inr ⟨x91, List.mem_of_getElem? hx91, rfl⟩, all_onT (fun t ht => by have := hcI t ht; omega) hx91 (Int.le_refl _)⟩
       ·
        refine qa [(2, .is [] (.int .i64 c))] [1, 3, 11, 12, 91, 92, 93] [(13, .int .i64 c)] ([Value.int .i64 (if ((placeV now x91.due).1 : Int) < (c : Int) then (placeV now x91.due).1 else c) = .int .i64 c]) (al1 (by rw [if_neg q97])) (done_block (ds_ (qa [(0, .fit)] [1, 3, 11, 12, 13, 91, 92] [(93, .int .i64 ((j2 + 1 : Nat)))] ([Fit .i64 ((j2 + 1 : Nat))]) (al1 (fit64 (by omega) (by omega))) (Done.drop (L' := [(γ13 0, .map esa cka), bx (γ1 0) (#[.int .i64 now, .slice (some ⟨b89, o89, none⟩) n cap]) 24]) ?_ (List.Sublist.cons _ (List.Sublist.cons_cons _ (List.Sublist.cons_cons _ (List.Sublist.refl _))))))))
        exact dr [1, 3, 11, 12, 13, 91, 92, 93] (j2 + 1, c) ⟨by omega, by omega, (hcE.elim (fun h => .inr ⟨x91, List.mem_of_getElem? hx91, by have := h.2; omega⟩) .inr), all_onT hcI hx91 (by omega)⟩
      ·
       refine qa [(0, .no)] [1, 3, 11, 12, 13, 91, 92, 93] [(94, .bool false)] ([¬ (((j2 : Nat) : Int) < ((n : Nat) : Int))]) (al1 q86) (ds_ (sq_ (f_ (at_leave _ rfl (ds_ (sq_ (sq_ ?_)))))))
       rw [List.take_of_length_le (by omega)] at hcI
       refine qa0 [(1, .go (owns 1 1 1))] [1, 3, 11, 12, 13] [(112, .slice p n cap), (113, .int .i64 ((n : Nat))), (114, .int .i64 0)] (ds_ (at_block (at_loop (α := Nat) [1, 3, 11, 12, 13, 112, 113, 114] (fun j3 => [(1, .pointer (some ⟨γ1 0, 0, none⟩)), (3, .map (some (γ13 0))), (11, .int .i64 (leastV ts)), (12, .bool true), (13, .int .i64 c), (112, .slice p n cap), (113, .int .i64 ((n : Nat))), (114, .int .i64 ((j3 : Nat)))]) (fun j3 => [(γ13 0, .map esa cka), bx (γ1 0) (#[.int .i64 now, .slice p n cap]) 24]) (fun j3 => j3 ≤ n) (fun j3 => n - j3) 0 (by kernel_rfl) rfl (Nat.zero_le _) ?_)))
       rintro j3
       rintro hj3
       refine sq_ ?_
       by_cases q105 : ((j3 : Nat) : Int) < ((n : Nat) : Int)
       ·
        refine qa [(0, .yes)] [1, 3, 11, 12, 13, 112, 113, 114] [(115, .bool true)] ([((j3 : Nat) : Int) < ((n : Nat) : Int)]) (al1 q105) (ds_ (sq_ (t_ (at_skip (ds_ (sq_ (at_block (sq_ ?_))))))))
        obtain ⟨b108, o108, rfl⟩ := hts.pos (i := j3) (by omega)
        obtain ⟨x110, hx110⟩ := get_some (l := ts) (m := j3) (by omega)
        refine ma [(0, .at b108 o108 j3), (1, .go (outs b108 (o108 + j3 * 2) [.int .i64 x110.id, .int .i64 x110.due])), (3, .go (owns 0 0 2))] [1, 3, 11, 12, 13, 112, 113, 114] (fun γ111 => [(20, .pointer (some ⟨γ111 0, 0, none⟩))]) (fun γ111 L => bx (γ111 0) (#[.int .i64 x110.id, .int .i64 x110.due]) 33 :: L) (fun γ111 => [(some ⟨b108, o108, none⟩ : Option Addr) = some ⟨b108, o108, none⟩, ((j3 : Nat)) = ((j3 : Nat) : Int), j3 < n] ++ (cellsP w b108 (o108 + j3 * 2) [.int .i64 x110.id, .int .i64 x110.due])) (fun γ111 => (alA (al2 rfl (al2 rfl (al1 (by omega)))) (rd_pre (hts.get hx110) _ rfl))) (fun γ111 => ds_ (sq_ (ao_ (qo0 3 [(0, .go (owns 2 0 2)), (2, .go (owns 0 0 1))] [1, 3, 11, 12, 13, 20, 112, 113, 114] [(119, .agg #[.int .i64 now, .slice (some ⟨b108, o108, none⟩) n cap]), (121, .int .i64 x110.id)] (cD (.tuple #[.int .i64 ((placeV now x110.due).1), .int .i64 ((placeV now x110.due).2), .bool true]) Try.call21 (fun w hw => by have := wplace_t now (some ⟨b108, o108, none⟩) n cap ts x110.id w (hts.kept hw.below) hn (by omega); rw [plO_some q9 (hgw.getd.2 ⟨List.mem_of_getElem? hx110, rfl⟩)] at this; exact this) (qo0 7 [] [1, 3, 11, 12, 13, 20, 112, 113, 114] [(21, .int .i64 ((placeV now x110.due).1))] (on_ (ds_ (sq_ ?_)))))))))
        have hE2 : ∃ t ∈ ts, c = (placeV now t.due).1 := hcE.elim (fun h => by omega) id
        have hfl := first_low q9 hE2 hcI (List.mem_of_getElem? hx110)
        by_cases q115 : (x110.due : Int) = (leastV ts : Int)
        ·
         refine qa [(1, .go (owns 0 1 1)), (3, .yes), (7, .no)] [1, 3, 11, 12, 13, 112, 113, 114] [(134, .bool false)] ([(x110.due : Int) = (leastV ts : Int)] ++ ([¬ (((placeV now x110.due).1 : Int) ≠ (c : Int))])) (alA (al1 q115) (al1 ((by omega)))) (ds_ (f_ (at_skip (done_block (ds_ (qa [(0, .fit)] [1, 3, 11, 12, 13, 112, 113] [(114, .int .i64 ((j3 + 1 : Nat)))] ([Fit .i64 ((j3 + 1 : Nat))]) (al1 (fit64 (by omega) (by omega))) (Done.drop (L' := [(γ13 0, .map esa cka), bx (γ1 0) (#[.int .i64 now, .slice (some ⟨b108, o108, none⟩) n cap]) 24]) ?_ (List.Sublist.cons _ (List.Sublist.cons_cons _ (List.Sublist.cons_cons _ (List.Sublist.refl _)))))))))))
         exact done_round [1, 3, 11, 12, 13, 112, 113, 114] (j3 + 1) (by kernel_rfl) rfl (by omega) (by first | omega | (simp only; omega))
        ·
         refine qa [(1, .go (owns 0 1 1)), (3, .no)] [1, 3, 11, 12, 13, 112, 113, 114] [(134, .bool false)] ([¬ ((x110.due : Int) = (leastV ts : Int))]) (al1 q115) (ds_ (f_ (at_skip (done_block (ds_ (qa [(0, .fit)] [1, 3, 11, 12, 13, 112, 113] [(114, .int .i64 ((j3 + 1 : Nat)))] ([Fit .i64 ((j3 + 1 : Nat))]) (al1 (fit64 (by omega) (by omega))) (Done.drop (L' := [(γ13 0, .map esa cka), bx (γ1 0) (#[.int .i64 now, .slice (some ⟨b108, o108, none⟩) n cap]) 24]) ?_ (List.Sublist.cons _ (List.Sublist.cons_cons _ (List.Sublist.cons_cons _ (List.Sublist.refl _)))))))))))
         exact done_round [1, 3, 11, 12, 13, 112, 113, 114] (j3 + 1) (by kernel_rfl) rfl (by omega) (by first | omega | (simp only; omega))
       ·
        refine qa [(0, .no)] [1, 3, 11, 12, 13, 112, 113, 114] [(115, .bool false)] ([¬ (((j3 : Nat) : Int) < ((n : Nat) : Int))]) (al1 q105) (ds_ (sq_ (f_ (at_leave _ rfl (ds_ (sq_ ?_))))))
        by_cases q122 : ((n : Nat) : Int) > (0 : Int)
        ·
         by_cases q124 : (((Da).length : Nat) : Int) = ((n : Nat) : Int)
         ·
          refine ao_ (qo 14 [(2, .go (owns 1 1 1)), (4, .yes), (5, .eqs true), (8, .is [.obj 0] (.int .i64 (((Da).length : Nat)))), (10, .go (owns 1 1 1)), (12, .yes)] [] [(149, .bool true)] ([((n : Nat) : Int) > (0 : Int)] ++ ([EqRun Try.prog .eql 4 (.tmp 136) (.tmp 140) (.bool true) (.bool true) true] ++ ([Value.int .i64 (esa).size = .int .i64 (((Da).length : Nat))] ++ ([(((Da).length : Nat) : Int) = ((n : Nat) : Int)])))) (alA (al1 q122) (alA (al1 (bool_eq true true)) (alA (al1 (by rw [hMa.size]; first | done | rfl)) (al1 q124)))) (qo0 1 [] [] [(2, .bool true)] (on_ (ds_ (rt ([]) (.bool true) ?_)))))
          exact fun w' hw => ⟨rfl, hw.below⟩
         ·
          refine ao_ (qo 14 [(2, .go (owns 1 1 1)), (4, .yes), (5, .eqs true), (8, .is [.obj 0] (.int .i64 (((Da).length : Nat)))), (10, .go (owns 1 1 1)), (12, .no)] [] [(149, .bool false)] ([((n : Nat) : Int) > (0 : Int)] ++ ([EqRun Try.prog .eql 4 (.tmp 136) (.tmp 140) (.bool true) (.bool true) true] ++ ([Value.int .i64 (esa).size = .int .i64 (((Da).length : Nat))] ++ ([¬ ((((Da).length : Nat) : Int) = ((n : Nat) : Int))])))) (alA (al1 q122) (alA (al1 (bool_eq true true)) (alA (al1 (by rw [hMa.size]; first | done | rfl)) (al1 q124)))) (qo0 1 [] [] [(2, .bool false)] (on_ (ds_ (rt ([]) (.bool false) ?_)))))
          exfalso
          have hts0 := of_decide_eq_false q81
          have hpos := List.length_pos_iff.2 hts0
          omega
        ·
         refine ao_ (qo 14 [(2, .go (owns 1 1 1)), (4, .no), (5, .eqs false)] [] [(149, .bool false)] ([¬ (((n : Nat) : Int) > (0 : Int))] ++ ([EqRun Try.prog .eql 4 (.tmp 136) (.tmp 140) (.bool true) (.bool false) false])) (alA (al1 q122) (al1 (bool_eq true false))) (qo0 1 [] [] [(2, .bool false)] (on_ (ds_ (rt ([]) (.bool false) ?_)))))
         exfalso
         have hts0 := of_decide_eq_false q81
         have hpos := List.length_pos_iff.2 hts0
         omega
     ·
      refine cD (.tuple #[.int .i64 0, .bool false]) Try.call9 (fun w hw => by have := next_t now p n cap ts w (hts.kept hw.below) hn (by omega); rw [nextV_nil (by rw [of_decide_eq_true q81]; rfl)] at this; exact this) (qo0 5 [] [1, 3] [(11, .int .i64 0), (12, .bool false)] (on_ (ds_ (sq_ (qa0 [] [1, 3, 11, 12] [(13, .int .i64 9)] (ds_ (sq_ (sq_ (qa0 [(1, .go (owns 1 1 1))] [1, 3, 11, 12, 13] [(91, .slice p n cap), (92, .int .i64 ((n : Nat))), (93, .int .i64 0)] (ds_ (at_block (at_loop (α := Nat × Int) [1, 3, 11, 12, 13, 91, 92, 93] (fun ⟨j2, c⟩ => [(1, .pointer (some ⟨γ1 0, 0, none⟩)), (3, .map (some (γ13 0))), (11, .int .i64 0), (12, .bool false), (13, .int .i64 c), (91, .slice p n cap), (92, .int .i64 ((n : Nat))), (93, .int .i64 ((j2 : Nat)))]) (fun ⟨j2, c⟩ => [(γ13 0, .map esa cka), bx (γ1 0) (#[.int .i64 now, .slice p n cap]) 24]) (fun ⟨j2, c⟩ => j2 ≤ n ∧ (0 ≤ c ∧ c ≤ 9) ∧ ((j2 = 0 ∧ c = 9) ∨ ∃ t ∈ ts, c = (placeV now t.due).1) ∧ ∀ t ∈ ts.take j2, c ≤ (placeV now t.due).1) (fun ⟨j2, c⟩ => n - j2) (0, 9) (by kernel_rfl) rfl ⟨Nat.zero_le _, ⟨by omega, by omega⟩, .inl ⟨rfl, rfl⟩, all_take0T⟩ ?_))))))))))))
      rintro ⟨j2, c⟩
      rintro ⟨hj2, hc9, hcE, hcI⟩
      refine sq_ ?_
      by_cases q135 : ((j2 : Nat) : Int) < ((n : Nat) : Int)
      ·
       refine qa [(0, .yes)] [1, 3, 11, 12, 13, 91, 92, 93] [(94, .bool true)] ([((j2 : Nat) : Int) < ((n : Nat) : Int)]) (al1 q135) (ds_ (sq_ (t_ (at_skip (ds_ (sq_ (at_block (sq_ ?_))))))))
       obtain ⟨b138, o138, rfl⟩ := hts.pos (i := j2) (by omega)
       obtain ⟨x140, hx140⟩ := get_some (l := ts) (m := j2) (by omega)
       refine ma [(0, .at b138 o138 j2), (1, .go (outs b138 (o138 + j2 * 2) [.int .i64 x140.id, .int .i64 x140.due])), (3, .go (owns 0 0 2))] [1, 3, 11, 12, 13, 91, 92, 93] (fun γ141 => [(15, .pointer (some ⟨γ141 0, 0, none⟩))]) (fun γ141 L => bx (γ141 0) (#[.int .i64 x140.id, .int .i64 x140.due]) 33 :: L) (fun γ141 => [(some ⟨b138, o138, none⟩ : Option Addr) = some ⟨b138, o138, none⟩, ((j2 : Nat)) = ((j2 : Nat) : Int), j2 < n] ++ (cellsP w b138 (o138 + j2 * 2) [.int .i64 x140.id, .int .i64 x140.due])) (fun γ141 => (alA (al2 rfl (al2 rfl (al1 (by omega)))) (rd_pre (hts.get hx140) _ rfl))) (fun γ141 => ds_ (sq_ ?_))
       have hpb := place_bnd (a := now) (b := x140.due)
       refine ao_ (qo0 3 [(0, .go (owns 2 0 2)), (2, .go (owns 0 0 1))] [1, 3, 11, 12, 13, 91, 92, 93] [(98, .agg #[.int .i64 now, .slice (some ⟨b138, o138, none⟩) n cap]), (100, .int .i64 x140.id)] (cD (.tuple #[.int .i64 ((placeV now x140.due).1), .int .i64 ((placeV now x140.due).2), .bool true]) Try.call21 (fun w hw => by have := wplace_t now (some ⟨b138, o138, none⟩) n cap ts x140.id w (hts.kept hw.below) hn (by omega); rw [plO_some q9 (hgw.getd.2 ⟨List.mem_of_getElem? hx140, rfl⟩)] at this; exact this) (qo0 7 [] [1, 3, 11, 12, 13, 91, 92, 93] [(16, .int .i64 ((placeV now x140.due).1)), (18, .bool true)] (on_ (ds_ (sq_ (sq_ (qa0 [] [1, 3, 11, 12, 13, 16, 91, 92, 93] [(106, .bool false)] (ds_ (f_ (at_skip (ds_ ?_))))))))))))
       by_cases q146 : ((placeV now x140.due).1 : Int) < (c : Int)
       ·
        refine qa [(2, .is [] (.int .i64 ((placeV now x140.due).1)))] [1, 3, 11, 12, 91, 92, 93] [(13, .int .i64 ((placeV now x140.due).1))] ([Value.int .i64 (if ((placeV now x140.due).1 : Int) < (c : Int) then (placeV now x140.due).1 else c) = .int .i64 ((placeV now x140.due).1)]) (al1 (by rw [if_pos q146])) (done_block (ds_ (qa [(0, .fit)] [1, 3, 11, 12, 13, 91, 92] [(93, .int .i64 ((j2 + 1 : Nat)))] ([Fit .i64 ((j2 + 1 : Nat))]) (al1 (fit64 (by omega) (by omega))) (Done.drop (L' := [(γ13 0, .map esa cka), bx (γ1 0) (#[.int .i64 now, .slice (some ⟨b138, o138, none⟩) n cap]) 24]) ?_ (List.Sublist.cons _ (List.Sublist.cons_cons _ (List.Sublist.cons_cons _ (List.Sublist.refl _))))))))
        exact dr [1, 3, 11, 12, 13, 91, 92, 93] (j2 + 1, (placeV now x140.due).1) ⟨by omega, by omega, .inr ⟨x140, List.mem_of_getElem? hx140, rfl⟩, all_onT (fun t ht => by have := hcI t ht; omega) hx140 (Int.le_refl _)⟩
       ·
        refine qa [(2, .is [] (.int .i64 c))] [1, 3, 11, 12, 91, 92, 93] [(13, .int .i64 c)] ([Value.int .i64 (if ((placeV now x140.due).1 : Int) < (c : Int) then (placeV now x140.due).1 else c) = .int .i64 c]) (al1 (by rw [if_neg q146])) (done_block (ds_ (qa [(0, .fit)] [1, 3, 11, 12, 13, 91, 92] [(93, .int .i64 ((j2 + 1 : Nat)))] ([Fit .i64 ((j2 + 1 : Nat))]) (al1 (fit64 (by omega) (by omega))) (Done.drop (L' := [(γ13 0, .map esa cka), bx (γ1 0) (#[.int .i64 now, .slice (some ⟨b138, o138, none⟩) n cap]) 24]) ?_ (List.Sublist.cons _ (List.Sublist.cons_cons _ (List.Sublist.cons_cons _ (List.Sublist.refl _))))))))
        exact dr [1, 3, 11, 12, 13, 91, 92, 93] (j2 + 1, c) ⟨by omega, by omega, (hcE.elim (fun h => .inr ⟨x140, List.mem_of_getElem? hx140, by have := h.2; omega⟩) .inr), all_onT hcI hx140 (by omega)⟩
      ·
       refine qa [(0, .no)] [1, 3, 11, 12, 13, 91, 92, 93] [(94, .bool false)] ([¬ (((j2 : Nat) : Int) < ((n : Nat) : Int))]) (al1 q135) (ds_ (sq_ (f_ (at_leave _ rfl (ds_ (sq_ (sq_ ?_)))))))
       rw [List.take_of_length_le (by omega)] at hcI
       refine qa0 [(1, .go (owns 1 1 1))] [1, 3, 11, 12, 13] [(112, .slice p n cap), (113, .int .i64 ((n : Nat))), (114, .int .i64 0)] (ds_ (at_block (at_loop (α := Nat) [1, 3, 11, 12, 13, 112, 113, 114] (fun j3 => [(1, .pointer (some ⟨γ1 0, 0, none⟩)), (3, .map (some (γ13 0))), (11, .int .i64 0), (12, .bool false), (13, .int .i64 c), (112, .slice p n cap), (113, .int .i64 ((n : Nat))), (114, .int .i64 ((j3 : Nat)))]) (fun j3 => [(γ13 0, .map esa cka), bx (γ1 0) (#[.int .i64 now, .slice p n cap]) 24]) (fun j3 => j3 ≤ n) (fun j3 => n - j3) 0 (by kernel_rfl) rfl (Nat.zero_le _) ?_)))
       rintro j3
       rintro hj3
       refine sq_ ?_
       by_cases q154 : ((j3 : Nat) : Int) < ((n : Nat) : Int)
       ·
        refine qa [(0, .yes)] [1, 3, 11, 12, 13, 112, 113, 114] [(115, .bool true)] ([((j3 : Nat) : Int) < ((n : Nat) : Int)]) (al1 q154) (ds_ (sq_ (t_ (at_skip (ds_ (sq_ (at_block (sq_ ?_))))))))
        obtain ⟨b157, o157, rfl⟩ := hts.pos (i := j3) (by omega)
        obtain ⟨x159, hx159⟩ := get_some (l := ts) (m := j3) (by omega)
        refine ma [(0, .at b157 o157 j3), (1, .go (outs b157 (o157 + j3 * 2) [.int .i64 x159.id, .int .i64 x159.due])), (3, .go (owns 0 0 2))] [1, 3, 11, 12, 13, 112, 113, 114] (fun γ160 => [(20, .pointer (some ⟨γ160 0, 0, none⟩))]) (fun γ160 L => bx (γ160 0) (#[.int .i64 x159.id, .int .i64 x159.due]) 33 :: L) (fun γ160 => [(some ⟨b157, o157, none⟩ : Option Addr) = some ⟨b157, o157, none⟩, ((j3 : Nat)) = ((j3 : Nat) : Int), j3 < n] ++ (cellsP w b157 (o157 + j3 * 2) [.int .i64 x159.id, .int .i64 x159.due])) (fun γ160 => (alA (al2 rfl (al2 rfl (al1 (by omega)))) (rd_pre (hts.get hx159) _ rfl))) (fun γ160 => ds_ (sq_ (ao_ (qo0 3 [(0, .go (owns 2 0 2)), (2, .go (owns 0 0 1))] [1, 3, 11, 12, 13, 20, 112, 113, 114] [(119, .agg #[.int .i64 now, .slice (some ⟨b157, o157, none⟩) n cap]), (121, .int .i64 x159.id)] (cD (.tuple #[.int .i64 ((placeV now x159.due).1), .int .i64 ((placeV now x159.due).2), .bool true]) Try.call21 (fun w hw => by have := wplace_t now (some ⟨b157, o157, none⟩) n cap ts x159.id w (hts.kept hw.below) hn (by omega); rw [plO_some q9 (hgw.getd.2 ⟨List.mem_of_getElem? hx159, rfl⟩)] at this; exact this) (qo0 7 [] [1, 3, 11, 12, 13, 20, 112, 113, 114] [(21, .int .i64 ((placeV now x159.due).1))] (on_ (ds_ (sq_ ?_)))))))))
        have hE2 : ∃ t ∈ ts, c = (placeV now t.due).1 := hcE.elim (fun h => by omega) id
        have hfl := first_low q9 hE2 hcI (List.mem_of_getElem? hx159)
        have hno : False := by
         have hts0 := congrArg List.length (of_decide_eq_true q81)
         simp only [List.length_nil] at hts0
         omega
        refine qa [(1, .go (owns 0 1 1)), (3, .no)] [1, 3, 11, 12, 13, 112, 113, 114] [(134, .bool false)] ([¬ ((x159.due : Int) = (0 : Int))]) (al1 hno.elim) (ds_ (f_ (at_skip (done_block (ds_ (qa [(0, .fit)] [1, 3, 11, 12, 13, 112, 113] [(114, .int .i64 ((j3 + 1 : Nat)))] ([Fit .i64 ((j3 + 1 : Nat))]) (al1 (fit64 (by omega) (by omega))) (Done.drop (L' := [(γ13 0, .map esa cka), bx (γ1 0) (#[.int .i64 now, .slice (some ⟨b157, o157, none⟩) n cap]) 24]) ?_ (List.Sublist.cons _ (List.Sublist.cons_cons _ (List.Sublist.cons_cons _ (List.Sublist.refl _)))))))))))
        exact done_round [1, 3, 11, 12, 13, 112, 113, 114] (j3 + 1) (by kernel_rfl) rfl (by omega) (by first | omega | (simp only; omega))
       ·
        refine qa [(0, .no)] [1, 3, 11, 12, 13, 112, 113, 114] [(115, .bool false)] ([¬ (((j3 : Nat) : Int) < ((n : Nat) : Int))]) (al1 q154) (ds_ (sq_ (f_ (at_leave _ rfl (ds_ (sq_ ?_))))))
        by_cases q167 : ((n : Nat) : Int) > (0 : Int)
        ·
         refine ao_ (qo 14 [(2, .go (owns 1 1 1)), (4, .yes), (5, .eqs false)] [] [(149, .bool false)] ([((n : Nat) : Int) > (0 : Int)] ++ ([EqRun Try.prog .eql 4 (.tmp 136) (.tmp 140) (.bool false) (.bool true) false])) (alA (al1 q167) (al1 (bool_eq false true))) (qo0 1 [] [] [(2, .bool false)] (on_ (ds_ (rt ([]) (.bool false) ?_)))))
         exfalso
         have hts0 := congrArg List.length (of_decide_eq_true q81)
         simp only [List.length_nil] at hts0
         omega
        ·
         by_cases q171 : (((Da).length : Nat) : Int) = ((n : Nat) : Int)
         ·
          refine ao_ (qo 14 [(2, .go (owns 1 1 1)), (4, .no), (5, .eqs true), (8, .is [.obj 0] (.int .i64 (((Da).length : Nat)))), (10, .go (owns 1 1 1)), (12, .yes)] [] [(149, .bool true)] ([¬ (((n : Nat) : Int) > (0 : Int))] ++ ([EqRun Try.prog .eql 4 (.tmp 136) (.tmp 140) (.bool false) (.bool false) true] ++ ([Value.int .i64 (esa).size = .int .i64 (((Da).length : Nat))] ++ ([(((Da).length : Nat) : Int) = ((n : Nat) : Int)])))) (alA (al1 q167) (alA (al1 (bool_eq false false)) (alA (al1 (by rw [hMa.size]; first | done | rfl)) (al1 q171)))) (qo0 1 [] [] [(2, .bool true)] (on_ (ds_ (rt ([]) (.bool true) ?_)))))
          exact fun w' hw => ⟨rfl, hw.below⟩
         ·
          refine ao_ (qo 14 [(2, .go (owns 1 1 1)), (4, .no), (5, .eqs true), (8, .is [.obj 0] (.int .i64 (((Da).length : Nat)))), (10, .go (owns 1 1 1)), (12, .no)] [] [(149, .bool false)] ([¬ (((n : Nat) : Int) > (0 : Int))] ++ ([EqRun Try.prog .eql 4 (.tmp 136) (.tmp 140) (.bool false) (.bool false) true] ++ ([Value.int .i64 (esa).size = .int .i64 (((Da).length : Nat))] ++ ([¬ ((((Da).length : Nat) : Int) = ((n : Nat) : Int))])))) (alA (al1 q167) (alA (al1 (bool_eq false false)) (alA (al1 (by rw [hMa.size]; first | done | rfl)) (al1 q171)))) (qo0 1 [] [] [(2, .bool false)] (on_ (ds_ (rt ([]) (.bool false) ?_)))))
          exfalso
          have hts0 := congrArg List.length (of_decide_eq_true q81)
          simp only [List.length_nil] at hts0
          omega
end Go.Proofs.Ytjfebdhflkndmaa

/-! The walker: what a row's inputs are: slices and structs, opened into lists. -/
namespace Go.Proofs.Ytjfebdhflkndmaa
open Go Go.RowKit

section
variable {H : Type} {enc : TypeId × Value → H} {P : Program} {w : World} {base : Nat} {spare : Nat → Bool} {held : Bool}
theorem spot_none {a : Addr} (h : a.spot = none) : a = ⟨a.block, a.off, none⟩ := by
  cases a
  simp at h
  simp [h]
theorem trod_sv {α : Type} [Enc α] {t e : TypeId} {fuel : Nat} {cs : List Value} {x : DataW H × List MemPlace} {Good : α → Prop} (ht : P.underlying t = some (.slice e)) (hc : P.cellsOf e = Enc.k α)
    (hopen : ∀ (fuel : Nat) (cs : List Value) (x : DataW H × List MemPlace), DataW.trod enc P w base spare held fuel e cs = some x → ∃ a : α, cs = Enc.enc a ∧ Good a) (h : DataW.trod enc P w base spare held fuel t cs = some x) :
    ∃ (p : Option Addr) (n cap : Nat) (l : List α), cs = [.slice p n cap] ∧ Sv w p l ∧ n = l.length ∧ n ≤ cap ∧ cap ≤ maxLen ∧ ∀ y ∈ l, Good y := by
  rcases Deep.open_slice ht h with ⟨hcs, _⟩ | ⟨a, len, cap, m, n', D, Pl, hcs, _, hle, hmx, hm, _, hi⟩
  · exact ⟨none, 0, 0, [], hcs, Sv.nil, rfl, Nat.le_refl _, Nat.zero_le _, fun y hy => by cases hy⟩
  · have key : ∀ i, i < len → ∃ y : α, w.cells? base (a.add (i * Enc.k α)) (Enc.k α) = some (Enc.enc y) ∧ Good y := fun i hin => by
      have him : i < m := by rw [hm]; split <;> omega
      obtain ⟨cs', h1, h2⟩ := hi i him
      obtain ⟨y, rfl, hy⟩ := hopen _ _ _ h2
      rw [hc] at h1
      exact ⟨y, h1, hy⟩
    rcases Nat.eq_zero_or_pos len with h0 | h0
    · subst h0
      exact ⟨some a, 0, cap, [], hcs, Sv.nil, rfl, hle, hmx, fun y hy => by cases hy⟩
    · obtain ⟨y0, hy0, _⟩ := key 0 h0
      haveI : Inhabited α := ⟨y0⟩
      obtain ⟨f, hf⟩ := Deep.choose_lt key
      obtain ⟨_, _, hcell⟩ := World.cells?_some hy0
      have h00 := hcell 0 Enc.pos
      have hlen0 : 0 < (Enc.enc y0).length := by rw [Enc.len]; exact Enc.pos
      rw [List.getElem?_eq_getElem hlen0, Nat.zero_mul, show (a.add 0).add 0 = a by simp [Addr.add]] at h00
      have hsp := spot_none (World.cell?_spot h00)
      refine ⟨some a, len, cap, (List.range len).map f, hcs, ⟨fun _ => ⟨a.block, a.off, by rw [← hsp]⟩, fun b o hbo i hil => ?_⟩, by simp, hle, hmx, fun y hy => ?_⟩
      · have hil' : i < len := by simpa using hil
        obtain ⟨_, _, hc2⟩ := World.cells?_some (hf i hil').1
        have ha : a = ⟨b, o, none⟩ := by simpa using hbo
        subst ha
        intro j v hj
        have hjk : j < Enc.k α := by rw [← Enc.len (f i)]; have := (List.getElem?_eq_some_iff.1 hj).1; simpa using this
        have h3 := hc2 j hjk
        rw [Deep.add_add] at h3
        have h4 : (Enc.enc (f i))[j]? = some v := by simpa using hj
        rw [h4] at h3
        have h5 : (⟨b, o, none⟩ : Addr).add (i * Enc.k α + j) = ⟨b, o + i * Enc.k α + j, none⟩ := by
          unfold Addr.add; split <;> simp_all <;> omega
        rw [h5] at h3
        exact h3
      · obtain ⟨i, hir, rfl⟩ := List.mem_map.1 hy
        exact (hf i (List.mem_range.1 hir)).2
theorem list2' {α : Type} {cs : List α} (h : cs.length = 2) : ∃ c0 c1, cs = [c0, c1] := by
  match cs, h with
  | [a, b], _ => exact ⟨a, b, rfl⟩
end
end Go.Proofs.Ytjfebdhflkndmaa

/-! Chapter 15: what the rows' inputs are. -/
namespace Go.Proofs.Ytjfebdhflkndmaa
open Go Go.RowKit Go.ChangeShapes Go.WideShapes

section
variable {H : Type} {enc : TypeId × Value → H} {w : World} {base : Nat} {spare : Nat → Bool} {held : Bool}
theorem cIntT : Try.prog.cellsOf 3 = 1 := by kernel_rfl
theorem cI64T : Try.prog.cellsOf 2 = 1 := by kernel_rfl
theorem cWheel : Try.prog.cellsOf 24 = 2 := by kernel_rfl
theorem cTims : Try.prog.cellsOf 22 = 1 := by kernel_rfl
theorem timer_open_cells : Try.prog.cellsOf 33 = 2 := by kernel_rfl
theorem timer_open_list {α : Type} {cs : List α} (h : cs.length = 2) : ∃ c0 c1, cs = [c0, c1] := by
  match cs, h with
  | [c0, c1], _ => exact ⟨c0, c1, rfl⟩
theorem timer_open {fuel : Nat} {cs : List Value} {x : DataW H × List MemPlace} (h : DataW.trod enc Try.prog w base spare held fuel 33 cs = some x) : ∃ a : Tim, cs = Enc.enc a ∧ True := by
  obtain ⟨xs, n, _, rfl, hl, hlen, hf⟩ := DataW.trod_struct Try.underlying33 h
  rw [timer_open_cells] at hl
  obtain ⟨c0, c1, rfl⟩ := timer_open_list hl
  obtain ⟨y0, y1, rfl⟩ := timer_open_list hlen
  have h0 : DataW.trod enc Try.prog w base spare held n 3 (([c0, c1].drop 0).take (Try.prog.cellsOf 3)) = some y0 := hf 0 _ rfl
  have h1 : DataW.trod enc Try.prog w base spare held n 2 (([c0, c1].drop 1).take (Try.prog.cellsOf 2)) = some y1 := hf 1 _ rfl
  clear hf hl hlen h
  rw [cIntT] at h0
  rw [cI64T] at h1
  simp only [List.drop_zero, List.take_succ_cons, List.take_zero, List.drop_succ_cons] at h0 h1
  obtain ⟨v0, e0, _, _⟩ := DataW.trod_int Try.underlying3 h0
  obtain ⟨v1, e1, _, _⟩ := DataW.trod_int Try.underlying2 h1
  simp only [List.cons.injEq, and_true] at e0 e1
  subst e0; subst e1
  exact ⟨⟨v0, v1⟩, rfl, trivial⟩
set_option maxRecDepth 100000 in
theorem wheel_open {v : Value} {d : DataW H} {pl : List MemPlace} (hv : Value.okWide Try.prog w .any base 24 v) (h : DataW.Trod enc Try.prog w 0 spare held 24 v d pl) :
    ∃ (now : Int) (p : Option Addr) (n cap : Nat) (ts : List Tim), v = .agg #[.int .i64 now, .slice p n cap] ∧ Sv w p ts ∧ n = ts.length := by
  obtain ⟨cs, rfl, hsz⟩ := okWide_struct Try.underlying24 hv
  obtain ⟨fuel, hf⟩ := h
  obtain ⟨xs, n, _, _, hl, hlen, hf⟩ := DataW.trod_struct Try.underlying24 hf
  obtain ⟨y0, y1, rfl⟩ := list2' hlen
  have h0 : DataW.trod enc Try.prog w 0 spare held n 2 ((((Value.agg cs).cells.toList).drop 0).take (Try.prog.cellsOf 2)) = some y0 := hf 0 _ rfl
  have h1 : DataW.trod enc Try.prog w 0 spare held n 22 ((((Value.agg cs).cells.toList).drop 1).take (Try.prog.cellsOf 22)) = some y1 := hf 1 _ rfl
  rw [cWheel] at hl
  obtain ⟨c0, c1, hc0⟩ := list2' hl
  rw [hc0, cI64T] at h0
  rw [hc0, cTims] at h1
  simp only [List.drop_zero, List.take_succ_cons, List.take_zero] at h0
  obtain ⟨a, ea, _, _⟩ := DataW.trod_int Try.underlying2 h0
  obtain ⟨q, m, capv, l2, he2, hs2, hm, hle2, hmx2, hw⟩ := trod_sv (Good := fun _ => True) Try.underlying22 timer_open_cells (fun _ _ _ h => timer_open h) h1
  simp only [List.drop_zero, List.take_succ_cons, List.take_zero, List.drop_succ_cons, List.cons.injEq, and_true] at ea he2
  subst ea; subst he2
  refine ⟨a, q, m, capv, l2, ?_, hs2, hm⟩
  congr 1
  exact Array.toList_inj.1 (by simpa [Value.cells] using hc0)
end
end Go.Proofs.Ytjfebdhflkndmaa
