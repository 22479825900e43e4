/- Texts of this proof, one behind the other. -/
import Derived.Test.YtjfebdhflkndmaaZb
import Derived.Test.YtjfebdhflkndmaaZa
import Derived.ProofKit
import Derived.Carry
import Derived.Deep.Slices
import Derived.Lib.SmallJoins
import Derived.Test.YtjfebdhflkndmaaProg
/-! The statement WheelSets, walked. -/
namespace Go.Proofs.Ytjfebdhflkndmaa
open Go Go.RowKit
theorem bool_eqRun (op : BinOp) (hop : op = .eql ∨ op = .neq) (x y : Operand) (a b r : Bool) (hr : r = (if op = .eql then a == b else !(a == b))) : EqRun Try.prog op 4 x y (.bool a) (.bool b) r := by
 intro w
 subst hr
 have hg : Try.prog.eqGuardType Try.prog.depth 4 = false := by kernel_rfl
 have key : (Op.equal 4 (.bool a) (.bool b)).run Try.prog w = .ok (a == b) w := by
  unfold Op.equal
  rw [show Op.maxDepth = 9999 + 1 from rfl]
  exact run_equalIn_bool' w 9999 4 a b Try.underlying4
 have guard : (eqGuard op 4 x y (.bool a) (.bool b)).run Try.prog w = .ok () w := by
  unfold eqGuard
  rcases hop with rfl | rfl <;> simp [hg]
 rw [Sem.run_bind, guard]
 simp only [Result.andThen_ok]
 rcases hop with rfl | rfl <;> simp [binOp, Sem.run_bind, key]
theorem bool_ne {x y : Operand} (a b : Bool) : EqRun Try.prog .neq 4 x y (.bool a) (.bool b) (!(a == b)) := bool_eqRun _ (.inr rfl) x y a b _ (by simp)
set_option maxRecDepth 100000 in
theorem sets_t (now : Int) (p : Option Addr) (n cap : Nat) (ts : List Tim) (k at_ : Int) (w : World)
 (hts : Sv w p ts) (hn : n = ts.length)
 : Calls Try.prog 4 #[.agg #[.int .i64 now, .slice p n cap], .int .i64 k, .int .i64 at_] w fun e w' => e = .returned (.bool true) ∧ Below w.heap.size w w' := by
 refine enter (Hs.start w) Try.func4 rfl Try.ntmps4 rfl (sq_ (ma0 [] [1, 2] (fun γ1 => [(3, .pointer (some ⟨γ1 0, 0, none⟩))]) (fun γ1 L => bx (γ1 0) (#[.int .i64 now, .slice p n cap]) 24 :: L) (fun γ1 => ds_ (sq_ (sq_ (ao_ (cD (.bool true) Try.call8 (fun w hw => wakes_t w) (qo0 1 [] [1, 2, 3] [(16, .bool false)] (on_ (ds_ (f_ (at_skip (ds_ (sq_ (sq_ ?_)))))))))))))))
 by_cases q5 : ((n : Nat) : Int) > (100 : Int)
 ·
  refine qa [(1, .go (owns 0 1 1)), (3, .yes)] [1, 2, 3] [(20, .bool true)] ([((n : Nat) : Int) > (100 : Int)]) (al1 q5) (ds_ (t_ (sq_ (qa0 [] [] [(6, .bool true)] (ds_ (rt ([]) (.bool true) ?_))))))
  exact fun w' hw => ⟨rfl, hw.below⟩
 ·
  refine qa [(1, .go (owns 0 1 1)), (3, .no)] [1, 2, 3] [(20, .bool false)] ([¬ (((n : Nat) : Int) > (100 : Int))]) (al1 q5) (ds_ (f_ (at_skip (ds_ (sq_ (ao_ (qo0 1 [(0, .go (owns 0 0 2))] [1, 2, 3] [(21, .agg #[.int .i64 now, .slice p n cap])] (cP (fun v L' => ∃ q_ c_ Y_, v = .agg #[.int .i64 now, .slice q_ n c_] ∧ L' = List.take 1 ([bx (γ1 0) (#[.int .i64 now, .slice p n cap]) 24]) ++ (Y_ ++ List.drop 1 ([bx (γ1 0) (#[.int .i64 now, .slice p n cap]) 24])) ∧ SlO 33 Y_ q_ n c_ ts) Try.call12 (fun w hw => (copied_t now p n cap ts w (hts.kept hw.below) hn (by omega)).mono fun e w' ⟨q_, c_, Y_, he, hO, hb, hY⟩ => ⟨_, _, he, ⟨q_, c_, Y_, rfl, rfl, hO⟩, hw.join hb hY 1⟩) ?_))))))))
  rintro v10 L10 ⟨q10, cq10, Y10, rfl, rfl, hO10⟩
  refine mo0 2 [(3, .go (owns 0 0 2))] [1, 2, 3] (fun γ11 => [(7, .pointer (some ⟨γ11 0, 0, none⟩))]) (fun γ11 L => bx (γ11 0) (#[.int .i64 now, .slice q10 n cq10]) 24 :: L) (fun γ11 => on_ (ds_ (sq_ (ao_ (qo0 3 [(0, .go (owns 0 0 2))] [1, 2, 3, 7] [(24, .agg #[.int .i64 now, .slice q10 n cq10]), (25, .int .i64 k), (26, .int .i64 at_)] ?_)))))
  rcases q13 : wheelB now ts with _ | _
  ·
   refine cP (fun v L' => ∃ q_ m_ c_ Y_, v = .tuple #[.agg #[.int .i64 0, .slice q_ m_ c_], .int .i64 250] ∧ L' = List.take 2 (bx (γ11 0) (#[.int .i64 now, .slice q10 n cq10]) 24 :: bx (γ1 0) (#[.int .i64 now, .slice p n cap]) 24 :: (Y10 ++ [])) ++ (Y_ ++ List.drop 2 (bx (γ11 0) (#[.int .i64 now, .slice q10 n cq10]) 24 :: bx (γ1 0) (#[.int .i64 now, .slice p n cap]) 24 :: (Y10 ++ []))) ∧ SlO 33 Y_ q_ m_ c_ ([] : List Tim)) Try.call13 (fun w hw => by have := set_t now q10 n cq10 ts k at_ w (hO10.atN (A := [_, _]) hw) hO10.len (by omega); rw [setV_bad q13] at this; exact this.mono fun e w' ⟨q_, m_, c_, Y_, he, hO, hb, hY⟩ => ⟨_, _, he, ⟨q_, m_, c_, Y_, rfl, rfl, hO⟩, hw.join hb hY 2⟩) ?_
   rintro v14 L14 ⟨q14, m14, c14, Y14, rfl, rfl, hO14⟩
   have hm14 := hO14.len
   simp only [List.length_cons, List.length_nil] at hm14
   refine mo0 6 [(8, .go (owns 0 0 2))] [1, 2, 3, 7] (fun γ15 => [(8, .pointer (some ⟨γ15 0, 0, none⟩)), (9, .int .i64 250)]) (fun γ15 L => bx (γ15 0) (#[.int .i64 0, .slice q14 m14 c14]) 24 :: L) (fun γ15 => on_ (ds_ (sq_ (ao_ (qo0 2 [(0, .go (owns 1 0 2))] [1, 2, 3, 7, 8, 9] [(31, .agg #[.int .i64 now, .slice q10 n cq10]), (32, .int .i64 k)] (cP (fun v L' => ∃ q_ m_ c_ Y_, v = .tuple #[.agg #[.int .i64 0, .slice q_ m_ c_], .int .i64 250] ∧ L' = List.take 3 (bx (γ15 0) (#[.int .i64 0, .slice q14 m14 c14]) 24 :: bx (γ11 0) (#[.int .i64 now, .slice q10 n cq10]) 24 :: bx (γ1 0) (#[.int .i64 now, .slice p n cap]) 24 :: (Y14 ++ (Y10 ++ []))) ++ (Y_ ++ List.drop 3 (bx (γ15 0) (#[.int .i64 0, .slice q14 m14 c14]) 24 :: bx (γ11 0) (#[.int .i64 now, .slice q10 n cq10]) 24 :: bx (γ1 0) (#[.int .i64 now, .slice p n cap]) 24 :: (Y14 ++ (Y10 ++ [])))) ∧ SlO 33 Y_ q_ m_ c_ ([] : List Tim)) Try.call14 (fun w hw => by have := cancel_t now q10 n cq10 ts k w (hO10.atN (A := (_ :: _ :: _ :: Y14)) hw) hO10.len (by omega); rw [canV_bad q13] at this; exact this.mono fun e w' ⟨q_, m_, c_, Y_, he, hO, hb, hY⟩ => ⟨_, _, he, ⟨q_, m_, c_, Y_, rfl, rfl, hO⟩, hw.join hb hY 3⟩) ?_))))))
   rintro v17 L17 ⟨q17, m17, c17, Y17, rfl, rfl, hO17⟩
   have hm17 := hO17.len
   simp only [List.length_cons, List.length_nil] at hm17
   refine mo0 6 [(7, .go (owns 0 0 2))] [1, 2, 3, 7, 8, 9] (fun γ18 => [(10, .pointer (some ⟨γ18 0, 0, none⟩)), (11, .int .i64 250)]) (fun γ18 L => bx (γ18 0) (#[.int .i64 0, .slice q17 m17 c17]) 24 :: L) (fun γ18 => on_ (ds_ (sq_ (ao_ (qo0 2 [(0, .go (owns 2 0 2))] [1, 2, 3, 7, 8, 9, 10, 11] [(37, .agg #[.int .i64 now, .slice q10 n cq10]), (38, .int .i64 k)] (cD (.tuple #[.int .i64 0, .bool false]) Try.call15 (fun w hw => by have := at_t now q10 n cq10 ts k w (hO10.at ((hw.tailN 4).sub ((List.sublist_append_right Y14 _).trans (List.sublist_append_right Y17 _)))) hO10.len (by omega); rw [atO_bad q13] at this; exact this) (qo0 5 [] [1, 2, 3, 7, 8, 9, 10, 11] [(12, .int .i64 0), (13, .bool false)] (on_ (ds_ (sq_ (sq_ (ao_ (qo0 2 [(0, .go (owns 2 0 2)), (1, .go (owns 3 0 2))] [1, 2, 3, 8, 9, 10, 11, 12, 13] [(42, .agg #[.int .i64 now, .slice q10 n cq10]), (43, .agg #[.int .i64 now, .slice p n cap])] (cD (.bool true) Try.call16 (fun w hw => by have := rsame_t now q10 n cq10 ts now p n cap ts w (hO10.at ((hw.tailN 4).sub ((List.sublist_append_right Y14 _).trans (List.sublist_append_right Y17 _)))) hO10.len (by omega) (hts.kept hw.below) hn (by omega); rw [sameW_refl] at this; exact this) (qo0 1 [] [1, 2, 3, 8, 9, 10, 11, 12, 13] [(45, .bool false)] (on_ (ds_ (f_ (at_skip (ds_ (sq_ (sq_ (ao_ (qo0 1 [(0, .go (owns 3 0 2))] [1, 2, 3, 8, 9, 10, 11, 12, 13] [(46, .agg #[.int .i64 now, .slice p n cap])] (cD (.bool false) Try.call17 (fun w hw => by have := rright_t now p n cap ts w (hts.kept hw.below) hn (by omega); rw [q13] at this; exact this) (qo0 1 [] [1, 2, 3, 8, 9, 10, 11, 12, 13] [(48, .bool true)] (on_ (ds_ (t_ (sq_ (ao_ (qo0 14 [] [8, 10] [(62, .bool true)] ?_))))))))))))))))))))))))))))))))
   by_cases q27 : ((m14 : Nat) : Int) = (0 : Int)
   ·
    by_cases q29 : ((m17 : Nat) : Int) = (0 : Int)
    ·
     refine qo 13 [(16, .go (owns 1 1 1)), (18, .yes), (22, .go (owns 0 1 1)), (24, .yes)] [] [(6, .bool true)] ([((m14 : Nat) : Int) = (0 : Int)] ++ ([((m17 : Nat) : Int) = (0 : Int)])) (alA (al1 q27) (al1 q29)) (on_ (ds_ (rt ([]) (.bool true) ?_)))
     exact fun w' hw => ⟨rfl, hw.below⟩
    ·
     refine qo 13 [(16, .go (owns 1 1 1)), (18, .yes), (22, .go (owns 0 1 1)), (24, .no)] [] [(6, .bool false)] ([((m14 : Nat) : Int) = (0 : Int)] ++ ([¬ (((m17 : Nat) : Int) = (0 : Int))])) (alA (al1 q27) (al1 q29)) (on_ (ds_ (rt ([]) (.bool false) ?_)))
     exfalso; first | omega | (simp only [List.length_nil] at *; omega)
   ·
    refine qo 13 [(16, .go (owns 1 1 1)), (18, .no)] [] [(6, .bool false)] ([¬ (((m14 : Nat) : Int) = (0 : Int))]) (al1 q27) (on_ (ds_ (rt ([]) (.bool false) ?_)))
    exfalso; first | omega | (simp only [List.length_nil] at *; omega)
  ·
   rcases hg33 : getK Tim.id ts k with _ | y33
   ·
    rcases q34 : decide (0 ≤ k ∧ k < 32 ∧ now < at_ ∧ at_ ≤ 1125899906842624) with _ | _
    ·
     refine cP (fun v L' => ∃ q_ m_ c_ Y_, v = .tuple #[.agg #[.int .i64 0, .slice q_ m_ c_], .int .i64 2] ∧ L' = List.take 2 (bx (γ11 0) (#[.int .i64 now, .slice q10 n cq10]) 24 :: bx (γ1 0) (#[.int .i64 now, .slice p n cap]) 24 :: (Y10 ++ [])) ++ (Y_ ++ List.drop 2 (bx (γ11 0) (#[.int .i64 now, .slice q10 n cq10]) 24 :: bx (γ1 0) (#[.int .i64 now, .slice p n cap]) 24 :: (Y10 ++ []))) ∧ SlO 33 Y_ q_ m_ c_ ([] : List Tim)) Try.call13 (fun w hw => by have := set_t now q10 n cq10 ts k at_ w (hO10.atN (A := [_, _]) hw) hO10.len (by omega); rw [setV_argd q13 q34] at this; exact this.mono fun e w' ⟨q_, m_, c_, Y_, he, hO, hb, hY⟩ => ⟨_, _, he, ⟨q_, m_, c_, Y_, rfl, rfl, hO⟩, hw.join hb hY 2⟩) ?_
     rintro v35 L35 ⟨q35, m35, c35, Y35, rfl, rfl, hO35⟩
     have hm35 := hO35.len
     have hav := of_decide_eq_false q34
     simp only [List.length_cons, List.length_nil] at hm35
     refine mo0 6 [(8, .go (owns 0 0 2))] [1, 2, 3, 7] (fun γ36 => [(8, .pointer (some ⟨γ36 0, 0, none⟩)), (9, .int .i64 2)]) (fun γ36 L => bx (γ36 0) (#[.int .i64 0, .slice q35 m35 c35]) 24 :: L) (fun γ36 => on_ (ds_ (sq_ (ao_ (qo0 2 [(0, .go (owns 1 0 2))] [1, 2, 3, 7, 8, 9] [(31, .agg #[.int .i64 now, .slice q10 n cq10]), (32, .int .i64 k)] (cP (fun v L' => ∃ q_ m_ c_ Y_, v = .tuple #[.agg #[.int .i64 0, .slice q_ m_ c_], .int .i64 4] ∧ L' = List.take 3 (bx (γ36 0) (#[.int .i64 0, .slice q35 m35 c35]) 24 :: bx (γ11 0) (#[.int .i64 now, .slice q10 n cq10]) 24 :: bx (γ1 0) (#[.int .i64 now, .slice p n cap]) 24 :: (Y35 ++ (Y10 ++ []))) ++ (Y_ ++ List.drop 3 (bx (γ36 0) (#[.int .i64 0, .slice q35 m35 c35]) 24 :: bx (γ11 0) (#[.int .i64 now, .slice q10 n cq10]) 24 :: bx (γ1 0) (#[.int .i64 now, .slice p n cap]) 24 :: (Y35 ++ (Y10 ++ [])))) ∧ SlO 33 Y_ q_ m_ c_ ([] : List Tim)) Try.call14 (fun w hw => by have := cancel_t now q10 n cq10 ts k w (hO10.atN (A := (_ :: _ :: _ :: Y35)) hw) hO10.len (by omega); rw [canV_none q13 hg33] at this; exact this.mono fun e w' ⟨q_, m_, c_, Y_, he, hO, hb, hY⟩ => ⟨_, _, he, ⟨q_, m_, c_, Y_, rfl, rfl, hO⟩, hw.join hb hY 3⟩) ?_))))))
     rintro v38 L38 ⟨q38, m38, c38, Y38, rfl, rfl, hO38⟩
     have hm38 := hO38.len
     simp only [List.length_cons, List.length_nil] at hm38
     refine mo0 6 [(7, .go (owns 0 0 2))] [1, 2, 3, 7, 8, 9] (fun γ39 => [(10, .pointer (some ⟨γ39 0, 0, none⟩)), (11, .int .i64 4)]) (fun γ39 L => bx (γ39 0) (#[.int .i64 0, .slice q38 m38 c38]) 24 :: L) (fun γ39 => on_ (ds_ (sq_ (ao_ (qo0 2 [(0, .go (owns 2 0 2))] [1, 2, 3, 7, 8, 9, 10, 11] [(37, .agg #[.int .i64 now, .slice q10 n cq10]), (38, .int .i64 k)] (cD (.tuple #[.int .i64 0, .bool false]) Try.call15 (fun w hw => by have := at_t now q10 n cq10 ts k w (hO10.at ((hw.tailN 4).sub ((List.sublist_append_right Y35 _).trans (List.sublist_append_right Y38 _)))) hO10.len (by omega); rw [atO_ok q13, hg33] at this; exact this) (qo0 5 [] [1, 2, 3, 7, 8, 9, 10, 11] [(12, .int .i64 0), (13, .bool false)] (on_ (ds_ (sq_ (sq_ (ao_ (qo0 2 [(0, .go (owns 2 0 2)), (1, .go (owns 3 0 2))] [1, 2, 3, 8, 9, 10, 11, 12, 13] [(42, .agg #[.int .i64 now, .slice q10 n cq10]), (43, .agg #[.int .i64 now, .slice p n cap])] (cD (.bool true) Try.call16 (fun w hw => by have := rsame_t now q10 n cq10 ts now p n cap ts w (hO10.at ((hw.tailN 4).sub ((List.sublist_append_right Y35 _).trans (List.sublist_append_right Y38 _)))) hO10.len (by omega) (hts.kept hw.below) hn (by omega); rw [sameW_refl] at this; exact this) (qo0 1 [] [1, 2, 3, 8, 9, 10, 11, 12, 13] [(45, .bool false)] (on_ (ds_ (f_ (at_skip (ds_ (sq_ (sq_ (ao_ (qo0 1 [(0, .go (owns 3 0 2))] [1, 2, 3, 8, 9, 10, 11, 12, 13] [(46, .agg #[.int .i64 now, .slice p n cap])] (cD (.bool true) Try.call17 (fun w hw => by have := rright_t now p n cap ts w (hts.kept hw.below) hn (by omega); rw [q13] at this; exact this) (qo0 1 [] [1, 2, 3, 8, 9, 10, 11, 12, 13] [(48, .bool false)] (on_ (ds_ (f_ (at_skip (ds_ (sq_ (ao_ (qo0 2 [(0, .go (owns 3 0 2))] [1, 2, 3, 8, 9, 10, 11, 12, 13] [(75, .agg #[.int .i64 now, .slice p n cap]), (76, .int .i64 k)] (cD (.int .i64 0) Try.call18 (fun w hw => by have := rat_t now p n cap ts k w (hts.kept hw.below) hn (by omega); rw [atR_none hg33] at this; exact this) (qo0 1 [] [1, 2, 3, 8, 9, 10, 11, 12, 13] [(14, .int .i64 0)] (on_ (ds_ (sq_ (sq_ (qa [(7, .eqs false)] [1, 2, 3, 8, 9, 10, 11, 14] [(86, .bool false)] ([EqRun Try.prog .neq 4 (.tmp 82) (.tmp 84) (.bool false) (.bool false) false]) (al1 (bool_ne false false)) (ds_ (f_ (at_skip (ds_ (sq_ (sq_ (qa0 [] [1, 2, 3, 8, 9, 10, 11] [(88, .bool true)] (ds_ (t_ (sq_ ?_)))))))))))))))))))))))))))))))))))))))))))))))))))
     by_cases q51 : ((m38 : Nat) : Int) ≠ (0 : Int)
     ·
      refine qa [(4, .go (owns 0 1 1)), (6, .yes)] [1, 2, 3, 8, 9] [(96, .bool true)] ([((m38 : Nat) : Int) ≠ (0 : Int)]) (al1 q51) (ds_ (t_ (sq_ (qa0 [] [] [(6, .bool false)] (ds_ (rt ([]) (.bool false) ?_))))))
      exfalso; first | omega | (simp only [List.length_nil] at *; omega)
     ·
      refine qa [(4, .go (owns 0 1 1)), (6, .no)] [1, 2, 3, 8, 9] [(96, .bool false)] ([¬ (((m38 : Nat) : Int) ≠ (0 : Int))]) (al1 q51) (ds_ (f_ (at_skip (ds_ (sq_ (sq_ ?_))))))
      by_cases q56 : (k : Int) < (0 : Int)
      ·
       refine ao_ (qo 14 [(1, .yes)] [1, 2, 3, 8, 9] [(119, .bool true), (120, undef)] ([(k : Int) < (0 : Int)]) (al1 q56) (qo0 2 [] [1, 2, 3, 8, 9] [(122, .bool true)] (on_ (ds_ (t_ (sq_ ?_))))))
       by_cases q60 : ((m35 : Nat) : Int) = (0 : Int)
       ·
        refine qa [(4, .go (owns 1 1 1)), (6, .yes)] [] [(6, .bool true)] ([((m35 : Nat) : Int) = (0 : Int)]) (al1 q60) (ds_ (rt ([]) (.bool true) ?_))
        exact fun w' hw => ⟨rfl, hw.below⟩
       ·
        refine qa [(4, .go (owns 1 1 1)), (6, .no)] [] [(6, .bool false)] ([¬ (((m35 : Nat) : Int) = (0 : Int))]) (al1 q60) (ds_ (rt ([]) (.bool false) ?_))
        exfalso; first | omega | (simp only [List.length_nil] at *; omega)
      ·
       by_cases q64 : (k : Int) > (31 : Int)
       ·
        refine ao_ (qo 14 [(1, .no), (4, .yes)] [1, 2, 3, 8, 9] [(119, .bool true), (120, undef)] ([¬ ((k : Int) < (0 : Int))] ++ ([(k : Int) > (31 : Int)])) (alA (al1 q56) (al1 q64)) (qo0 2 [] [1, 2, 3, 8, 9] [(122, .bool true)] (on_ (ds_ (t_ (sq_ ?_))))))
        by_cases q68 : ((m35 : Nat) : Int) = (0 : Int)
        ·
         refine qa [(4, .go (owns 1 1 1)), (6, .yes)] [] [(6, .bool true)] ([((m35 : Nat) : Int) = (0 : Int)]) (al1 q68) (ds_ (rt ([]) (.bool true) ?_))
         exact fun w' hw => ⟨rfl, hw.below⟩
        ·
         refine qa [(4, .go (owns 1 1 1)), (6, .no)] [] [(6, .bool false)] ([¬ (((m35 : Nat) : Int) = (0 : Int))]) (al1 q68) (ds_ (rt ([]) (.bool false) ?_))
         exfalso; first | omega | (simp only [List.length_nil] at *; omega)
       ·
        by_cases q72 : (at_ : Int) ≤ (now : Int)
        ·
         refine ao_ (qo 14 [(1, .no), (4, .no), (9, .go (owns 3 0 1)), (10, .yes)] [1, 2, 3, 8, 9] [(119, .bool true), (120, undef)] ([¬ ((k : Int) < (0 : Int))] ++ ([¬ ((k : Int) > (31 : Int))] ++ ([(at_ : Int) ≤ (now : Int)]))) (alA (al1 q56) (alA (al1 q64) (al1 q72))) (qo0 2 [] [1, 2, 3, 8, 9] [(122, .bool true)] (on_ (ds_ (t_ (sq_ ?_))))))
         by_cases q76 : ((m35 : Nat) : Int) = (0 : Int)
         ·
          refine qa [(4, .go (owns 1 1 1)), (6, .yes)] [] [(6, .bool true)] ([((m35 : Nat) : Int) = (0 : Int)]) (al1 q76) (ds_ (rt ([]) (.bool true) ?_))
          exact fun w' hw => ⟨rfl, hw.below⟩
         ·
          refine qa [(4, .go (owns 1 1 1)), (6, .no)] [] [(6, .bool false)] ([¬ (((m35 : Nat) : Int) = (0 : Int))]) (al1 q76) (ds_ (rt ([]) (.bool false) ?_))
          exfalso; first | omega | (simp only [List.length_nil] at *; omega)
        ·
         refine ao_ (qo 14 [(1, .no), (4, .no), (9, .go (owns 3 0 1)), (10, .no)] [1, 2, 3, 8, 9] [(119, .bool false), (120, .int .i64 at_)] ([¬ ((k : Int) < (0 : Int))] ++ ([¬ ((k : Int) > (31 : Int))] ++ ([¬ ((at_ : Int) ≤ (now : Int))]))) (alA (al1 q56) (alA (al1 q64) (al1 q72))) ?_)
         by_cases q81 : (at_ : Int) > (1125899906842624 : Int)
         ·
          refine qo 2 [(14, .yes)] [1, 2, 3, 8, 9] [(122, .bool true)] ([(at_ : Int) > (1125899906842624 : Int)]) (al1 q81) (on_ (ds_ (t_ (sq_ ?_))))
          by_cases q84 : ((m35 : Nat) : Int) = (0 : Int)
          ·
           refine qa [(4, .go (owns 1 1 1)), (6, .yes)] [] [(6, .bool true)] ([((m35 : Nat) : Int) = (0 : Int)]) (al1 q84) (ds_ (rt ([]) (.bool true) ?_))
           exact fun w' hw => ⟨rfl, hw.below⟩
          ·
           refine qa [(4, .go (owns 1 1 1)), (6, .no)] [] [(6, .bool false)] ([¬ (((m35 : Nat) : Int) = (0 : Int))]) (al1 q84) (ds_ (rt ([]) (.bool false) ?_))
           exfalso; first | omega | (simp only [List.length_nil] at *; omega)
         ·
          refine qo 2 [(14, .no)] [1, 2, 3, 8, 9] [(122, .bool false)] ([¬ ((at_ : Int) > (1125899906842624 : Int))]) (al1 q81) (on_ (ds_ (f_ (at_skip (ds_ (sq_ ?_))))))
          refine at_any (by kernel_rfl) ?_
          refine tk (m := 6) [0, 1, 2, 5, 6] [] [3, 8] [(133, .bool false), (136, undef), (137, undef)] ([]) #[true, true, true, false, false, true, true, false, false, false, false] al0 ?_
          refine any_cutX (V := Unit) (fun _ => True) 0 #[true, true, true, true, true, true, true, true, true, true, true] (fun _ => [(6, .bool false)]) (fun _ => bx (γ39 0) (#[.int .i64 0, .slice q38 m38 c38]) 24 :: bx (γ36 0) (#[.int .i64 0, .slice q35 m35 c35]) 24 :: bx (γ11 0) (#[.int .i64 now, .slice q10 n cq10]) 24 :: bx (γ1 0) (#[.int .i64 now, .slice p n cap]) 24 :: (Y38 ++ (Y35 ++ (Y10 ++ [])))) ?_ (fun hmx6 => ?_)
          rotate_left
          ·
           refine any_cutX (V := Unit) (fun _ => True) 3 #[true, true, true, true, true, true, true, true, false, false, false] (fun _ => [(133, .bool false), (134, undef), (138, undef)]) (fun _ => bx (γ39 0) (#[.int .i64 0, .slice q38 m38 c38]) 24 :: bx (γ36 0) (#[.int .i64 0, .slice q35 m35 c35]) 24 :: bx (γ11 0) (#[.int .i64 now, .slice q10 n cq10]) 24 :: bx (γ1 0) (#[.int .i64 now, .slice p n cap]) 24 :: (Y38 ++ (Y35 ++ (Y10 ++ [])))) ?_ (fun hmx5 => ?_)
           ·
            rintro _ _
            refine a1 8 rfl ?_
            refine qo0 1 [] [133] [(139, undef)] ?_
            refine od_ ?_
            refine tk (m := 0) [9, 10] [] [] [(6, .bool false)] ([]) #[true, true, true, true, true, true, true, true, true, true, true] al0 ?_
            exact wk (hmx6 () trivial) [6] [[_], [_], [_], [_], _, _, _] [0, 1, 2, 3, 4, 5, 6] rfl rfl
           refine any_cutX (V := Unit) (fun _ => True) 4 #[true, true, true, false, true, true, true, true, false, false, false] (fun _ => [(8, .pointer (some ⟨γ36 0, 0, none⟩)), (133, .bool false), (138, undef)]) (fun _ => bx (γ39 0) (#[.int .i64 0, .slice q38 m38 c38]) 24 :: bx (γ36 0) (#[.int .i64 0, .slice q35 m35 c35]) 24 :: bx (γ11 0) (#[.int .i64 now, .slice q10 n cq10]) 24 :: bx (γ1 0) (#[.int .i64 now, .slice p n cap]) 24 :: (Y38 ++ (Y35 ++ (Y10 ++ [])))) ?_ (fun hmx4 => ?_)
           ·
            rintro _ _
            refine a1 3 rfl ?_
            refine qo0 1 [] [133, 138] [(134, undef)] ?_
            refine od_ ?_
            exact wk (hmx5 () trivial) [133, 134, 138] [[_], [_], [_], [_], _, _, _] [0, 1, 2, 3, 4, 5, 6] rfl rfl
           refine any_cutX (V := Unit) (fun _ => True) 4 #[true, true, true, true, true, true, true, false, false, false, false] (fun _ => [(133, .bool false), (134, undef), (135, undef), (136, undef), (137, undef)]) (fun _ => bx (γ39 0) (#[.int .i64 0, .slice q38 m38 c38]) 24 :: bx (γ36 0) (#[.int .i64 0, .slice q35 m35 c35]) 24 :: bx (γ11 0) (#[.int .i64 now, .slice q10 n cq10]) 24 :: bx (γ1 0) (#[.int .i64 now, .slice p n cap]) 24 :: (Y38 ++ (Y35 ++ (Y10 ++ [])))) ?_ (fun hmx3 => ?_)
           ·
            rintro _ _
            refine a1 7 rfl ?_
            refine qo0 1 [] [133, 134] [(138, undef)] ?_
            refine od_ ?_
            exact wk (hmx5 () trivial) [133, 134, 138] [[_], [_], [_], [_], _, _, _] [0, 1, 2, 3, 4, 5, 6] rfl rfl
           refine any_cutX (V := Unit) (fun _ => True) 5 #[true, true, true, false, true, true, true, false, false, false, false] (fun _ => [(8, .pointer (some ⟨γ36 0, 0, none⟩)), (133, .bool false), (135, undef), (136, undef), (137, undef)]) (fun _ => bx (γ39 0) (#[.int .i64 0, .slice q38 m38 c38]) 24 :: bx (γ36 0) (#[.int .i64 0, .slice q35 m35 c35]) 24 :: bx (γ11 0) (#[.int .i64 now, .slice q10 n cq10]) 24 :: bx (γ1 0) (#[.int .i64 now, .slice p n cap]) 24 :: (Y38 ++ (Y35 ++ (Y10 ++ [])))) ?_ (fun hmx2 => ?_)
           ·
            rintro _ _
            refine any_fork [3, 7] (by kernel_rfl) (by simp) (each_cons _ rfl ?_ (each_cons _ rfl ?_ (each_nil)))
            ·
             refine qo0 1 [] [133, 135, 136, 137] [(134, undef)] ?_
             refine od_ ?_
             exact wk (hmx3 () trivial) [133, 134, 135, 136, 137] [[_], [_], [_], [_], _, _, _] [0, 1, 2, 3, 4, 5, 6] rfl rfl
            ·
             refine qo0 1 [] [8, 133] [(138, undef)] ?_
             refine od_ ?_
             exact wk (hmx4 () trivial) [8, 133, 138] [[_], [_], [_], [_], _, _, _] [0, 1, 2, 3, 4, 5, 6] rfl rfl
           refine any_cutX (V := Unit) (fun _ => True) 5 #[true, true, true, true, false, true, true, false, false, false, false] (fun _ => [(3, .pointer (some ⟨γ1 0, 0, none⟩)), (133, .bool false), (134, undef), (136, undef), (137, undef)]) (fun _ => bx (γ39 0) (#[.int .i64 0, .slice q38 m38 c38]) 24 :: bx (γ36 0) (#[.int .i64 0, .slice q35 m35 c35]) 24 :: bx (γ11 0) (#[.int .i64 now, .slice q10 n cq10]) 24 :: bx (γ1 0) (#[.int .i64 now, .slice p n cap]) 24 :: (Y38 ++ (Y35 ++ (Y10 ++ [])))) ?_ (fun hmx1 => ?_)
           ·
            rintro _ _
            refine a1 4 rfl ?_
            refine qo0 1 [] [133, 134, 136, 137] [(135, undef)] ?_
            refine od_ ?_
            exact wk (hmx3 () trivial) [133, 134, 135, 136, 137] [[_], [_], [_], [_], _, _, _] [0, 1, 2, 3, 4, 5, 6] rfl rfl
           refine any_fork [3, 4] (by kernel_rfl) (by simp) (each_cons _ rfl ?_ (each_cons _ rfl ?_ (each_nil)))
           ·
            refine qo0 1 [] [3, 133, 136, 137] [(134, undef)] ?_
            refine od_ ?_
            exact wk (hmx1 () trivial) [3, 133, 134, 136, 137] [[_], [_], [_], [_], _, _, _] [0, 1, 2, 3, 4, 5, 6] rfl rfl
           ·
            refine qo0 1 [] [8, 133, 136, 137] [(135, undef)] ?_
            refine od_ ?_
            exact wk (hmx2 () trivial) [8, 133, 135, 136, 137] [[_], [_], [_], [_], _, _, _] [0, 1, 2, 3, 4, 5, 6] rfl rfl
          rintro _ _
          refine any_nil (by kernel_rfl) ?_
          refine ds_ (rt ([]) (.bool false) ?_)
          exfalso; first | omega | (simp only [List.length_nil] at *; omega)
    ·
     refine cP (fun v L' => ∃ q_ m_ c_ Y_, v = .tuple #[.agg #[.int .i64 now, .slice q_ m_ c_], .int .i64 0] ∧ L' = List.take 2 (bx (γ11 0) (#[.int .i64 now, .slice q10 n cq10]) 24 :: bx (γ1 0) (#[.int .i64 now, .slice p n cap]) 24 :: (Y10 ++ [])) ++ (Y_ ++ List.drop 2 (bx (γ11 0) (#[.int .i64 now, .slice q10 n cq10]) 24 :: bx (γ1 0) (#[.int .i64 now, .slice p n cap]) 24 :: (Y10 ++ []))) ∧ SlO 33 Y_ q_ m_ c_ (insK Tim.id ts ⟨k, at_⟩)) Try.call13 (fun w hw => by have := set_t now q10 n cq10 ts k at_ w (hO10.atN (A := [_, _]) hw) hO10.len (by omega); rw [setV_insd q13 q34 hg33] at this; exact this.mono fun e w' ⟨q_, m_, c_, Y_, he, hO, hb, hY⟩ => ⟨_, _, he, ⟨q_, m_, c_, Y_, rfl, rfl, hO⟩, hw.join hb hY 2⟩) ?_
     rintro v352 L352 ⟨q352, m352, c352, Y352, rfl, rfl, hO352⟩
     have hm352 := hO352.len
     have hav := of_decide_eq_true q34
     have hkl := insK_len Tim.id ts ⟨k, at_⟩
     have hwl := wiL_len (ts := ts) (k := k) (at_ := at_)
     refine mo0 6 [(8, .go (owns 0 0 2))] [1, 2, 3, 7] (fun γ353 => [(8, .pointer (some ⟨γ353 0, 0, none⟩)), (9, .int .i64 0)]) (fun γ353 L => bx (γ353 0) (#[.int .i64 now, .slice q352 m352 c352]) 24 :: L) (fun γ353 => on_ (ds_ (sq_ (ao_ (qo0 2 [(0, .go (owns 1 0 2))] [1, 2, 3, 7, 8, 9] [(31, .agg #[.int .i64 now, .slice q10 n cq10]), (32, .int .i64 k)] (cP (fun v L' => ∃ q_ m_ c_ Y_, v = .tuple #[.agg #[.int .i64 0, .slice q_ m_ c_], .int .i64 4] ∧ L' = List.take 3 (bx (γ353 0) (#[.int .i64 now, .slice q352 m352 c352]) 24 :: bx (γ11 0) (#[.int .i64 now, .slice q10 n cq10]) 24 :: bx (γ1 0) (#[.int .i64 now, .slice p n cap]) 24 :: (Y352 ++ (Y10 ++ []))) ++ (Y_ ++ List.drop 3 (bx (γ353 0) (#[.int .i64 now, .slice q352 m352 c352]) 24 :: bx (γ11 0) (#[.int .i64 now, .slice q10 n cq10]) 24 :: bx (γ1 0) (#[.int .i64 now, .slice p n cap]) 24 :: (Y352 ++ (Y10 ++ [])))) ∧ SlO 33 Y_ q_ m_ c_ ([] : List Tim)) Try.call14 (fun w hw => by have := cancel_t now q10 n cq10 ts k w (hO10.atN (A := (_ :: _ :: _ :: Y352)) hw) hO10.len (by omega); rw [canV_none q13 hg33] at this; exact this.mono fun e w' ⟨q_, m_, c_, Y_, he, hO, hb, hY⟩ => ⟨_, _, he, ⟨q_, m_, c_, Y_, rfl, rfl, hO⟩, hw.join hb hY 3⟩) ?_))))))
     rintro v355 L355 ⟨q355, m355, c355, Y355, rfl, rfl, hO355⟩
     have hm355 := hO355.len
     simp only [List.length_cons, List.length_nil] at hm355
     refine mo0 6 [(7, .go (owns 0 0 2))] [1, 2, 3, 7, 8, 9] (fun γ356 => [(10, .pointer (some ⟨γ356 0, 0, none⟩)), (11, .int .i64 4)]) (fun γ356 L => bx (γ356 0) (#[.int .i64 0, .slice q355 m355 c355]) 24 :: L) (fun γ356 => on_ (ds_ (sq_ (ao_ (qo0 2 [(0, .go (owns 2 0 2))] [1, 2, 3, 7, 8, 9, 10, 11] [(37, .agg #[.int .i64 now, .slice q10 n cq10]), (38, .int .i64 k)] (cD (.tuple #[.int .i64 0, .bool false]) Try.call15 (fun w hw => by have := at_t now q10 n cq10 ts k w (hO10.at ((hw.tailN 4).sub ((List.sublist_append_right Y352 _).trans (List.sublist_append_right Y355 _)))) hO10.len (by omega); rw [atO_ok q13, hg33] at this; exact this) (qo0 5 [] [1, 2, 3, 7, 8, 9, 10, 11] [(12, .int .i64 0), (13, .bool false)] (on_ (ds_ (sq_ (sq_ (ao_ (qo0 2 [(0, .go (owns 2 0 2)), (1, .go (owns 3 0 2))] [1, 2, 3, 8, 9, 10, 11, 12, 13] [(42, .agg #[.int .i64 now, .slice q10 n cq10]), (43, .agg #[.int .i64 now, .slice p n cap])] (cD (.bool true) Try.call16 (fun w hw => by have := rsame_t now q10 n cq10 ts now p n cap ts w (hO10.at ((hw.tailN 4).sub ((List.sublist_append_right Y352 _).trans (List.sublist_append_right Y355 _)))) hO10.len (by omega) (hts.kept hw.below) hn (by omega); rw [sameW_refl] at this; exact this) (qo0 1 [] [1, 2, 3, 8, 9, 10, 11, 12, 13] [(45, .bool false)] (on_ (ds_ (f_ (at_skip (ds_ (sq_ (sq_ (ao_ (qo0 1 [(0, .go (owns 3 0 2))] [1, 2, 3, 8, 9, 10, 11, 12, 13] [(46, .agg #[.int .i64 now, .slice p n cap])] (cD (.bool true) Try.call17 (fun w hw => by have := rright_t now p n cap ts w (hts.kept hw.below) hn (by omega); rw [q13] at this; exact this) (qo0 1 [] [1, 2, 3, 8, 9, 10, 11, 12, 13] [(48, .bool false)] (on_ (ds_ (f_ (at_skip (ds_ (sq_ (ao_ (qo0 2 [(0, .go (owns 3 0 2))] [1, 2, 3, 8, 9, 10, 11, 12, 13] [(75, .agg #[.int .i64 now, .slice p n cap]), (76, .int .i64 k)] (cD (.int .i64 0) Try.call18 (fun w hw => by have := rat_t now p n cap ts k w (hts.kept hw.below) hn (by omega); rw [atR_none hg33] at this; exact this) (qo0 1 [] [1, 2, 3, 8, 9, 10, 11, 12, 13] [(14, .int .i64 0)] (on_ (ds_ (sq_ (sq_ (qa [(7, .eqs false)] [1, 2, 3, 8, 9, 10, 11, 14] [(86, .bool false)] ([EqRun Try.prog .neq 4 (.tmp 82) (.tmp 84) (.bool false) (.bool false) false]) (al1 (bool_ne false false)) (ds_ (f_ (at_skip (ds_ (sq_ (sq_ (qa0 [] [1, 2, 3, 8, 9, 10, 11] [(88, .bool true)] (ds_ (t_ (sq_ ?_)))))))))))))))))))))))))))))))))))))))))))))))))))
     by_cases q368 : ((m355 : Nat) : Int) ≠ (0 : Int)
     ·
      refine qa [(4, .go (owns 0 1 1)), (6, .yes)] [1, 2, 3, 8, 9] [(96, .bool true)] ([((m355 : Nat) : Int) ≠ (0 : Int)]) (al1 q368) (ds_ (t_ (sq_ (qa0 [] [] [(6, .bool false)] (ds_ (rt ([]) (.bool false) ?_))))))
      exfalso; first | omega | (simp only [List.length_nil] at *; omega)
     ·
      refine qa [(4, .go (owns 0 1 1)), (6, .no)] [1, 2, 3, 8, 9] [(96, .bool false)] ([¬ (((m355 : Nat) : Int) ≠ (0 : Int))]) (al1 q368) (ds_ (f_ (at_skip (ds_ (sq_ (sq_ (ao_ (qo 14 [(1, .no), (4, .no), (9, .go (owns 3 0 1)), (10, .no)] [1, 2, 3, 8, 9] [(119, .bool false), (120, .int .i64 at_)] ([¬ ((k : Int) < (0 : Int))] ++ ([¬ ((k : Int) > (31 : Int))] ++ ([¬ ((at_ : Int) ≤ (now : Int))]))) (alA (al1 ((by omega))) (alA (al1 ((by omega))) (al1 ((by omega))))) (qo 2 [(14, .no)] [1, 2, 3, 8, 9] [(122, .bool false)] ([¬ ((at_ : Int) > (1125899906842624 : Int))]) (al1 ((by omega))) (on_ (ds_ (f_ (at_skip (ds_ (sq_ ?_)))))))))))))))
      refine at_any (by kernel_rfl) ?_
      refine tk (m := 6) [0, 1, 2, 5, 6] [] [3, 8] [(133, .bool true), (136, .int .i64 k), (137, .int .i64 at_)] ([]) #[true, true, true, false, false, true, true, false, false, false, false] al0 ?_
      refine any_cutX (V := (List Ob) × (Nat) × (Option Addr)) (fun ⟨Y517, cq517, q517⟩ => SlO 33 Y517 q517 (wiL ts k at_ 32).length cq517 (wiL ts k at_ 32)) 0 #[true, true, true, true, true, true, true, true, true, true, true] (fun ⟨Y517, cq517, q517⟩ => [(6, .bool true)]) (fun ⟨Y517, cq517, q517⟩ => bx (γ356 0) (#[.int .i64 0, .slice q355 m355 c355]) 24 :: bx (γ353 0) (#[.int .i64 now, .slice q352 m352 c352]) 24 :: bx (γ11 0) (#[.int .i64 now, .slice q10 n cq10]) 24 :: bx (γ1 0) (#[.int .i64 now, .slice p n cap]) 24 :: (Y517 ++ (Y355 ++ (Y352 ++ (Y10 ++ []))))) ?_ (fun hmx6 => ?_)
      rotate_left
      ·
       refine any_cutX (V := (List Ob) × (Nat) × (Option Addr)) (fun ⟨Y517, cq517, q517⟩ => SlO 33 Y517 q517 (wiL ts k at_ 32).length cq517 (wiL ts k at_ 32)) 3 #[true, true, true, true, true, true, true, true, false, false, false] (fun ⟨Y517, cq517, q517⟩ => [(133, .bool true), (134, .agg #[.int .i64 now, .slice q352 m352 c352]), (138, .agg #[.int .i64 now, .slice q517 ((wiL ts k at_ 32).length) cq517])]) (fun ⟨Y517, cq517, q517⟩ => bx (γ356 0) (#[.int .i64 0, .slice q355 m355 c355]) 24 :: bx (γ353 0) (#[.int .i64 now, .slice q352 m352 c352]) 24 :: bx (γ11 0) (#[.int .i64 now, .slice q10 n cq10]) 24 :: bx (γ1 0) (#[.int .i64 now, .slice p n cap]) 24 :: (Y517 ++ (Y355 ++ (Y352 ++ (Y10 ++ []))))) ?_ (fun hmx5 => ?_)
       ·
        rintro ⟨Y517, cq517, q517⟩ hO517
        refine a1 8 rfl ?_
        refine cD (.bool true) Try.call16 (fun w hw => by have e_ : sameW now ((insK Tim.id ts ⟨k, at_⟩)) now ((wiL ts k at_ 32)) = true := (by rw [with_ins (wheel_iff.1 q13) ⟨hav.1, hav.2.1⟩ (by have := (wheel_iff.1 q13).n0; omega) hg33, sameW_refl]); have := rsame_t now q352 m352 c352 ((insK Tim.id ts ⟨k, at_⟩)) now q517 ((wiL ts k at_ 32).length) cq517 ((wiL ts k at_ 32)) w (hO352.at ((hw.tailN 4).sub ((List.sublist_append_right Y355 _).trans (List.sublist_append_right Y517 _)))) hO352.len (by omega) (hO517.atN (A := [_, _, _, _]) hw) hO517.len (by omega); rw [e_] at this; exact this) ?_
        refine od_ ?_
        refine tk (m := 0) [9, 10] [] [] [(6, .bool true)] ([]) #[true, true, true, true, true, true, true, true, true, true, true] al0 ?_
        exact wk (hmx6 (Y517, cq517, q517) hO517) [6] [[_], [_], [_], [_], _, _, _, _] [0, 1, 2, 3, 4, 5, 6, 7] rfl rfl
       refine any_cutX (V := (List Ob) × (Nat) × (Option Addr)) (fun ⟨Y517, cq517, q517⟩ => SlO 33 Y517 q517 (wiL ts k at_ 32).length cq517 (wiL ts k at_ 32)) 4 #[true, true, true, false, true, true, true, true, false, false, false] (fun ⟨Y517, cq517, q517⟩ => [(8, .pointer (some ⟨γ353 0, 0, none⟩)), (133, .bool true), (138, .agg #[.int .i64 now, .slice q517 ((wiL ts k at_ 32).length) cq517])]) (fun ⟨Y517, cq517, q517⟩ => bx (γ356 0) (#[.int .i64 0, .slice q355 m355 c355]) 24 :: bx (γ353 0) (#[.int .i64 now, .slice q352 m352 c352]) 24 :: bx (γ11 0) (#[.int .i64 now, .slice q10 n cq10]) 24 :: bx (γ1 0) (#[.int .i64 now, .slice p n cap]) 24 :: (Y517 ++ (Y355 ++ (Y352 ++ (Y10 ++ []))))) ?_ (fun hmx4 => ?_)
       ·
        rintro ⟨Y517, cq517, q517⟩ hO517
        refine a1 3 rfl ?_
        refine qo0 1 [(3, .go (owns 1 0 2))] [133, 138] [(134, .agg #[.int .i64 now, .slice q352 m352 c352])] ?_
        refine od_ ?_
        exact wk (hmx5 (Y517, cq517, q517) hO517) [133, 134, 138] [[_], [_], [_], [_], _, _, _, _] [0, 1, 2, 3, 4, 5, 6, 7] rfl rfl
       refine any_cutX (V := Unit) (fun _ => True) 4 #[true, true, true, true, true, true, true, false, false, false, false] (fun _ => [(133, .bool true), (134, .agg #[.int .i64 now, .slice q352 m352 c352]), (135, .agg #[.int .i64 now, .slice p n cap]), (136, .int .i64 k), (137, .int .i64 at_)]) (fun _ => bx (γ356 0) (#[.int .i64 0, .slice q355 m355 c355]) 24 :: bx (γ353 0) (#[.int .i64 now, .slice q352 m352 c352]) 24 :: bx (γ11 0) (#[.int .i64 now, .slice q10 n cq10]) 24 :: bx (γ1 0) (#[.int .i64 now, .slice p n cap]) 24 :: (Y355 ++ (Y352 ++ (Y10 ++ [])))) ?_ (fun hmx3 => ?_)
       ·
        rintro _ _
        refine a1 7 rfl ?_
        refine cP (fun v L' => ∃ q_ c_ Y_, v = .agg #[.int .i64 now, .slice q_ (wiL ts k at_ 32).length c_] ∧ L' = List.take 4 (bx (γ356 0) (#[.int .i64 0, .slice q355 m355 c355]) 24 :: bx (γ353 0) (#[.int .i64 now, .slice q352 m352 c352]) 24 :: bx (γ11 0) (#[.int .i64 now, .slice q10 n cq10]) 24 :: bx (γ1 0) (#[.int .i64 now, .slice p n cap]) 24 :: (Y355 ++ (Y352 ++ (Y10 ++ [])))) ++ (Y_ ++ List.drop 4 (bx (γ356 0) (#[.int .i64 0, .slice q355 m355 c355]) 24 :: bx (γ353 0) (#[.int .i64 now, .slice q352 m352 c352]) 24 :: bx (γ11 0) (#[.int .i64 now, .slice q10 n cq10]) 24 :: bx (γ1 0) (#[.int .i64 now, .slice p n cap]) 24 :: (Y355 ++ (Y352 ++ (Y10 ++ []))))) ∧ SlO 33 Y_ q_ (wiL ts k at_ 32).length c_ (wiL ts k at_ 32)) Try.call19 (fun w hw => (with_t now p n cap ts k at_ w (hts.kept hw.below) hn (by omega)).mono fun e w' ⟨q_, c_, Y_, he, hO, hb, hY⟩ => ⟨_, _, he, ⟨q_, c_, Y_, rfl, rfl, hO⟩, hw.join hb hY 4⟩) ?_
        rintro v517 L517 ⟨q517, cq517, Y517, rfl, rfl, hO517⟩
        refine od_ ?_
        exact wk (hmx5 (Y517, cq517, q517) hO517) [133, 134, 138] [[_], [_], [_], [_], _, _, _, _] [0, 1, 2, 3, 4, 5, 6, 7] rfl rfl
       refine any_cutX (V := Unit) (fun _ => True) 5 #[true, true, true, false, true, true, true, false, false, false, false] (fun _ => [(8, .pointer (some ⟨γ353 0, 0, none⟩)), (133, .bool true), (135, .agg #[.int .i64 now, .slice p n cap]), (136, .int .i64 k), (137, .int .i64 at_)]) (fun _ => bx (γ356 0) (#[.int .i64 0, .slice q355 m355 c355]) 24 :: bx (γ353 0) (#[.int .i64 now, .slice q352 m352 c352]) 24 :: bx (γ11 0) (#[.int .i64 now, .slice q10 n cq10]) 24 :: bx (γ1 0) (#[.int .i64 now, .slice p n cap]) 24 :: (Y355 ++ (Y352 ++ (Y10 ++ [])))) ?_ (fun hmx2 => ?_)
       ·
        rintro _ _
        refine any_fork [3, 7] (by kernel_rfl) (by simp) (each_cons _ rfl ?_ (each_cons _ rfl ?_ (each_nil)))
        ·
         refine qo0 1 [(3, .go (owns 1 0 2))] [133, 135, 136, 137] [(134, .agg #[.int .i64 now, .slice q352 m352 c352])] ?_
         refine od_ ?_
         exact wk (hmx3 () trivial) [133, 134, 135, 136, 137] [[_], [_], [_], [_], _, _, _] [0, 1, 2, 3, 4, 5, 6] rfl rfl
        ·
         refine cP (fun v L' => ∃ q_ c_ Y_, v = .agg #[.int .i64 now, .slice q_ (wiL ts k at_ 32).length c_] ∧ L' = List.take 4 (bx (γ356 0) (#[.int .i64 0, .slice q355 m355 c355]) 24 :: bx (γ353 0) (#[.int .i64 now, .slice q352 m352 c352]) 24 :: bx (γ11 0) (#[.int .i64 now, .slice q10 n cq10]) 24 :: bx (γ1 0) (#[.int .i64 now, .slice p n cap]) 24 :: (Y355 ++ (Y352 ++ (Y10 ++ [])))) ++ (Y_ ++ List.drop 4 (bx (γ356 0) (#[.int .i64 0, .slice q355 m355 c355]) 24 :: bx (γ353 0) (#[.int .i64 now, .slice q352 m352 c352]) 24 :: bx (γ11 0) (#[.int .i64 now, .slice q10 n cq10]) 24 :: bx (γ1 0) (#[.int .i64 now, .slice p n cap]) 24 :: (Y355 ++ (Y352 ++ (Y10 ++ []))))) ∧ SlO 33 Y_ q_ (wiL ts k at_ 32).length c_ (wiL ts k at_ 32)) Try.call19 (fun w hw => (with_t now p n cap ts k at_ w (hts.kept hw.below) hn (by omega)).mono fun e w' ⟨q_, c_, Y_, he, hO, hb, hY⟩ => ⟨_, _, he, ⟨q_, c_, Y_, rfl, rfl, hO⟩, hw.join hb hY 4⟩) ?_
         rintro v517 L517 ⟨q517, cq517, Y517, rfl, rfl, hO517⟩
         refine od_ ?_
         exact wk (hmx4 (Y517, cq517, q517) hO517) [8, 133, 138] [[_], [_], [_], [_], _, _, _, _] [0, 1, 2, 3, 4, 5, 6, 7] rfl rfl
       refine any_cutX (V := Unit) (fun _ => True) 5 #[true, true, true, true, false, true, true, false, false, false, false] (fun _ => [(3, .pointer (some ⟨γ1 0, 0, none⟩)), (133, .bool true), (134, .agg #[.int .i64 now, .slice q352 m352 c352]), (136, .int .i64 k), (137, .int .i64 at_)]) (fun _ => bx (γ356 0) (#[.int .i64 0, .slice q355 m355 c355]) 24 :: bx (γ353 0) (#[.int .i64 now, .slice q352 m352 c352]) 24 :: bx (γ11 0) (#[.int .i64 now, .slice q10 n cq10]) 24 :: bx (γ1 0) (#[.int .i64 now, .slice p n cap]) 24 :: (Y355 ++ (Y352 ++ (Y10 ++ [])))) ?_ (fun hmx1 => ?_)
       ·
        rintro _ _
        refine a1 4 rfl ?_
        refine qo0 1 [(4, .go (owns 3 0 2))] [133, 134, 136, 137] [(135, .agg #[.int .i64 now, .slice p n cap])] ?_
        refine od_ ?_
        exact wk (hmx3 () trivial) [133, 134, 135, 136, 137] [[_], [_], [_], [_], _, _, _] [0, 1, 2, 3, 4, 5, 6] rfl rfl
       refine any_fork [3, 4] (by kernel_rfl) (by simp) (each_cons _ rfl ?_ (each_cons _ rfl ?_ (each_nil)))
       ·
        refine qo0 1 [(3, .go (owns 1 0 2))] [3, 133, 136, 137] [(134, .agg #[.int .i64 now, .slice q352 m352 c352])] ?_
        refine od_ ?_
        exact wk (hmx1 () trivial) [3, 133, 134, 136, 137] [[_], [_], [_], [_], _, _, _] [0, 1, 2, 3, 4, 5, 6] rfl rfl
       ·
        refine qo0 1 [(4, .go (owns 3 0 2))] [8, 133, 136, 137] [(135, .agg #[.int .i64 now, .slice p n cap])] ?_
        refine od_ ?_
        exact wk (hmx2 () trivial) [8, 133, 135, 136, 137] [[_], [_], [_], [_], _, _, _] [0, 1, 2, 3, 4, 5, 6] rfl rfl
      rintro ⟨Y517, cq517, q517⟩ hO517
      refine any_nil (by kernel_rfl) ?_
      refine ds_ (rt ([]) (.bool true) ?_)
      exact fun w' hw => ⟨rfl, hw.below⟩
   ·
    have hymy33 := (wheel_iff.1 q13).tm y33 (getK_mem hg33).1
    rcases q638 : decide (0 ≤ k ∧ k < 32 ∧ now < at_ ∧ at_ ≤ 1125899906842624) with _ | _
    ·
     refine cP (fun v L' => ∃ q_ m_ c_ Y_, v = .tuple #[.agg #[.int .i64 0, .slice q_ m_ c_], .int .i64 2] ∧ L' = List.take 2 (bx (γ11 0) (#[.int .i64 now, .slice q10 n cq10]) 24 :: bx (γ1 0) (#[.int .i64 now, .slice p n cap]) 24 :: (Y10 ++ [])) ++ (Y_ ++ List.drop 2 (bx (γ11 0) (#[.int .i64 now, .slice q10 n cq10]) 24 :: bx (γ1 0) (#[.int .i64 now, .slice p n cap]) 24 :: (Y10 ++ []))) ∧ SlO 33 Y_ q_ m_ c_ ([] : List Tim)) Try.call13 (fun w hw => by have := set_t now q10 n cq10 ts k at_ w (hO10.atN (A := [_, _]) hw) hO10.len (by omega); rw [setV_argd q13 q638] at this; exact this.mono fun e w' ⟨q_, m_, c_, Y_, he, hO, hb, hY⟩ => ⟨_, _, he, ⟨q_, m_, c_, Y_, rfl, rfl, hO⟩, hw.join hb hY 2⟩) ?_
     rintro v639 L639 ⟨q639, m639, c639, Y639, rfl, rfl, hO639⟩
     have hm639 := hO639.len
     have hav := of_decide_eq_false q638
     simp only [List.length_cons, List.length_nil] at hm639
     refine mo0 6 [(8, .go (owns 0 0 2))] [1, 2, 3, 7] (fun γ640 => [(8, .pointer (some ⟨γ640 0, 0, none⟩)), (9, .int .i64 2)]) (fun γ640 L => bx (γ640 0) (#[.int .i64 0, .slice q639 m639 c639]) 24 :: L) (fun γ640 => on_ (ds_ (sq_ (ao_ (qo0 2 [(0, .go (owns 1 0 2))] [1, 2, 3, 7, 8, 9] [(31, .agg #[.int .i64 now, .slice q10 n cq10]), (32, .int .i64 k)] (cP (fun v L' => ∃ q_ m_ c_ Y_, v = .tuple #[.agg #[.int .i64 now, .slice q_ m_ c_], .int .i64 0] ∧ L' = List.take 3 (bx (γ640 0) (#[.int .i64 0, .slice q639 m639 c639]) 24 :: bx (γ11 0) (#[.int .i64 now, .slice q10 n cq10]) 24 :: bx (γ1 0) (#[.int .i64 now, .slice p n cap]) 24 :: (Y639 ++ (Y10 ++ []))) ++ (Y_ ++ List.drop 3 (bx (γ640 0) (#[.int .i64 0, .slice q639 m639 c639]) 24 :: bx (γ11 0) (#[.int .i64 now, .slice q10 n cq10]) 24 :: bx (γ1 0) (#[.int .i64 now, .slice p n cap]) 24 :: (Y639 ++ (Y10 ++ [])))) ∧ SlO 33 Y_ q_ m_ c_ (delK Tim.id ts k)) Try.call14 (fun w hw => by have := cancel_t now q10 n cq10 ts k w (hO10.atN (A := (_ :: _ :: _ :: Y639)) hw) hO10.len (by omega); rw [canV_okd q13 hg33] at this; exact this.mono fun e w' ⟨q_, m_, c_, Y_, he, hO, hb, hY⟩ => ⟨_, _, he, ⟨q_, m_, c_, Y_, rfl, rfl, hO⟩, hw.join hb hY 3⟩) ?_))))))
     rintro v642 L642 ⟨q642, m642, c642, Y642, rfl, rfl, hO642⟩
     have hm642 := hO642.len
     have hdl := delK_len Tim.id ts k
     have hwl0 := wiL_len (ts := ts) (k := k) (at_ := 0)
     refine mo0 6 [(7, .go (owns 0 0 2))] [1, 2, 3, 7, 8, 9] (fun γ643 => [(10, .pointer (some ⟨γ643 0, 0, none⟩)), (11, .int .i64 0)]) (fun γ643 L => bx (γ643 0) (#[.int .i64 now, .slice q642 m642 c642]) 24 :: L) (fun γ643 => on_ (ds_ (sq_ (ao_ (qo0 2 [(0, .go (owns 2 0 2))] [1, 2, 3, 7, 8, 9, 10, 11] [(37, .agg #[.int .i64 now, .slice q10 n cq10]), (38, .int .i64 k)] (cD (.tuple #[.int .i64 y33.due, .bool true]) Try.call15 (fun w hw => by have := at_t now q10 n cq10 ts k w (hO10.at ((hw.tailN 4).sub ((List.sublist_append_right Y639 _).trans (List.sublist_append_right Y642 _)))) hO10.len (by omega); rw [atO_ok q13, hg33] at this; exact this) (qo0 5 [] [1, 2, 3, 7, 8, 9, 10, 11] [(12, .int .i64 y33.due), (13, .bool true)] (on_ (ds_ (sq_ (sq_ (ao_ (qo0 2 [(0, .go (owns 2 0 2)), (1, .go (owns 3 0 2))] [1, 2, 3, 8, 9, 10, 11, 12, 13] [(42, .agg #[.int .i64 now, .slice q10 n cq10]), (43, .agg #[.int .i64 now, .slice p n cap])] (cD (.bool true) Try.call16 (fun w hw => by have := rsame_t now q10 n cq10 ts now p n cap ts w (hO10.at ((hw.tailN 4).sub ((List.sublist_append_right Y639 _).trans (List.sublist_append_right Y642 _)))) hO10.len (by omega) (hts.kept hw.below) hn (by omega); rw [sameW_refl] at this; exact this) (qo0 1 [] [1, 2, 3, 8, 9, 10, 11, 12, 13] [(45, .bool false)] (on_ (ds_ (f_ (at_skip (ds_ (sq_ (sq_ (ao_ (qo0 1 [(0, .go (owns 3 0 2))] [1, 2, 3, 8, 9, 10, 11, 12, 13] [(46, .agg #[.int .i64 now, .slice p n cap])] (cD (.bool true) Try.call17 (fun w hw => by have := rright_t now p n cap ts w (hts.kept hw.below) hn (by omega); rw [q13] at this; exact this) (qo0 1 [] [1, 2, 3, 8, 9, 10, 11, 12, 13] [(48, .bool false)] (on_ (ds_ (f_ (at_skip (ds_ (sq_ ?_))))))))))))))))))))))))))))))))
     have hyp := (wheel_iff.1 q13).n0
     refine ao_ (qo0 2 [(0, .go (owns 3 0 2))] [1, 2, 3, 8, 9, 10, 11, 12, 13] [(75, .agg #[.int .i64 now, .slice p n cap]), (76, .int .i64 k)] (cD (.int .i64 y33.due) Try.call18 (fun w hw => by have := rat_t now p n cap ts k w (hts.kept hw.below) hn (by omega); rw [atR_some hg33] at this; exact this) (qo0 1 [] [1, 2, 3, 8, 9, 10, 11, 12, 13] [(14, .int .i64 y33.due)] (on_ (ds_ (sq_ (sq_ (qa [(2, .no), (6, .yes), (7, .eqs false)] [1, 2, 3, 8, 9, 10, 11, 14] [(86, .bool false)] ([¬ ((y33.due : Int) ≠ (y33.due : Int))] ++ ([(y33.due : Int) > (0 : Int)] ++ ([EqRun Try.prog .neq 4 (.tmp 82) (.tmp 84) (.bool true) (.bool true) false]))) (alA (al1 ((fun h => h rfl))) (alA (al1 ((by omega))) (al1 (bool_ne true true)))) (ds_ (f_ (at_skip (ds_ (sq_ (sq_ (qa [(1, .no)] [1, 2, 3, 8, 9, 10, 11] [(88, .bool false)] ([¬ ((y33.due : Int) = (0 : Int))]) (al1 ((by omega))) (ds_ (f_ (sq_ ?_))))))))))))))))))
     refine at_any (by kernel_rfl) ?_
     refine tk (m := 6) [0, 1, 2, 5] [] [1, 2, 3, 8, 9, 10] [(99, .bool false), (102, .int .i64 k)] ([]) #[true, true, true, false, false, true, false, false, false, false] al0 ?_
     refine any_cutX (V := (List Ob) × (Nat) × (Option Addr)) (fun ⟨Y777, cq777, q777⟩ => SlO 33 Y777 q777 (wiL ts k 0 32).length cq777 (wiL ts k 0 32)) 0 #[true, true, true, true, true, true, true, true, true, true] (fun ⟨Y777, cq777, q777⟩ => [(1, .int .i64 k), (2, .int .i64 at_), (3, .pointer (some ⟨γ1 0, 0, none⟩)), (8, .pointer (some ⟨γ640 0, 0, none⟩)), (9, .int .i64 2), (106, .bool false)]) (fun ⟨Y777, cq777, q777⟩ => bx (γ643 0) (#[.int .i64 now, .slice q642 m642 c642]) 24 :: bx (γ640 0) (#[.int .i64 0, .slice q639 m639 c639]) 24 :: bx (γ11 0) (#[.int .i64 now, .slice q10 n cq10]) 24 :: bx (γ1 0) (#[.int .i64 now, .slice p n cap]) 24 :: (Y777 ++ (Y642 ++ (Y639 ++ (Y10 ++ []))))) ?_ (fun hmx6 => ?_)
     rotate_left
     ·
      refine any_cutX (V := (List Ob) × (Nat) × (Option Addr)) (fun ⟨Y777, cq777, q777⟩ => SlO 33 Y777 q777 (wiL ts k 0 32).length cq777 (wiL ts k 0 32)) 3 #[true, true, true, true, true, true, true, false, false, false] (fun ⟨Y777, cq777, q777⟩ => [(1, .int .i64 k), (2, .int .i64 at_), (3, .pointer (some ⟨γ1 0, 0, none⟩)), (8, .pointer (some ⟨γ640 0, 0, none⟩)), (9, .int .i64 2), (99, .bool false), (100, .agg #[.int .i64 now, .slice q642 m642 c642]), (103, .agg #[.int .i64 now, .slice q777 ((wiL ts k 0 32).length) cq777])]) (fun ⟨Y777, cq777, q777⟩ => bx (γ643 0) (#[.int .i64 now, .slice q642 m642 c642]) 24 :: bx (γ640 0) (#[.int .i64 0, .slice q639 m639 c639]) 24 :: bx (γ11 0) (#[.int .i64 now, .slice q10 n cq10]) 24 :: bx (γ1 0) (#[.int .i64 now, .slice p n cap]) 24 :: (Y777 ++ (Y642 ++ (Y639 ++ (Y10 ++ []))))) ?_ (fun hmx5 => ?_)
      ·
       rintro ⟨Y777, cq777, q777⟩ hO777
       refine a1 7 rfl ?_
       refine cD (.bool true) Try.call16 (fun w hw => by have e_ : sameW now ((delK Tim.id ts k)) now ((wiL ts k 0 32)) = true := (by rw [with_del (wheel_iff.1 q13) hg33, sameW_refl]); have := rsame_t now q642 m642 c642 ((delK Tim.id ts k)) now q777 ((wiL ts k 0 32).length) cq777 ((wiL ts k 0 32)) w (hO642.atN (A := (_ :: _ :: _ :: _ :: Y777)) hw) hO642.len (by omega) (hO777.atN (A := [_, _, _, _]) hw) hO777.len (by omega); rw [e_] at this; exact this) ?_
       refine od_ ?_
       refine tk (m := 0) [8, 9] [] [1, 2, 3, 8, 9] [(106, .bool false)] ([]) #[true, true, true, true, true, true, true, true, true, true] al0 ?_
       exact wk (hmx6 (Y777, cq777, q777) hO777) [1, 2, 3, 8, 9, 106] [[_], [_], [_], [_], _, _, _, _] [0, 1, 2, 3, 4, 5, 6, 7] rfl rfl
      refine any_cutX (V := (List Ob) × (Nat) × (Option Addr)) (fun ⟨Y777, cq777, q777⟩ => SlO 33 Y777 q777 (wiL ts k 0 32).length cq777 (wiL ts k 0 32)) 4 #[true, true, true, false, true, true, true, false, false, false] (fun ⟨Y777, cq777, q777⟩ => [(1, .int .i64 k), (2, .int .i64 at_), (3, .pointer (some ⟨γ1 0, 0, none⟩)), (8, .pointer (some ⟨γ640 0, 0, none⟩)), (9, .int .i64 2), (10, .pointer (some ⟨γ643 0, 0, none⟩)), (99, .bool false), (103, .agg #[.int .i64 now, .slice q777 ((wiL ts k 0 32).length) cq777])]) (fun ⟨Y777, cq777, q777⟩ => bx (γ643 0) (#[.int .i64 now, .slice q642 m642 c642]) 24 :: bx (γ640 0) (#[.int .i64 0, .slice q639 m639 c639]) 24 :: bx (γ11 0) (#[.int .i64 now, .slice q10 n cq10]) 24 :: bx (γ1 0) (#[.int .i64 now, .slice p n cap]) 24 :: (Y777 ++ (Y642 ++ (Y639 ++ (Y10 ++ []))))) ?_ (fun hmx4 => ?_)
      ·
       rintro ⟨Y777, cq777, q777⟩ hO777
       refine a1 3 rfl ?_
       refine qo0 1 [(3, .go (owns 0 0 2))] [1, 2, 3, 8, 9, 99, 103] [(100, .agg #[.int .i64 now, .slice q642 m642 c642])] ?_
       refine od_ ?_
       exact wk (hmx5 (Y777, cq777, q777) hO777) [1, 2, 3, 8, 9, 99, 100, 103] [[_], [_], [_], [_], _, _, _, _] [0, 1, 2, 3, 4, 5, 6, 7] rfl rfl
      refine any_cutX (V := Unit) (fun _ => True) 4 #[true, true, true, true, true, true, false, false, false, false] (fun _ => [(1, .int .i64 k), (2, .int .i64 at_), (3, .pointer (some ⟨γ1 0, 0, none⟩)), (8, .pointer (some ⟨γ640 0, 0, none⟩)), (9, .int .i64 2), (99, .bool false), (100, .agg #[.int .i64 now, .slice q642 m642 c642]), (101, .agg #[.int .i64 now, .slice p n cap]), (102, .int .i64 k)]) (fun _ => bx (γ643 0) (#[.int .i64 now, .slice q642 m642 c642]) 24 :: bx (γ640 0) (#[.int .i64 0, .slice q639 m639 c639]) 24 :: bx (γ11 0) (#[.int .i64 now, .slice q10 n cq10]) 24 :: bx (γ1 0) (#[.int .i64 now, .slice p n cap]) 24 :: (Y642 ++ (Y639 ++ (Y10 ++ [])))) ?_ (fun hmx3 => ?_)
      ·
       rintro _ _
       refine a1 6 rfl ?_
       refine cP (fun v L' => ∃ q_ c_ Y_, v = .agg #[.int .i64 now, .slice q_ (wiL ts k 0 32).length c_] ∧ L' = List.take 4 (bx (γ643 0) (#[.int .i64 now, .slice q642 m642 c642]) 24 :: bx (γ640 0) (#[.int .i64 0, .slice q639 m639 c639]) 24 :: bx (γ11 0) (#[.int .i64 now, .slice q10 n cq10]) 24 :: bx (γ1 0) (#[.int .i64 now, .slice p n cap]) 24 :: (Y642 ++ (Y639 ++ (Y10 ++ [])))) ++ (Y_ ++ List.drop 4 (bx (γ643 0) (#[.int .i64 now, .slice q642 m642 c642]) 24 :: bx (γ640 0) (#[.int .i64 0, .slice q639 m639 c639]) 24 :: bx (γ11 0) (#[.int .i64 now, .slice q10 n cq10]) 24 :: bx (γ1 0) (#[.int .i64 now, .slice p n cap]) 24 :: (Y642 ++ (Y639 ++ (Y10 ++ []))))) ∧ SlO 33 Y_ q_ (wiL ts k 0 32).length c_ (wiL ts k 0 32)) Try.call19 (fun w hw => (with_t now p n cap ts k 0 w (hts.kept hw.below) hn (by omega)).mono fun e w' ⟨q_, c_, Y_, he, hO, hb, hY⟩ => ⟨_, _, he, ⟨q_, c_, Y_, rfl, rfl, hO⟩, hw.join hb hY 4⟩) ?_
       rintro v777 L777 ⟨q777, cq777, Y777, rfl, rfl, hO777⟩
       refine od_ ?_
       exact wk (hmx5 (Y777, cq777, q777) hO777) [1, 2, 3, 8, 9, 99, 100, 103] [[_], [_], [_], [_], _, _, _, _] [0, 1, 2, 3, 4, 5, 6, 7] rfl rfl
      refine any_cutX (V := Unit) (fun _ => True) 5 #[true, true, true, false, true, true, false, false, false, false] (fun _ => [(1, .int .i64 k), (2, .int .i64 at_), (3, .pointer (some ⟨γ1 0, 0, none⟩)), (8, .pointer (some ⟨γ640 0, 0, none⟩)), (9, .int .i64 2), (10, .pointer (some ⟨γ643 0, 0, none⟩)), (99, .bool false), (101, .agg #[.int .i64 now, .slice p n cap]), (102, .int .i64 k)]) (fun _ => bx (γ643 0) (#[.int .i64 now, .slice q642 m642 c642]) 24 :: bx (γ640 0) (#[.int .i64 0, .slice q639 m639 c639]) 24 :: bx (γ11 0) (#[.int .i64 now, .slice q10 n cq10]) 24 :: bx (γ1 0) (#[.int .i64 now, .slice p n cap]) 24 :: (Y642 ++ (Y639 ++ (Y10 ++ [])))) ?_ (fun hmx2 => ?_)
      ·
       rintro _ _
       refine any_fork [3, 6] (by kernel_rfl) (by simp) (each_cons _ rfl ?_ (each_cons _ rfl ?_ (each_nil)))
       ·
        refine qo0 1 [(3, .go (owns 0 0 2))] [1, 2, 3, 8, 9, 99, 101, 102] [(100, .agg #[.int .i64 now, .slice q642 m642 c642])] ?_
        refine od_ ?_
        exact wk (hmx3 () trivial) [1, 2, 3, 8, 9, 99, 100, 101, 102] [[_], [_], [_], [_], _, _, _] [0, 1, 2, 3, 4, 5, 6] rfl rfl
       ·
        refine cP (fun v L' => ∃ q_ c_ Y_, v = .agg #[.int .i64 now, .slice q_ (wiL ts k 0 32).length c_] ∧ L' = List.take 4 (bx (γ643 0) (#[.int .i64 now, .slice q642 m642 c642]) 24 :: bx (γ640 0) (#[.int .i64 0, .slice q639 m639 c639]) 24 :: bx (γ11 0) (#[.int .i64 now, .slice q10 n cq10]) 24 :: bx (γ1 0) (#[.int .i64 now, .slice p n cap]) 24 :: (Y642 ++ (Y639 ++ (Y10 ++ [])))) ++ (Y_ ++ List.drop 4 (bx (γ643 0) (#[.int .i64 now, .slice q642 m642 c642]) 24 :: bx (γ640 0) (#[.int .i64 0, .slice q639 m639 c639]) 24 :: bx (γ11 0) (#[.int .i64 now, .slice q10 n cq10]) 24 :: bx (γ1 0) (#[.int .i64 now, .slice p n cap]) 24 :: (Y642 ++ (Y639 ++ (Y10 ++ []))))) ∧ SlO 33 Y_ q_ (wiL ts k 0 32).length c_ (wiL ts k 0 32)) Try.call19 (fun w hw => (with_t now p n cap ts k 0 w (hts.kept hw.below) hn (by omega)).mono fun e w' ⟨q_, c_, Y_, he, hO, hb, hY⟩ => ⟨_, _, he, ⟨q_, c_, Y_, rfl, rfl, hO⟩, hw.join hb hY 4⟩) ?_
        rintro v777 L777 ⟨q777, cq777, Y777, rfl, rfl, hO777⟩
        refine od_ ?_
        exact wk (hmx4 (Y777, cq777, q777) hO777) [1, 2, 3, 8, 9, 10, 99, 103] [[_], [_], [_], [_], _, _, _, _] [0, 1, 2, 3, 4, 5, 6, 7] rfl rfl
      refine any_cutX (V := Unit) (fun _ => True) 5 #[true, true, true, true, false, true, false, false, false, false] (fun _ => [(1, .int .i64 k), (2, .int .i64 at_), (3, .pointer (some ⟨γ1 0, 0, none⟩)), (8, .pointer (some ⟨γ640 0, 0, none⟩)), (9, .int .i64 2), (99, .bool false), (100, .agg #[.int .i64 now, .slice q642 m642 c642]), (102, .int .i64 k)]) (fun _ => bx (γ643 0) (#[.int .i64 now, .slice q642 m642 c642]) 24 :: bx (γ640 0) (#[.int .i64 0, .slice q639 m639 c639]) 24 :: bx (γ11 0) (#[.int .i64 now, .slice q10 n cq10]) 24 :: bx (γ1 0) (#[.int .i64 now, .slice p n cap]) 24 :: (Y642 ++ (Y639 ++ (Y10 ++ [])))) ?_ (fun hmx1 => ?_)
      ·
       rintro _ _
       refine a1 4 rfl ?_
       refine qo0 1 [(4, .go (owns 3 0 2))] [1, 2, 3, 8, 9, 99, 100, 102] [(101, .agg #[.int .i64 now, .slice p n cap])] ?_
       refine od_ ?_
       exact wk (hmx3 () trivial) [1, 2, 3, 8, 9, 99, 100, 101, 102] [[_], [_], [_], [_], _, _, _] [0, 1, 2, 3, 4, 5, 6] rfl rfl
      refine any_fork [3, 4] (by kernel_rfl) (by simp) (each_cons _ rfl ?_ (each_cons _ rfl ?_ (each_nil)))
      ·
       refine qo0 1 [(3, .go (owns 0 0 2))] [1, 2, 3, 8, 9, 99, 102] [(100, .agg #[.int .i64 now, .slice q642 m642 c642])] ?_
       refine od_ ?_
       exact wk (hmx1 () trivial) [1, 2, 3, 8, 9, 99, 100, 102] [[_], [_], [_], [_], _, _, _] [0, 1, 2, 3, 4, 5, 6] rfl rfl
      ·
       refine qo0 1 [(4, .go (owns 3 0 2))] [1, 2, 3, 8, 9, 10, 99, 102] [(101, .agg #[.int .i64 now, .slice p n cap])] ?_
       refine od_ ?_
       exact wk (hmx2 () trivial) [1, 2, 3, 8, 9, 10, 99, 101, 102] [[_], [_], [_], [_], _, _, _] [0, 1, 2, 3, 4, 5, 6] rfl rfl
     rintro ⟨Y777, cq777, q777⟩ hO777
     refine any_nil (by kernel_rfl) ?_
     refine ds_ (f_ (at_skip (ds_ (sq_ (sq_ ?_)))))
     by_cases q899 : (k : Int) < (0 : Int)
     ·
      refine ao_ (qo 14 [(1, .yes)] [1, 2, 3, 8, 9] [(119, .bool true), (120, undef)] ([(k : Int) < (0 : Int)]) (al1 q899) (qo0 2 [] [1, 2, 3, 8, 9] [(122, .bool true)] (on_ (ds_ (t_ (sq_ ?_))))))
      by_cases q903 : ((m639 : Nat) : Int) = (0 : Int)
      ·
       refine qa [(4, .go (owns 1 1 1)), (6, .yes)] [] [(6, .bool true)] ([((m639 : Nat) : Int) = (0 : Int)]) (al1 q903) (ds_ (rt ([]) (.bool true) ?_))
       exact fun w' hw => ⟨rfl, hw.below⟩
      ·
       refine qa [(4, .go (owns 1 1 1)), (6, .no)] [] [(6, .bool false)] ([¬ (((m639 : Nat) : Int) = (0 : Int))]) (al1 q903) (ds_ (rt ([]) (.bool false) ?_))
       exfalso; first | omega | (simp only [List.length_nil] at *; omega)
     ·
      by_cases q907 : (k : Int) > (31 : Int)
      ·
       refine ao_ (qo 14 [(1, .no), (4, .yes)] [1, 2, 3, 8, 9] [(119, .bool true), (120, undef)] ([¬ ((k : Int) < (0 : Int))] ++ ([(k : Int) > (31 : Int)])) (alA (al1 q899) (al1 q907)) (qo0 2 [] [1, 2, 3, 8, 9] [(122, .bool true)] (on_ (ds_ (t_ (sq_ ?_))))))
       by_cases q911 : ((m639 : Nat) : Int) = (0 : Int)
       ·
        refine qa [(4, .go (owns 1 1 1)), (6, .yes)] [] [(6, .bool true)] ([((m639 : Nat) : Int) = (0 : Int)]) (al1 q911) (ds_ (rt ([]) (.bool true) ?_))
        exact fun w' hw => ⟨rfl, hw.below⟩
       ·
        refine qa [(4, .go (owns 1 1 1)), (6, .no)] [] [(6, .bool false)] ([¬ (((m639 : Nat) : Int) = (0 : Int))]) (al1 q911) (ds_ (rt ([]) (.bool false) ?_))
        exfalso; first | omega | (simp only [List.length_nil] at *; omega)
      ·
       by_cases q915 : (at_ : Int) ≤ (now : Int)
       ·
        refine ao_ (qo 14 [(1, .no), (4, .no), (9, .go (owns 3 0 1)), (10, .yes)] [1, 2, 3, 8, 9] [(119, .bool true), (120, undef)] ([¬ ((k : Int) < (0 : Int))] ++ ([¬ ((k : Int) > (31 : Int))] ++ ([(at_ : Int) ≤ (now : Int)]))) (alA (al1 q899) (alA (al1 q907) (al1 q915))) (qo0 2 [] [1, 2, 3, 8, 9] [(122, .bool true)] (on_ (ds_ (t_ (sq_ ?_))))))
        by_cases q919 : ((m639 : Nat) : Int) = (0 : Int)
        ·
         refine qa [(4, .go (owns 1 1 1)), (6, .yes)] [] [(6, .bool true)] ([((m639 : Nat) : Int) = (0 : Int)]) (al1 q919) (ds_ (rt ([]) (.bool true) ?_))
         exact fun w' hw => ⟨rfl, hw.below⟩
        ·
         refine qa [(4, .go (owns 1 1 1)), (6, .no)] [] [(6, .bool false)] ([¬ (((m639 : Nat) : Int) = (0 : Int))]) (al1 q919) (ds_ (rt ([]) (.bool false) ?_))
         exfalso; first | omega | (simp only [List.length_nil] at *; omega)
       ·
        refine ao_ (qo 14 [(1, .no), (4, .no), (9, .go (owns 3 0 1)), (10, .no)] [1, 2, 3, 8, 9] [(119, .bool false), (120, .int .i64 at_)] ([¬ ((k : Int) < (0 : Int))] ++ ([¬ ((k : Int) > (31 : Int))] ++ ([¬ ((at_ : Int) ≤ (now : Int))]))) (alA (al1 q899) (alA (al1 q907) (al1 q915))) ?_)
        by_cases q924 : (at_ : Int) > (1125899906842624 : Int)
        ·
         refine qo 2 [(14, .yes)] [1, 2, 3, 8, 9] [(122, .bool true)] ([(at_ : Int) > (1125899906842624 : Int)]) (al1 q924) (on_ (ds_ (t_ (sq_ ?_))))
         by_cases q927 : ((m639 : Nat) : Int) = (0 : Int)
         ·
          refine qa [(4, .go (owns 1 1 1)), (6, .yes)] [] [(6, .bool true)] ([((m639 : Nat) : Int) = (0 : Int)]) (al1 q927) (ds_ (rt ([]) (.bool true) ?_))
          exact fun w' hw => ⟨rfl, hw.below⟩
         ·
          refine qa [(4, .go (owns 1 1 1)), (6, .no)] [] [(6, .bool false)] ([¬ (((m639 : Nat) : Int) = (0 : Int))]) (al1 q927) (ds_ (rt ([]) (.bool false) ?_))
          exfalso; first | omega | (simp only [List.length_nil] at *; omega)
        ·
         refine qo 2 [(14, .no)] [1, 2, 3, 8, 9] [(122, .bool false)] ([¬ ((at_ : Int) > (1125899906842624 : Int))]) (al1 q924) (on_ (ds_ (f_ (at_skip (ds_ (sq_ ?_))))))
         refine at_any (by kernel_rfl) ?_
         refine tk (m := 6) [0, 1, 2, 5, 6] [] [3, 8] [(133, .bool false), (136, undef), (137, undef)] ([]) #[true, true, true, false, false, true, true, false, false, false, false] al0 ?_
         refine any_cutX (V := Unit) (fun _ => True) 0 #[true, true, true, true, true, true, true, true, true, true, true] (fun _ => [(6, .bool false)]) (fun _ => bx (γ643 0) (#[.int .i64 now, .slice q642 m642 c642]) 24 :: bx (γ640 0) (#[.int .i64 0, .slice q639 m639 c639]) 24 :: bx (γ11 0) (#[.int .i64 now, .slice q10 n cq10]) 24 :: bx (γ1 0) (#[.int .i64 now, .slice p n cap]) 24 :: (Y777 ++ (Y642 ++ (Y639 ++ (Y10 ++ []))))) ?_ (fun hmx6 => ?_)
         rotate_left
         ·
          refine any_cutX (V := Unit) (fun _ => True) 3 #[true, true, true, true, true, true, true, true, false, false, false] (fun _ => [(133, .bool false), (134, undef), (138, undef)]) (fun _ => bx (γ643 0) (#[.int .i64 now, .slice q642 m642 c642]) 24 :: bx (γ640 0) (#[.int .i64 0, .slice q639 m639 c639]) 24 :: bx (γ11 0) (#[.int .i64 now, .slice q10 n cq10]) 24 :: bx (γ1 0) (#[.int .i64 now, .slice p n cap]) 24 :: (Y777 ++ (Y642 ++ (Y639 ++ (Y10 ++ []))))) ?_ (fun hmx5 => ?_)
          ·
           rintro _ _
           refine a1 8 rfl ?_
           refine qo0 1 [] [133] [(139, undef)] ?_
           refine od_ ?_
           refine tk (m := 0) [9, 10] [] [] [(6, .bool false)] ([]) #[true, true, true, true, true, true, true, true, true, true, true] al0 ?_
           exact wk (hmx6 () trivial) [6] [[_], [_], [_], [_], _, _, _, _] [0, 1, 2, 3, 4, 5, 6, 7] rfl rfl
          refine any_cutX (V := Unit) (fun _ => True) 4 #[true, true, true, false, true, true, true, true, false, false, false] (fun _ => [(8, .pointer (some ⟨γ640 0, 0, none⟩)), (133, .bool false), (138, undef)]) (fun _ => bx (γ643 0) (#[.int .i64 now, .slice q642 m642 c642]) 24 :: bx (γ640 0) (#[.int .i64 0, .slice q639 m639 c639]) 24 :: bx (γ11 0) (#[.int .i64 now, .slice q10 n cq10]) 24 :: bx (γ1 0) (#[.int .i64 now, .slice p n cap]) 24 :: (Y777 ++ (Y642 ++ (Y639 ++ (Y10 ++ []))))) ?_ (fun hmx4 => ?_)
          ·
           rintro _ _
           refine a1 3 rfl ?_
           refine qo0 1 [] [133, 138] [(134, undef)] ?_
           refine od_ ?_
           exact wk (hmx5 () trivial) [133, 134, 138] [[_], [_], [_], [_], _, _, _, _] [0, 1, 2, 3, 4, 5, 6, 7] rfl rfl
          refine any_cutX (V := Unit) (fun _ => True) 4 #[true, true, true, true, true, true, true, false, false, false, false] (fun _ => [(133, .bool false), (134, undef), (135, undef), (136, undef), (137, undef)]) (fun _ => bx (γ643 0) (#[.int .i64 now, .slice q642 m642 c642]) 24 :: bx (γ640 0) (#[.int .i64 0, .slice q639 m639 c639]) 24 :: bx (γ11 0) (#[.int .i64 now, .slice q10 n cq10]) 24 :: bx (γ1 0) (#[.int .i64 now, .slice p n cap]) 24 :: (Y777 ++ (Y642 ++ (Y639 ++ (Y10 ++ []))))) ?_ (fun hmx3 => ?_)
          ·
           rintro _ _
           refine a1 7 rfl ?_
           refine qo0 1 [] [133, 134] [(138, undef)] ?_
           refine od_ ?_
           exact wk (hmx5 () trivial) [133, 134, 138] [[_], [_], [_], [_], _, _, _, _] [0, 1, 2, 3, 4, 5, 6, 7] rfl rfl
          refine any_cutX (V := Unit) (fun _ => True) 5 #[true, true, true, false, true, true, true, false, false, false, false] (fun _ => [(8, .pointer (some ⟨γ640 0, 0, none⟩)), (133, .bool false), (135, undef), (136, undef), (137, undef)]) (fun _ => bx (γ643 0) (#[.int .i64 now, .slice q642 m642 c642]) 24 :: bx (γ640 0) (#[.int .i64 0, .slice q639 m639 c639]) 24 :: bx (γ11 0) (#[.int .i64 now, .slice q10 n cq10]) 24 :: bx (γ1 0) (#[.int .i64 now, .slice p n cap]) 24 :: (Y777 ++ (Y642 ++ (Y639 ++ (Y10 ++ []))))) ?_ (fun hmx2 => ?_)
          ·
           rintro _ _
           refine any_fork [3, 7] (by kernel_rfl) (by simp) (each_cons _ rfl ?_ (each_cons _ rfl ?_ (each_nil)))
           ·
            refine qo0 1 [] [133, 135, 136, 137] [(134, undef)] ?_
            refine od_ ?_
            exact wk (hmx3 () trivial) [133, 134, 135, 136, 137] [[_], [_], [_], [_], _, _, _, _] [0, 1, 2, 3, 4, 5, 6, 7] rfl rfl
           ·
            refine qo0 1 [] [8, 133] [(138, undef)] ?_
            refine od_ ?_
            exact wk (hmx4 () trivial) [8, 133, 138] [[_], [_], [_], [_], _, _, _, _] [0, 1, 2, 3, 4, 5, 6, 7] rfl rfl
          refine any_cutX (V := Unit) (fun _ => True) 5 #[true, true, true, true, false, true, true, false, false, false, false] (fun _ => [(3, .pointer (some ⟨γ1 0, 0, none⟩)), (133, .bool false), (134, undef), (136, undef), (137, undef)]) (fun _ => bx (γ643 0) (#[.int .i64 now, .slice q642 m642 c642]) 24 :: bx (γ640 0) (#[.int .i64 0, .slice q639 m639 c639]) 24 :: bx (γ11 0) (#[.int .i64 now, .slice q10 n cq10]) 24 :: bx (γ1 0) (#[.int .i64 now, .slice p n cap]) 24 :: (Y777 ++ (Y642 ++ (Y639 ++ (Y10 ++ []))))) ?_ (fun hmx1 => ?_)
          ·
           rintro _ _
           refine a1 4 rfl ?_
           refine qo0 1 [] [133, 134, 136, 137] [(135, undef)] ?_
           refine od_ ?_
           exact wk (hmx3 () trivial) [133, 134, 135, 136, 137] [[_], [_], [_], [_], _, _, _, _] [0, 1, 2, 3, 4, 5, 6, 7] rfl rfl
          refine any_fork [3, 4] (by kernel_rfl) (by simp) (each_cons _ rfl ?_ (each_cons _ rfl ?_ (each_nil)))
          ·
           refine qo0 1 [] [3, 133, 136, 137] [(134, undef)] ?_
           refine od_ ?_
           exact wk (hmx1 () trivial) [3, 133, 134, 136, 137] [[_], [_], [_], [_], _, _, _, _] [0, 1, 2, 3, 4, 5, 6, 7] rfl rfl
          ·
           refine qo0 1 [] [8, 133, 136, 137] [(135, undef)] ?_
           refine od_ ?_
           exact wk (hmx2 () trivial) [8, 133, 135, 136, 137] [[_], [_], [_], [_], _, _, _, _] [0, 1, 2, 3, 4, 5, 6, 7] rfl rfl
         rintro _ _
         refine any_nil (by kernel_rfl) ?_
         refine ds_ (rt ([]) (.bool false) ?_)
         exfalso; first | omega | (simp only [List.length_nil] at *; omega)
    ·
     refine cP (fun v L' => ∃ q_ m_ c_ Y_, v = .tuple #[.agg #[.int .i64 now, .slice q_ m_ c_], .int .i64 0] ∧ L' = List.take 2 (bx (γ11 0) (#[.int .i64 now, .slice q10 n cq10]) 24 :: bx (γ1 0) (#[.int .i64 now, .slice p n cap]) 24 :: (Y10 ++ [])) ++ (Y_ ++ List.drop 2 (bx (γ11 0) (#[.int .i64 now, .slice q10 n cq10]) 24 :: bx (γ1 0) (#[.int .i64 now, .slice p n cap]) 24 :: (Y10 ++ []))) ∧ SlO 33 Y_ q_ m_ c_ (putK Tim.id ts ⟨k, at_⟩)) Try.call13 (fun w hw => by have := set_t now q10 n cq10 ts k at_ w (hO10.atN (A := [_, _]) hw) hO10.len (by omega); rw [setV_putd q13 q638 hg33] at this; exact this.mono fun e w' ⟨q_, m_, c_, Y_, he, hO, hb, hY⟩ => ⟨_, _, he, ⟨q_, m_, c_, Y_, rfl, rfl, hO⟩, hw.join hb hY 2⟩) ?_
     rintro v1195 L1195 ⟨q1195, m1195, c1195, Y1195, rfl, rfl, hO1195⟩
     have hm1195 := hO1195.len
     have hav := of_decide_eq_true q638
     have hkl := putK_len Tim.id ts ⟨k, at_⟩
     have hwl := wiL_len (ts := ts) (k := k) (at_ := at_)
     refine mo0 6 [(8, .go (owns 0 0 2))] [1, 2, 3, 7] (fun γ1196 => [(8, .pointer (some ⟨γ1196 0, 0, none⟩)), (9, .int .i64 0)]) (fun γ1196 L => bx (γ1196 0) (#[.int .i64 now, .slice q1195 m1195 c1195]) 24 :: L) (fun γ1196 => on_ (ds_ (sq_ (ao_ (qo0 2 [(0, .go (owns 1 0 2))] [1, 2, 3, 7, 8, 9] [(31, .agg #[.int .i64 now, .slice q10 n cq10]), (32, .int .i64 k)] (cP (fun v L' => ∃ q_ m_ c_ Y_, v = .tuple #[.agg #[.int .i64 now, .slice q_ m_ c_], .int .i64 0] ∧ L' = List.take 3 (bx (γ1196 0) (#[.int .i64 now, .slice q1195 m1195 c1195]) 24 :: bx (γ11 0) (#[.int .i64 now, .slice q10 n cq10]) 24 :: bx (γ1 0) (#[.int .i64 now, .slice p n cap]) 24 :: (Y1195 ++ (Y10 ++ []))) ++ (Y_ ++ List.drop 3 (bx (γ1196 0) (#[.int .i64 now, .slice q1195 m1195 c1195]) 24 :: bx (γ11 0) (#[.int .i64 now, .slice q10 n cq10]) 24 :: bx (γ1 0) (#[.int .i64 now, .slice p n cap]) 24 :: (Y1195 ++ (Y10 ++ [])))) ∧ SlO 33 Y_ q_ m_ c_ (delK Tim.id ts k)) Try.call14 (fun w hw => by have := cancel_t now q10 n cq10 ts k w (hO10.atN (A := (_ :: _ :: _ :: Y1195)) hw) hO10.len (by omega); rw [canV_okd q13 hg33] at this; exact this.mono fun e w' ⟨q_, m_, c_, Y_, he, hO, hb, hY⟩ => ⟨_, _, he, ⟨q_, m_, c_, Y_, rfl, rfl, hO⟩, hw.join hb hY 3⟩) ?_))))))
     rintro v1198 L1198 ⟨q1198, m1198, c1198, Y1198, rfl, rfl, hO1198⟩
     have hm1198 := hO1198.len
     have hdl := delK_len Tim.id ts k
     have hwl0 := wiL_len (ts := ts) (k := k) (at_ := 0)
     refine mo0 6 [(7, .go (owns 0 0 2))] [1, 2, 3, 7, 8, 9] (fun γ1199 => [(10, .pointer (some ⟨γ1199 0, 0, none⟩)), (11, .int .i64 0)]) (fun γ1199 L => bx (γ1199 0) (#[.int .i64 now, .slice q1198 m1198 c1198]) 24 :: L) (fun γ1199 => on_ (ds_ (sq_ (ao_ (qo0 2 [(0, .go (owns 2 0 2))] [1, 2, 3, 7, 8, 9, 10, 11] [(37, .agg #[.int .i64 now, .slice q10 n cq10]), (38, .int .i64 k)] (cD (.tuple #[.int .i64 y33.due, .bool true]) Try.call15 (fun w hw => by have := at_t now q10 n cq10 ts k w (hO10.at ((hw.tailN 4).sub ((List.sublist_append_right Y1195 _).trans (List.sublist_append_right Y1198 _)))) hO10.len (by omega); rw [atO_ok q13, hg33] at this; exact this) (qo0 5 [] [1, 2, 3, 7, 8, 9, 10, 11] [(12, .int .i64 y33.due), (13, .bool true)] (on_ (ds_ (sq_ (sq_ (ao_ (qo0 2 [(0, .go (owns 2 0 2)), (1, .go (owns 3 0 2))] [1, 2, 3, 8, 9, 10, 11, 12, 13] [(42, .agg #[.int .i64 now, .slice q10 n cq10]), (43, .agg #[.int .i64 now, .slice p n cap])] (cD (.bool true) Try.call16 (fun w hw => by have := rsame_t now q10 n cq10 ts now p n cap ts w (hO10.at ((hw.tailN 4).sub ((List.sublist_append_right Y1195 _).trans (List.sublist_append_right Y1198 _)))) hO10.len (by omega) (hts.kept hw.below) hn (by omega); rw [sameW_refl] at this; exact this) (qo0 1 [] [1, 2, 3, 8, 9, 10, 11, 12, 13] [(45, .bool false)] (on_ (ds_ (f_ (at_skip (ds_ (sq_ (sq_ (ao_ (qo0 1 [(0, .go (owns 3 0 2))] [1, 2, 3, 8, 9, 10, 11, 12, 13] [(46, .agg #[.int .i64 now, .slice p n cap])] (cD (.bool true) Try.call17 (fun w hw => by have := rright_t now p n cap ts w (hts.kept hw.below) hn (by omega); rw [q13] at this; exact this) (qo0 1 [] [1, 2, 3, 8, 9, 10, 11, 12, 13] [(48, .bool false)] (on_ (ds_ (f_ (at_skip (ds_ (sq_ ?_))))))))))))))))))))))))))))))))
     have hyp := (wheel_iff.1 q13).n0
     refine ao_ (qo0 2 [(0, .go (owns 3 0 2))] [1, 2, 3, 8, 9, 10, 11, 12, 13] [(75, .agg #[.int .i64 now, .slice p n cap]), (76, .int .i64 k)] (cD (.int .i64 y33.due) Try.call18 (fun w hw => by have := rat_t now p n cap ts k w (hts.kept hw.below) hn (by omega); rw [atR_some hg33] at this; exact this) (qo0 1 [] [1, 2, 3, 8, 9, 10, 11, 12, 13] [(14, .int .i64 y33.due)] (on_ (ds_ (sq_ (sq_ (qa [(2, .no), (6, .yes), (7, .eqs false)] [1, 2, 3, 8, 9, 10, 11, 14] [(86, .bool false)] ([¬ ((y33.due : Int) ≠ (y33.due : Int))] ++ ([(y33.due : Int) > (0 : Int)] ++ ([EqRun Try.prog .neq 4 (.tmp 82) (.tmp 84) (.bool true) (.bool true) false]))) (alA (al1 ((fun h => h rfl))) (alA (al1 ((by omega))) (al1 (bool_ne true true)))) (ds_ (f_ (at_skip (ds_ (sq_ (sq_ (qa [(1, .no)] [1, 2, 3, 8, 9, 10, 11] [(88, .bool false)] ([¬ ((y33.due : Int) = (0 : Int))]) (al1 ((by omega))) (ds_ (f_ (sq_ ?_))))))))))))))))))
     refine at_any (by kernel_rfl) ?_
     refine tk (m := 6) [0, 1, 2, 5] [] [1, 2, 3, 8, 9, 10] [(99, .bool false), (102, .int .i64 k)] ([]) #[true, true, true, false, false, true, false, false, false, false] al0 ?_
     refine any_cutX (V := (List Ob) × (Nat) × (Option Addr)) (fun ⟨Y1333, cq1333, q1333⟩ => SlO 33 Y1333 q1333 (wiL ts k 0 32).length cq1333 (wiL ts k 0 32)) 0 #[true, true, true, true, true, true, true, true, true, true] (fun ⟨Y1333, cq1333, q1333⟩ => [(1, .int .i64 k), (2, .int .i64 at_), (3, .pointer (some ⟨γ1 0, 0, none⟩)), (8, .pointer (some ⟨γ1196 0, 0, none⟩)), (9, .int .i64 0), (106, .bool false)]) (fun ⟨Y1333, cq1333, q1333⟩ => bx (γ1199 0) (#[.int .i64 now, .slice q1198 m1198 c1198]) 24 :: bx (γ1196 0) (#[.int .i64 now, .slice q1195 m1195 c1195]) 24 :: bx (γ11 0) (#[.int .i64 now, .slice q10 n cq10]) 24 :: bx (γ1 0) (#[.int .i64 now, .slice p n cap]) 24 :: (Y1333 ++ (Y1198 ++ (Y1195 ++ (Y10 ++ []))))) ?_ (fun hmx6 => ?_)
     rotate_left
     ·
      refine any_cutX (V := (List Ob) × (Nat) × (Option Addr)) (fun ⟨Y1333, cq1333, q1333⟩ => SlO 33 Y1333 q1333 (wiL ts k 0 32).length cq1333 (wiL ts k 0 32)) 3 #[true, true, true, true, true, true, true, false, false, false] (fun ⟨Y1333, cq1333, q1333⟩ => [(1, .int .i64 k), (2, .int .i64 at_), (3, .pointer (some ⟨γ1 0, 0, none⟩)), (8, .pointer (some ⟨γ1196 0, 0, none⟩)), (9, .int .i64 0), (99, .bool false), (100, .agg #[.int .i64 now, .slice q1198 m1198 c1198]), (103, .agg #[.int .i64 now, .slice q1333 ((wiL ts k 0 32).length) cq1333])]) (fun ⟨Y1333, cq1333, q1333⟩ => bx (γ1199 0) (#[.int .i64 now, .slice q1198 m1198 c1198]) 24 :: bx (γ1196 0) (#[.int .i64 now, .slice q1195 m1195 c1195]) 24 :: bx (γ11 0) (#[.int .i64 now, .slice q10 n cq10]) 24 :: bx (γ1 0) (#[.int .i64 now, .slice p n cap]) 24 :: (Y1333 ++ (Y1198 ++ (Y1195 ++ (Y10 ++ []))))) ?_ (fun hmx5 => ?_)
      ·
       rintro ⟨Y1333, cq1333, q1333⟩ hO1333
       refine a1 7 rfl ?_
       refine cD (.bool true) Try.call16 (fun w hw => by have e_ : sameW now ((delK Tim.id ts k)) now ((wiL ts k 0 32)) = true := (by rw [with_del (wheel_iff.1 q13) hg33, sameW_refl]); have := rsame_t now q1198 m1198 c1198 ((delK Tim.id ts k)) now q1333 ((wiL ts k 0 32).length) cq1333 ((wiL ts k 0 32)) w (hO1198.atN (A := (_ :: _ :: _ :: _ :: Y1333)) hw) hO1198.len (by omega) (hO1333.atN (A := [_, _, _, _]) hw) hO1333.len (by omega); rw [e_] at this; exact this) ?_
       refine od_ ?_
       refine tk (m := 0) [8, 9] [] [1, 2, 3, 8, 9] [(106, .bool false)] ([]) #[true, true, true, true, true, true, true, true, true, true] al0 ?_
       exact wk (hmx6 (Y1333, cq1333, q1333) hO1333) [1, 2, 3, 8, 9, 106] [[_], [_], [_], [_], _, _, _, _] [0, 1, 2, 3, 4, 5, 6, 7] rfl rfl
      refine any_cutX (V := (List Ob) × (Nat) × (Option Addr)) (fun ⟨Y1333, cq1333, q1333⟩ => SlO 33 Y1333 q1333 (wiL ts k 0 32).length cq1333 (wiL ts k 0 32)) 4 #[true, true, true, false, true, true, true, false, false, false] (fun ⟨Y1333, cq1333, q1333⟩ => [(1, .int .i64 k), (2, .int .i64 at_), (3, .pointer (some ⟨γ1 0, 0, none⟩)), (8, .pointer (some ⟨γ1196 0, 0, none⟩)), (9, .int .i64 0), (10, .pointer (some ⟨γ1199 0, 0, none⟩)), (99, .bool false), (103, .agg #[.int .i64 now, .slice q1333 ((wiL ts k 0 32).length) cq1333])]) (fun ⟨Y1333, cq1333, q1333⟩ => bx (γ1199 0) (#[.int .i64 now, .slice q1198 m1198 c1198]) 24 :: bx (γ1196 0) (#[.int .i64 now, .slice q1195 m1195 c1195]) 24 :: bx (γ11 0) (#[.int .i64 now, .slice q10 n cq10]) 24 :: bx (γ1 0) (#[.int .i64 now, .slice p n cap]) 24 :: (Y1333 ++ (Y1198 ++ (Y1195 ++ (Y10 ++ []))))) ?_ (fun hmx4 => ?_)
      ·
       rintro ⟨Y1333, cq1333, q1333⟩ hO1333
       refine a1 3 rfl ?_
       refine qo0 1 [(3, .go (owns 0 0 2))] [1, 2, 3, 8, 9, 99, 103] [(100, .agg #[.int .i64 now, .slice q1198 m1198 c1198])] ?_
       refine od_ ?_
       exact wk (hmx5 (Y1333, cq1333, q1333) hO1333) [1, 2, 3, 8, 9, 99, 100, 103] [[_], [_], [_], [_], _, _, _, _] [0, 1, 2, 3, 4, 5, 6, 7] rfl rfl
      refine any_cutX (V := Unit) (fun _ => True) 4 #[true, true, true, true, true, true, false, false, false, false] (fun _ => [(1, .int .i64 k), (2, .int .i64 at_), (3, .pointer (some ⟨γ1 0, 0, none⟩)), (8, .pointer (some ⟨γ1196 0, 0, none⟩)), (9, .int .i64 0), (99, .bool false), (100, .agg #[.int .i64 now, .slice q1198 m1198 c1198]), (101, .agg #[.int .i64 now, .slice p n cap]), (102, .int .i64 k)]) (fun _ => bx (γ1199 0) (#[.int .i64 now, .slice q1198 m1198 c1198]) 24 :: bx (γ1196 0) (#[.int .i64 now, .slice q1195 m1195 c1195]) 24 :: bx (γ11 0) (#[.int .i64 now, .slice q10 n cq10]) 24 :: bx (γ1 0) (#[.int .i64 now, .slice p n cap]) 24 :: (Y1198 ++ (Y1195 ++ (Y10 ++ [])))) ?_ (fun hmx3 => ?_)
      ·
       rintro _ _
       refine a1 6 rfl ?_
       refine cP (fun v L' => ∃ q_ c_ Y_, v = .agg #[.int .i64 now, .slice q_ (wiL ts k 0 32).length c_] ∧ L' = List.take 4 (bx (γ1199 0) (#[.int .i64 now, .slice q1198 m1198 c1198]) 24 :: bx (γ1196 0) (#[.int .i64 now, .slice q1195 m1195 c1195]) 24 :: bx (γ11 0) (#[.int .i64 now, .slice q10 n cq10]) 24 :: bx (γ1 0) (#[.int .i64 now, .slice p n cap]) 24 :: (Y1198 ++ (Y1195 ++ (Y10 ++ [])))) ++ (Y_ ++ List.drop 4 (bx (γ1199 0) (#[.int .i64 now, .slice q1198 m1198 c1198]) 24 :: bx (γ1196 0) (#[.int .i64 now, .slice q1195 m1195 c1195]) 24 :: bx (γ11 0) (#[.int .i64 now, .slice q10 n cq10]) 24 :: bx (γ1 0) (#[.int .i64 now, .slice p n cap]) 24 :: (Y1198 ++ (Y1195 ++ (Y10 ++ []))))) ∧ SlO 33 Y_ q_ (wiL ts k 0 32).length c_ (wiL ts k 0 32)) Try.call19 (fun w hw => (with_t now p n cap ts k 0 w (hts.kept hw.below) hn (by omega)).mono fun e w' ⟨q_, c_, Y_, he, hO, hb, hY⟩ => ⟨_, _, he, ⟨q_, c_, Y_, rfl, rfl, hO⟩, hw.join hb hY 4⟩) ?_
       rintro v1333 L1333 ⟨q1333, cq1333, Y1333, rfl, rfl, hO1333⟩
       refine od_ ?_
       exact wk (hmx5 (Y1333, cq1333, q1333) hO1333) [1, 2, 3, 8, 9, 99, 100, 103] [[_], [_], [_], [_], _, _, _, _] [0, 1, 2, 3, 4, 5, 6, 7] rfl rfl
      refine any_cutX (V := Unit) (fun _ => True) 5 #[true, true, true, false, true, true, false, false, false, false] (fun _ => [(1, .int .i64 k), (2, .int .i64 at_), (3, .pointer (some ⟨γ1 0, 0, none⟩)), (8, .pointer (some ⟨γ1196 0, 0, none⟩)), (9, .int .i64 0), (10, .pointer (some ⟨γ1199 0, 0, none⟩)), (99, .bool false), (101, .agg #[.int .i64 now, .slice p n cap]), (102, .int .i64 k)]) (fun _ => bx (γ1199 0) (#[.int .i64 now, .slice q1198 m1198 c1198]) 24 :: bx (γ1196 0) (#[.int .i64 now, .slice q1195 m1195 c1195]) 24 :: bx (γ11 0) (#[.int .i64 now, .slice q10 n cq10]) 24 :: bx (γ1 0) (#[.int .i64 now, .slice p n cap]) 24 :: (Y1198 ++ (Y1195 ++ (Y10 ++ [])))) ?_ (fun hmx2 => ?_)
      ·
       rintro _ _
       refine any_fork [3, 6] (by kernel_rfl) (by simp) (each_cons _ rfl ?_ (each_cons _ rfl ?_ (each_nil)))
       ·
        refine qo0 1 [(3, .go (owns 0 0 2))] [1, 2, 3, 8, 9, 99, 101, 102] [(100, .agg #[.int .i64 now, .slice q1198 m1198 c1198])] ?_
        refine od_ ?_
        exact wk (hmx3 () trivial) [1, 2, 3, 8, 9, 99, 100, 101, 102] [[_], [_], [_], [_], _, _, _] [0, 1, 2, 3, 4, 5, 6] rfl rfl
       ·
        refine cP (fun v L' => ∃ q_ c_ Y_, v = .agg #[.int .i64 now, .slice q_ (wiL ts k 0 32).length c_] ∧ L' = List.take 4 (bx (γ1199 0) (#[.int .i64 now, .slice q1198 m1198 c1198]) 24 :: bx (γ1196 0) (#[.int .i64 now, .slice q1195 m1195 c1195]) 24 :: bx (γ11 0) (#[.int .i64 now, .slice q10 n cq10]) 24 :: bx (γ1 0) (#[.int .i64 now, .slice p n cap]) 24 :: (Y1198 ++ (Y1195 ++ (Y10 ++ [])))) ++ (Y_ ++ List.drop 4 (bx (γ1199 0) (#[.int .i64 now, .slice q1198 m1198 c1198]) 24 :: bx (γ1196 0) (#[.int .i64 now, .slice q1195 m1195 c1195]) 24 :: bx (γ11 0) (#[.int .i64 now, .slice q10 n cq10]) 24 :: bx (γ1 0) (#[.int .i64 now, .slice p n cap]) 24 :: (Y1198 ++ (Y1195 ++ (Y10 ++ []))))) ∧ SlO 33 Y_ q_ (wiL ts k 0 32).length c_ (wiL ts k 0 32)) Try.call19 (fun w hw => (with_t now p n cap ts k 0 w (hts.kept hw.below) hn (by omega)).mono fun e w' ⟨q_, c_, Y_, he, hO, hb, hY⟩ => ⟨_, _, he, ⟨q_, c_, Y_, rfl, rfl, hO⟩, hw.join hb hY 4⟩) ?_
        rintro v1333 L1333 ⟨q1333, cq1333, Y1333, rfl, rfl, hO1333⟩
        refine od_ ?_
        exact wk (hmx4 (Y1333, cq1333, q1333) hO1333) [1, 2, 3, 8, 9, 10, 99, 103] [[_], [_], [_], [_], _, _, _, _] [0, 1, 2, 3, 4, 5, 6, 7] rfl rfl
      refine any_cutX (V := Unit) (fun _ => True) 5 #[true, true, true, true, false, true, false, false, false, false] (fun _ => [(1, .int .i64 k), (2, .int .i64 at_), (3, .pointer (some ⟨γ1 0, 0, none⟩)), (8, .pointer (some ⟨γ1196 0, 0, none⟩)), (9, .int .i64 0), (99, .bool false), (100, .agg #[.int .i64 now, .slice q1198 m1198 c1198]), (102, .int .i64 k)]) (fun _ => bx (γ1199 0) (#[.int .i64 now, .slice q1198 m1198 c1198]) 24 :: bx (γ1196 0) (#[.int .i64 now, .slice q1195 m1195 c1195]) 24 :: bx (γ11 0) (#[.int .i64 now, .slice q10 n cq10]) 24 :: bx (γ1 0) (#[.int .i64 now, .slice p n cap]) 24 :: (Y1198 ++ (Y1195 ++ (Y10 ++ [])))) ?_ (fun hmx1 => ?_)
      ·
       rintro _ _
       refine a1 4 rfl ?_
       refine qo0 1 [(4, .go (owns 3 0 2))] [1, 2, 3, 8, 9, 99, 100, 102] [(101, .agg #[.int .i64 now, .slice p n cap])] ?_
       refine od_ ?_
       exact wk (hmx3 () trivial) [1, 2, 3, 8, 9, 99, 100, 101, 102] [[_], [_], [_], [_], _, _, _] [0, 1, 2, 3, 4, 5, 6] rfl rfl
      refine any_fork [3, 4] (by kernel_rfl) (by simp) (each_cons _ rfl ?_ (each_cons _ rfl ?_ (each_nil)))
      ·
       refine qo0 1 [(3, .go (owns 0 0 2))] [1, 2, 3, 8, 9, 99, 102] [(100, .agg #[.int .i64 now, .slice q1198 m1198 c1198])] ?_
       refine od_ ?_
       exact wk (hmx1 () trivial) [1, 2, 3, 8, 9, 99, 100, 102] [[_], [_], [_], [_], _, _, _] [0, 1, 2, 3, 4, 5, 6] rfl rfl
      ·
       refine qo0 1 [(4, .go (owns 3 0 2))] [1, 2, 3, 8, 9, 10, 99, 102] [(101, .agg #[.int .i64 now, .slice p n cap])] ?_
       refine od_ ?_
       exact wk (hmx2 () trivial) [1, 2, 3, 8, 9, 10, 99, 101, 102] [[_], [_], [_], [_], _, _, _] [0, 1, 2, 3, 4, 5, 6] rfl rfl
     rintro ⟨Y1333, cq1333, q1333⟩ hO1333
     refine any_nil (by kernel_rfl) ?_
     refine ds_ (f_ (at_skip (ds_ (sq_ (sq_ (ao_ (qo 14 [(1, .no), (4, .no), (9, .go (owns 3 0 1)), (10, .no)] [1, 2, 3, 8, 9] [(119, .bool false), (120, .int .i64 at_)] ([¬ ((k : Int) < (0 : Int))] ++ ([¬ ((k : Int) > (31 : Int))] ++ ([¬ ((at_ : Int) ≤ (now : Int))]))) (alA (al1 ((by omega))) (alA (al1 ((by omega))) (al1 ((by omega))))) (qo 2 [(14, .no)] [1, 2, 3, 8, 9] [(122, .bool false)] ([¬ ((at_ : Int) > (1125899906842624 : Int))]) (al1 ((by omega))) (on_ (ds_ (f_ (at_skip (ds_ (sq_ ?_))))))))))))))
     refine at_any (by kernel_rfl) ?_
     refine tk (m := 6) [0, 1, 2, 5, 6] [] [3, 8] [(133, .bool true), (136, .int .i64 k), (137, .int .i64 at_)] ([]) #[true, true, true, false, false, true, true, false, false, false, false] al0 ?_
     refine any_cutX (V := (List Ob) × (Nat) × (Option Addr)) (fun ⟨Y1599, cq1599, q1599⟩ => SlO 33 Y1599 q1599 (wiL ts k at_ 32).length cq1599 (wiL ts k at_ 32)) 0 #[true, true, true, true, true, true, true, true, true, true, true] (fun ⟨Y1599, cq1599, q1599⟩ => [(6, .bool true)]) (fun ⟨Y1599, cq1599, q1599⟩ => bx (γ1199 0) (#[.int .i64 now, .slice q1198 m1198 c1198]) 24 :: bx (γ1196 0) (#[.int .i64 now, .slice q1195 m1195 c1195]) 24 :: bx (γ11 0) (#[.int .i64 now, .slice q10 n cq10]) 24 :: bx (γ1 0) (#[.int .i64 now, .slice p n cap]) 24 :: (Y1599 ++ (Y1333 ++ (Y1198 ++ (Y1195 ++ (Y10 ++ [])))))) ?_ (fun hmx6 => ?_)
     rotate_left
     ·
      refine any_cutX (V := (List Ob) × (Nat) × (Option Addr)) (fun ⟨Y1599, cq1599, q1599⟩ => SlO 33 Y1599 q1599 (wiL ts k at_ 32).length cq1599 (wiL ts k at_ 32)) 3 #[true, true, true, true, true, true, true, true, false, false, false] (fun ⟨Y1599, cq1599, q1599⟩ => [(133, .bool true), (134, .agg #[.int .i64 now, .slice q1195 m1195 c1195]), (138, .agg #[.int .i64 now, .slice q1599 ((wiL ts k at_ 32).length) cq1599])]) (fun ⟨Y1599, cq1599, q1599⟩ => bx (γ1199 0) (#[.int .i64 now, .slice q1198 m1198 c1198]) 24 :: bx (γ1196 0) (#[.int .i64 now, .slice q1195 m1195 c1195]) 24 :: bx (γ11 0) (#[.int .i64 now, .slice q10 n cq10]) 24 :: bx (γ1 0) (#[.int .i64 now, .slice p n cap]) 24 :: (Y1599 ++ (Y1333 ++ (Y1198 ++ (Y1195 ++ (Y10 ++ [])))))) ?_ (fun hmx5 => ?_)
      ·
       rintro ⟨Y1599, cq1599, q1599⟩ hO1599
       refine a1 8 rfl ?_
       refine cD (.bool true) Try.call16 (fun w hw => by have e_ : sameW now ((putK Tim.id ts ⟨k, at_⟩)) now ((wiL ts k at_ 32)) = true := (by rw [with_put (wheel_iff.1 q13) ⟨hav.1, hav.2.1⟩ (by have := (wheel_iff.1 q13).n0; omega) hg33, sameW_refl]); have := rsame_t now q1195 m1195 c1195 ((putK Tim.id ts ⟨k, at_⟩)) now q1599 ((wiL ts k at_ 32).length) cq1599 ((wiL ts k at_ 32)) w (hO1195.at ((hw.tailN 4).sub (((List.sublist_append_right Y1198 _).trans (List.sublist_append_right Y1333 _)).trans (List.sublist_append_right Y1599 _)))) hO1195.len (by omega) (hO1599.atN (A := [_, _, _, _]) hw) hO1599.len (by omega); rw [e_] at this; exact this) ?_
       refine od_ ?_
       refine tk (m := 0) [9, 10] [] [] [(6, .bool true)] ([]) #[true, true, true, true, true, true, true, true, true, true, true] al0 ?_
       exact wk (hmx6 (Y1599, cq1599, q1599) hO1599) [6] [[_], [_], [_], [_], _, _, _, _, _] [0, 1, 2, 3, 4, 5, 6, 7, 8] rfl rfl
      refine any_cutX (V := (List Ob) × (Nat) × (Option Addr)) (fun ⟨Y1599, cq1599, q1599⟩ => SlO 33 Y1599 q1599 (wiL ts k at_ 32).length cq1599 (wiL ts k at_ 32)) 4 #[true, true, true, false, true, true, true, true, false, false, false] (fun ⟨Y1599, cq1599, q1599⟩ => [(8, .pointer (some ⟨γ1196 0, 0, none⟩)), (133, .bool true), (138, .agg #[.int .i64 now, .slice q1599 ((wiL ts k at_ 32).length) cq1599])]) (fun ⟨Y1599, cq1599, q1599⟩ => bx (γ1199 0) (#[.int .i64 now, .slice q1198 m1198 c1198]) 24 :: bx (γ1196 0) (#[.int .i64 now, .slice q1195 m1195 c1195]) 24 :: bx (γ11 0) (#[.int .i64 now, .slice q10 n cq10]) 24 :: bx (γ1 0) (#[.int .i64 now, .slice p n cap]) 24 :: (Y1599 ++ (Y1333 ++ (Y1198 ++ (Y1195 ++ (Y10 ++ [])))))) ?_ (fun hmx4 => ?_)
      ·
       rintro ⟨Y1599, cq1599, q1599⟩ hO1599
       refine a1 3 rfl ?_
       refine qo0 1 [(3, .go (owns 1 0 2))] [133, 138] [(134, .agg #[.int .i64 now, .slice q1195 m1195 c1195])] ?_
       refine od_ ?_
       exact wk (hmx5 (Y1599, cq1599, q1599) hO1599) [133, 134, 138] [[_], [_], [_], [_], _, _, _, _, _] [0, 1, 2, 3, 4, 5, 6, 7, 8] rfl rfl
      refine any_cutX (V := Unit) (fun _ => True) 4 #[true, true, true, true, true, true, true, false, false, false, false] (fun _ => [(133, .bool true), (134, .agg #[.int .i64 now, .slice q1195 m1195 c1195]), (135, .agg #[.int .i64 now, .slice p n cap]), (136, .int .i64 k), (137, .int .i64 at_)]) (fun _ => bx (γ1199 0) (#[.int .i64 now, .slice q1198 m1198 c1198]) 24 :: bx (γ1196 0) (#[.int .i64 now, .slice q1195 m1195 c1195]) 24 :: bx (γ11 0) (#[.int .i64 now, .slice q10 n cq10]) 24 :: bx (γ1 0) (#[.int .i64 now, .slice p n cap]) 24 :: (Y1333 ++ (Y1198 ++ (Y1195 ++ (Y10 ++ []))))) ?_ (fun hmx3 => ?_)
      ·
       rintro _ _
       refine a1 7 rfl ?_
       refine cP (fun v L' => ∃ q_ c_ Y_, v = .agg #[.int .i64 now, .slice q_ (wiL ts k at_ 32).length c_] ∧ L' = List.take 4 (bx (γ1199 0) (#[.int .i64 now, .slice q1198 m1198 c1198]) 24 :: bx (γ1196 0) (#[.int .i64 now, .slice q1195 m1195 c1195]) 24 :: bx (γ11 0) (#[.int .i64 now, .slice q10 n cq10]) 24 :: bx (γ1 0) (#[.int .i64 now, .slice p n cap]) 24 :: (Y1333 ++ (Y1198 ++ (Y1195 ++ (Y10 ++ []))))) ++ (Y_ ++ List.drop 4 (bx (γ1199 0) (#[.int .i64 now, .slice q1198 m1198 c1198]) 24 :: bx (γ1196 0) (#[.int .i64 now, .slice q1195 m1195 c1195]) 24 :: bx (γ11 0) (#[.int .i64 now, .slice q10 n cq10]) 24 :: bx (γ1 0) (#[.int .i64 now, .slice p n cap]) 24 :: (Y1333 ++ (Y1198 ++ (Y1195 ++ (Y10 ++ [])))))) ∧ SlO 33 Y_ q_ (wiL ts k at_ 32).length c_ (wiL ts k at_ 32)) Try.call19 (fun w hw => (with_t now p n cap ts k at_ w (hts.kept hw.below) hn (by omega)).mono fun e w' ⟨q_, c_, Y_, he, hO, hb, hY⟩ => ⟨_, _, he, ⟨q_, c_, Y_, rfl, rfl, hO⟩, hw.join hb hY 4⟩) ?_
       rintro v1599 L1599 ⟨q1599, cq1599, Y1599, rfl, rfl, hO1599⟩
       refine od_ ?_
       exact wk (hmx5 (Y1599, cq1599, q1599) hO1599) [133, 134, 138] [[_], [_], [_], [_], _, _, _, _, _] [0, 1, 2, 3, 4, 5, 6, 7, 8] rfl rfl
      refine any_cutX (V := Unit) (fun _ => True) 5 #[true, true, true, false, true, true, true, false, false, false, false] (fun _ => [(8, .pointer (some ⟨γ1196 0, 0, none⟩)), (133, .bool true), (135, .agg #[.int .i64 now, .slice p n cap]), (136, .int .i64 k), (137, .int .i64 at_)]) (fun _ => bx (γ1199 0) (#[.int .i64 now, .slice q1198 m1198 c1198]) 24 :: bx (γ1196 0) (#[.int .i64 now, .slice q1195 m1195 c1195]) 24 :: bx (γ11 0) (#[.int .i64 now, .slice q10 n cq10]) 24 :: bx (γ1 0) (#[.int .i64 now, .slice p n cap]) 24 :: (Y1333 ++ (Y1198 ++ (Y1195 ++ (Y10 ++ []))))) ?_ (fun hmx2 => ?_)
      ·
       rintro _ _
       refine any_fork [3, 7] (by kernel_rfl) (by simp) (each_cons _ rfl ?_ (each_cons _ rfl ?_ (each_nil)))
       ·
        refine qo0 1 [(3, .go (owns 1 0 2))] [133, 135, 136, 137] [(134, .agg #[.int .i64 now, .slice q1195 m1195 c1195])] ?_
        refine od_ ?_
        exact wk (hmx3 () trivial) [133, 134, 135, 136, 137] [[_], [_], [_], [_], _, _, _, _] [0, 1, 2, 3, 4, 5, 6, 7] rfl rfl
       ·
        refine cP (fun v L' => ∃ q_ c_ Y_, v = .agg #[.int .i64 now, .slice q_ (wiL ts k at_ 32).length c_] ∧ L' = List.take 4 (bx (γ1199 0) (#[.int .i64 now, .slice q1198 m1198 c1198]) 24 :: bx (γ1196 0) (#[.int .i64 now, .slice q1195 m1195 c1195]) 24 :: bx (γ11 0) (#[.int .i64 now, .slice q10 n cq10]) 24 :: bx (γ1 0) (#[.int .i64 now, .slice p n cap]) 24 :: (Y1333 ++ (Y1198 ++ (Y1195 ++ (Y10 ++ []))))) ++ (Y_ ++ List.drop 4 (bx (γ1199 0) (#[.int .i64 now, .slice q1198 m1198 c1198]) 24 :: bx (γ1196 0) (#[.int .i64 now, .slice q1195 m1195 c1195]) 24 :: bx (γ11 0) (#[.int .i64 now, .slice q10 n cq10]) 24 :: bx (γ1 0) (#[.int .i64 now, .slice p n cap]) 24 :: (Y1333 ++ (Y1198 ++ (Y1195 ++ (Y10 ++ [])))))) ∧ SlO 33 Y_ q_ (wiL ts k at_ 32).length c_ (wiL ts k at_ 32)) Try.call19 (fun w hw => (with_t now p n cap ts k at_ w (hts.kept hw.below) hn (by omega)).mono fun e w' ⟨q_, c_, Y_, he, hO, hb, hY⟩ => ⟨_, _, he, ⟨q_, c_, Y_, rfl, rfl, hO⟩, hw.join hb hY 4⟩) ?_
        rintro v1599 L1599 ⟨q1599, cq1599, Y1599, rfl, rfl, hO1599⟩
        refine od_ ?_
        exact wk (hmx4 (Y1599, cq1599, q1599) hO1599) [8, 133, 138] [[_], [_], [_], [_], _, _, _, _, _] [0, 1, 2, 3, 4, 5, 6, 7, 8] rfl rfl
      refine any_cutX (V := Unit) (fun _ => True) 5 #[true, true, true, true, false, true, true, false, false, false, false] (fun _ => [(3, .pointer (some ⟨γ1 0, 0, none⟩)), (133, .bool true), (134, .agg #[.int .i64 now, .slice q1195 m1195 c1195]), (136, .int .i64 k), (137, .int .i64 at_)]) (fun _ => bx (γ1199 0) (#[.int .i64 now, .slice q1198 m1198 c1198]) 24 :: bx (γ1196 0) (#[.int .i64 now, .slice q1195 m1195 c1195]) 24 :: bx (γ11 0) (#[.int .i64 now, .slice q10 n cq10]) 24 :: bx (γ1 0) (#[.int .i64 now, .slice p n cap]) 24 :: (Y1333 ++ (Y1198 ++ (Y1195 ++ (Y10 ++ []))))) ?_ (fun hmx1 => ?_)
      ·
       rintro _ _
       refine a1 4 rfl ?_
       refine qo0 1 [(4, .go (owns 3 0 2))] [133, 134, 136, 137] [(135, .agg #[.int .i64 now, .slice p n cap])] ?_
       refine od_ ?_
       exact wk (hmx3 () trivial) [133, 134, 135, 136, 137] [[_], [_], [_], [_], _, _, _, _] [0, 1, 2, 3, 4, 5, 6, 7] rfl rfl
      refine any_fork [3, 4] (by kernel_rfl) (by simp) (each_cons _ rfl ?_ (each_cons _ rfl ?_ (each_nil)))
      ·
       refine qo0 1 [(3, .go (owns 1 0 2))] [3, 133, 136, 137] [(134, .agg #[.int .i64 now, .slice q1195 m1195 c1195])] ?_
       refine od_ ?_
       exact wk (hmx1 () trivial) [3, 133, 134, 136, 137] [[_], [_], [_], [_], _, _, _, _] [0, 1, 2, 3, 4, 5, 6, 7] rfl rfl
      ·
       refine qo0 1 [(4, .go (owns 3 0 2))] [8, 133, 136, 137] [(135, .agg #[.int .i64 now, .slice p n cap])] ?_
       refine od_ ?_
       exact wk (hmx2 () trivial) [8, 133, 135, 136, 137] [[_], [_], [_], [_], _, _, _, _] [0, 1, 2, 3, 4, 5, 6, 7] rfl rfl
     rintro ⟨Y1599, cq1599, q1599⟩ hO1599
     refine any_nil (by kernel_rfl) ?_
     refine ds_ (rt ([]) (.bool true) ?_)
     exact fun w' hw => ⟨rfl, hw.below⟩
end Go.Proofs.Ytjfebdhflkndmaa

/-! The walker: what a row's inputs are: slices and structs, opened into lists. -/
namespace Go.Proofs.Ytjfebdhflkndmaa
open Go Go.RowKit

section
variable {H : Type} {enc : TypeId × Value → H} {P : Program} {w : World} {base : Nat} {spare : Nat → Bool} {held : Bool}
theorem spot_none {a : Addr} (h : a.spot = none) : a = ⟨a.block, a.off, none⟩ := by
  cases a
  simp at h
  simp [h]
theorem trod_sv {α : Type} [Enc α] {t e : TypeId} {fuel : Nat} {cs : List Value} {x : DataW H × List MemPlace} {Good : α → Prop} (ht : P.underlying t = some (.slice e)) (hc : P.cellsOf e = Enc.k α)
    (hopen : ∀ (fuel : Nat) (cs : List Value) (x : DataW H × List MemPlace), DataW.trod enc P w base spare held fuel e cs = some x → ∃ a : α, cs = Enc.enc a ∧ Good a) (h : DataW.trod enc P w base spare held fuel t cs = some x) :
    ∃ (p : Option Addr) (n cap : Nat) (l : List α), cs = [.slice p n cap] ∧ Sv w p l ∧ n = l.length ∧ n ≤ cap ∧ cap ≤ maxLen ∧ ∀ y ∈ l, Good y := by
  rcases Deep.open_slice ht h with ⟨hcs, _⟩ | ⟨a, len, cap, m, n', D, Pl, hcs, _, hle, hmx, hm, _, hi⟩
  · exact ⟨none, 0, 0, [], hcs, Sv.nil, rfl, Nat.le_refl _, Nat.zero_le _, fun y hy => by cases hy⟩
  · have key : ∀ i, i < len → ∃ y : α, w.cells? base (a.add (i * Enc.k α)) (Enc.k α) = some (Enc.enc y) ∧ Good y := fun i hin => by
      have him : i < m := by rw [hm]; split <;> omega
      obtain ⟨cs', h1, h2⟩ := hi i him
      obtain ⟨y, rfl, hy⟩ := hopen _ _ _ h2
      rw [hc] at h1
      exact ⟨y, h1, hy⟩
    rcases Nat.eq_zero_or_pos len with h0 | h0
    · subst h0
      exact ⟨some a, 0, cap, [], hcs, Sv.nil, rfl, hle, hmx, fun y hy => by cases hy⟩
    · obtain ⟨y0, hy0, _⟩ := key 0 h0
      haveI : Inhabited α := ⟨y0⟩
      obtain ⟨f, hf⟩ := Deep.choose_lt key
      obtain ⟨_, _, hcell⟩ := World.cells?_some hy0
      have h00 := hcell 0 Enc.pos
      have hlen0 : 0 < (Enc.enc y0).length := by rw [Enc.len]; exact Enc.pos
      rw [List.getElem?_eq_getElem hlen0, Nat.zero_mul, show (a.add 0).add 0 = a by simp [Addr.add]] at h00
      have hsp := spot_none (World.cell?_spot h00)
      refine ⟨some a, len, cap, (List.range len).map f, hcs, ⟨fun _ => ⟨a.block, a.off, by rw [← hsp]⟩, fun b o hbo i hil => ?_⟩, by simp, hle, hmx, fun y hy => ?_⟩
      · have hil' : i < len := by simpa using hil
        obtain ⟨_, _, hc2⟩ := World.cells?_some (hf i hil').1
        have ha : a = ⟨b, o, none⟩ := by simpa using hbo
        subst ha
        intro j v hj
        have hjk : j < Enc.k α := by rw [← Enc.len (f i)]; have := (List.getElem?_eq_some_iff.1 hj).1; simpa using this
        have h3 := hc2 j hjk
        rw [Deep.add_add] at h3
        have h4 : (Enc.enc (f i))[j]? = some v := by simpa using hj
        rw [h4] at h3
        have h5 : (⟨b, o, none⟩ : Addr).add (i * Enc.k α + j) = ⟨b, o + i * Enc.k α + j, none⟩ := by
          unfold Addr.add; split <;> simp_all <;> omega
        rw [h5] at h3
        exact h3
      · obtain ⟨i, hir, rfl⟩ := List.mem_map.1 hy
        exact (hf i (List.mem_range.1 hir)).2
theorem list2' {α : Type} {cs : List α} (h : cs.length = 2) : ∃ c0 c1, cs = [c0, c1] := by
  match cs, h with
  | [a, b], _ => exact ⟨a, b, rfl⟩
end
end Go.Proofs.Ytjfebdhflkndmaa

/-! Chapter 15: what the rows' inputs are. -/
namespace Go.Proofs.Ytjfebdhflkndmaa
open Go Go.RowKit Go.ChangeShapes Go.WideShapes

section
variable {H : Type} {enc : TypeId × Value → H} {w : World} {base : Nat} {spare : Nat → Bool} {held : Bool}
theorem cIntT : Try.prog.cellsOf 3 = 1 := by kernel_rfl
theorem cI64T : Try.prog.cellsOf 2 = 1 := by kernel_rfl
theorem cWheel : Try.prog.cellsOf 24 = 2 := by kernel_rfl
theorem cTims : Try.prog.cellsOf 22 = 1 := by kernel_rfl
theorem timer_open_cells : Try.prog.cellsOf 33 = 2 := by kernel_rfl
theorem timer_open_list {α : Type} {cs : List α} (h : cs.length = 2) : ∃ c0 c1, cs = [c0, c1] := by
  match cs, h with
  | [c0, c1], _ => exact ⟨c0, c1, rfl⟩
theorem timer_open {fuel : Nat} {cs : List Value} {x : DataW H × List MemPlace} (h : DataW.trod enc Try.prog w base spare held fuel 33 cs = some x) : ∃ a : Tim, cs = Enc.enc a ∧ True := by
  obtain ⟨xs, n, _, rfl, hl, hlen, hf⟩ := DataW.trod_struct Try.underlying33 h
  rw [timer_open_cells] at hl
  obtain ⟨c0, c1, rfl⟩ := timer_open_list hl
  obtain ⟨y0, y1, rfl⟩ := timer_open_list hlen
  have h0 : DataW.trod enc Try.prog w base spare held n 3 (([c0, c1].drop 0).take (Try.prog.cellsOf 3)) = some y0 := hf 0 _ rfl
  have h1 : DataW.trod enc Try.prog w base spare held n 2 (([c0, c1].drop 1).take (Try.prog.cellsOf 2)) = some y1 := hf 1 _ rfl
  clear hf hl hlen h
  rw [cIntT] at h0
  rw [cI64T] at h1
  simp only [List.drop_zero, List.take_succ_cons, List.take_zero, List.drop_succ_cons] at h0 h1
  obtain ⟨v0, e0, _, _⟩ := DataW.trod_int Try.underlying3 h0
  obtain ⟨v1, e1, _, _⟩ := DataW.trod_int Try.underlying2 h1
  simp only [List.cons.injEq, and_true] at e0 e1
  subst e0; subst e1
  exact ⟨⟨v0, v1⟩, rfl, trivial⟩
set_option maxRecDepth 100000 in
theorem wheel_open {v : Value} {d : DataW H} {pl : List MemPlace} (hv : Value.okWide Try.prog w .any base 24 v) (h : DataW.Trod enc Try.prog w 0 spare held 24 v d pl) :
    ∃ (now : Int) (p : Option Addr) (n cap : Nat) (ts : List Tim), v = .agg #[.int .i64 now, .slice p n cap] ∧ Sv w p ts ∧ n = ts.length := by
  obtain ⟨cs, rfl, hsz⟩ := okWide_struct Try.underlying24 hv
  obtain ⟨fuel, hf⟩ := h
  obtain ⟨xs, n, _, _, hl, hlen, hf⟩ := DataW.trod_struct Try.underlying24 hf
  obtain ⟨y0, y1, rfl⟩ := list2' hlen
  have h0 : DataW.trod enc Try.prog w 0 spare held n 2 ((((Value.agg cs).cells.toList).drop 0).take (Try.prog.cellsOf 2)) = some y0 := hf 0 _ rfl
  have h1 : DataW.trod enc Try.prog w 0 spare held n 22 ((((Value.agg cs).cells.toList).drop 1).take (Try.prog.cellsOf 22)) = some y1 := hf 1 _ rfl
  rw [cWheel] at hl
  obtain ⟨c0, c1, hc0⟩ := list2' hl
  rw [hc0, cI64T] at h0
  rw [hc0, cTims] at h1
  simp only [List.drop_zero, List.take_succ_cons, List.take_zero] at h0
  obtain ⟨a, ea, _, _⟩ := DataW.trod_int Try.underlying2 h0
  obtain ⟨q, m, capv, l2, he2, hs2, hm, hle2, hmx2, hw⟩ := trod_sv (Good := fun _ => True) Try.underlying22 timer_open_cells (fun _ _ _ h => timer_open h) h1
  simp only [List.drop_zero, List.take_succ_cons, List.take_zero, List.drop_succ_cons, List.cons.injEq, and_true] at ea he2
  subst ea; subst he2
  refine ⟨a, q, m, capv, l2, ?_, hs2, hm⟩
  congr 1
  exact Array.toList_inj.1 (by simpa [Value.cells] using hc0)
end
end Go.Proofs.Ytjfebdhflkndmaa
