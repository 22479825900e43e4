/- Texts of this proof, one behind the other. -/
import Derived.Test.YtjfebdhflkndmaaZb
import Derived.Test.YtjfebdhflkndmaaZa
import Derived.ProofKit
import Derived.Carry
import Derived.Deep.Slices
import Derived.Lib.SmallJoins
import Derived.Test.YtjfebdhflkndmaaProg
/-! The statement WheelTells, walked. -/
namespace Go.Proofs.Ytjfebdhflkndmaa
open Go Go.RowKit

set_option maxRecDepth 100000 in
theorem tells_law (now : Int) (p : Option Addr) (n cap : Nat) (ts : List Tim) (now2 : Int) (p2 : Option Addr) (n2 cap2 : Nat) (ts2 : List Tim) (x1 x2 : Int) (w : World)
 (hts : Sv w p ts) (hn : n = ts.length)
 (hts2 : Sv w p2 ts2) (hn2 : n2 = ts2.length)
 : Calls Try.prog 5 #[.agg #[.int .i64 now, .slice p n cap], .agg #[.int .i64 now2, .slice p2 n2 cap2], .agg #[.int .i64 x1, .int .i64 x2]] w fun e w' => e = .returned (.bool true) ∧ Below w.heap.size w w' := by
 refine enter (Hs.start w) Try.func5 rfl Try.ntmps5 rfl (sq_ (ma0 [] [] (fun γ1 => [(3, .pointer (some ⟨γ1 0, 0, none⟩)), (4, .pointer (some ⟨γ1 1, 0, none⟩)), (5, .pointer (some ⟨γ1 2, 0, none⟩))]) (fun γ1 L => bx (γ1 2) (#[.int .i64 x1, .int .i64 x2]) 44 :: bx (γ1 1) (#[.int .i64 now2, .slice p2 n2 cap2]) 24 :: bx (γ1 0) (#[.int .i64 now, .slice p n cap]) 24 :: L) (fun γ1 => ds_ (sq_ (sq_ (ao_ (cD (.bool true) Try.call8 (fun w hw => wakes_t w) (qo0 1 [] [3, 4, 5] [(20, .bool false)] (on_ (ds_ (f_ (at_skip (ds_ (sq_ (sq_ ?_)))))))))))))))
 by_cases q5 : ((n : Nat) : Int) > (100 : Int)
 ·
  refine qa [(1, .go (owns 2 1 1)), (3, .yes)] [3, 4, 5] [(30, .bool true)] ([((n : Nat) : Int) > (100 : Int)]) (al1 q5) (ds_ (t_ (sq_ (qa0 [] [] [(6, .bool true)] (ds_ (rt ([]) (.bool true) ?_))))))
  exact fun w' hw => ⟨rfl, hw.below⟩
 ·
  by_cases q9 : ((n2 : Nat) : Int) > (100 : Int)
  ·
   refine qa [(1, .go (owns 2 1 1)), (3, .no), (6, .go (owns 1 1 1)), (8, .yes)] [3, 4, 5] [(30, .bool true)] ([¬ (((n : Nat) : Int) > (100 : Int))] ++ ([((n2 : Nat) : Int) > (100 : Int)])) (alA (al1 q5) (al1 q9)) (ds_ (t_ (sq_ (qa0 [] [] [(6, .bool true)] (ds_ (rt ([]) (.bool true) ?_))))))
   exact fun w' hw => ⟨rfl, hw.below⟩
  ·
   refine qa [(1, .go (owns 2 1 1)), (3, .no), (6, .go (owns 1 1 1)), (8, .no)] [3, 4, 5] [(30, .bool false)] ([¬ (((n : Nat) : Int) > (100 : Int))] ++ ([¬ (((n2 : Nat) : Int) > (100 : Int))])) (alA (al1 q5) (al1 q9)) (ds_ (f_ (at_skip (ds_ (sq_ (ao_ (qo0 1 [(0, .go (owns 2 0 2))] [3, 4, 5] [(31, .agg #[.int .i64 now, .slice p n cap])] ?_)))))))
   rcases q14 : wheelB now ts with _ | _
   ·
    refine cD (.bool false) Try.call17 (fun w hw => by have := rright_t now p n cap ts w (hts.kept hw.below) hn (by omega); rw [q14] at this; exact this) (qo0 1 [] [3, 4, 5] [(7, .bool false)] (on_ (ds_ (sq_ (ao_ (qo0 1 [(0, .go (owns 2 0 2))] [3, 4, 5, 7] [(33, .agg #[.int .i64 now, .slice p n cap])] (cP (fun v L' => ∃ q_ c_ Y_, v = .agg #[.int .i64 now, .slice q_ n c_] ∧ L' = List.take 3 ([bx (γ1 2) (#[.int .i64 x1, .int .i64 x2]) 44, bx (γ1 1) (#[.int .i64 now2, .slice p2 n2 cap2]) 24, bx (γ1 0) (#[.int .i64 now, .slice p n cap]) 24]) ++ (Y_ ++ List.drop 3 ([bx (γ1 2) (#[.int .i64 x1, .int .i64 x2]) 44, bx (γ1 1) (#[.int .i64 now2, .slice p2 n2 cap2]) 24, bx (γ1 0) (#[.int .i64 now, .slice p n cap]) 24])) ∧ SlO 33 Y_ q_ n c_ ts) Try.call12 (fun w hw => (copied_t now p n cap ts w (hts.kept hw.below) hn (by omega)).mono fun e w' ⟨q_, c_, Y_, he, hO, hb, hY⟩ => ⟨_, _, he, ⟨q_, c_, Y_, rfl, rfl, hO⟩, hw.join hb hY 3⟩) ?_)))))))
    rintro v17 L17 ⟨q17, cq17, Y17, rfl, rfl, hO17⟩
    refine cD (.int .i64 250) Try.call10 (fun w hw => by have := wcheck_t now q17 n cq17 ts w (hO17.atN (A := [_, _, _]) hw) hO17.len (by omega); rw [q14] at this; exact this) (qo0 1 [] [3, 4, 5, 7] [(8, .int .i64 250)] (on_ (ds_ (sq_ (sq_ ?_)))))
    refine at_any (by kernel_rfl) ?_
    refine tk (m := 15) [0, 1, 2, 3, 4, 5, 6, 7, 8, 9, 10, 11, 12] [(3, .eqs false)] [3, 4, 5, 7] [(48, .bool false)] ([EqRun Try.prog .neq 4 (.tmp 36) (.tmp 38) (.bool false) (.bool false) false]) #[true, true, true, true, true, true, true, true, true, true, true, true, true, false, false, false, false, false, false, false, false, false, false, false, false, false, false, false] (al1 (bool_ne false false)) ?_
    refine any_cutX (V := (List Ob) × (Nat) × (Option Addr)) (fun ⟨Y503, cq503, q503⟩ => SlO 33 Y503 q503 n cq503 ts) 0 #[true, true, true, true, true, true, true, true, true, true, true, true, true, true, true, true, true, true, true, true, true, true, true, true, true, true, true, true] (fun ⟨Y503, cq503, q503⟩ => [(3, .pointer (some ⟨γ1 0, 0, none⟩)), (5, .pointer (some ⟨γ1 2, 0, none⟩)), (7, .bool false), (63, .bool false)]) (fun ⟨Y503, cq503, q503⟩ => bx (γ1 2) (#[.int .i64 x1, .int .i64 x2]) 44 :: bx (γ1 1) (#[.int .i64 now2, .slice p2 n2 cap2]) 24 :: bx (γ1 0) (#[.int .i64 now, .slice p n cap]) 24 :: (Y503 ++ (Y17 ++ []))) ?_ (fun hmx26 => ?_)
    rotate_left
    ·
     refine any_cutX (V := (List Ob) × (Nat) × (Option Addr)) (fun ⟨Y503, cq503, q503⟩ => SlO 33 Y503 q503 n cq503 ts) 3 #[true, true, true, true, true, true, true, true, true, true, true, true, true, true, true, true, true, true, true, true, true, true, true, true, true, false, false, false] (fun ⟨Y503, cq503, q503⟩ => [(3, .pointer (some ⟨γ1 0, 0, none⟩)), (5, .pointer (some ⟨γ1 2, 0, none⟩)), (7, .bool false), (57, .bool false), (58, .agg #[.int .i64 now, .slice p n cap]), (60, .agg #[.int .i64 now, .slice q503 n cq503])]) (fun ⟨Y503, cq503, q503⟩ => bx (γ1 2) (#[.int .i64 x1, .int .i64 x2]) 44 :: bx (γ1 1) (#[.int .i64 now2, .slice p2 n2 cap2]) 24 :: bx (γ1 0) (#[.int .i64 now, .slice p n cap]) 24 :: (Y503 ++ (Y17 ++ []))) ?_ (fun hmx25 => ?_)
     ·
      rintro ⟨Y503, cq503, q503⟩ hO503
      refine a1 25 rfl ?_
      refine cD (.bool true) Try.call20 (fun w hw => by have := same_t now p n cap ts now q503 n cq503 ts w (hts.kept hw.below) hn (by omega) (hO503.atN (A := [_, _, _]) hw) hO503.len (by omega); rw [sameW_refl] at this; exact this) ?_
      refine od_ ?_
      refine tk (m := 0) [26, 27] [] [3, 5, 7] [(63, .bool false)] ([]) #[true, true, true, true, true, true, true, true, true, true, true, true, true, true, true, true, true, true, true, true, true, true, true, true, true, true, true, true] al0 ?_
      exact wk (hmx26 (Y503, cq503, q503) hO503) [3, 5, 7, 63] [[_], [_], [_], _, _] [0, 1, 2, 3, 4] rfl rfl
     refine any_cutX (V := (List Ob) × (Nat) × (Option Addr)) (fun ⟨Y503, cq503, q503⟩ => SlO 33 Y503 q503 n cq503 ts) 4 #[true, true, true, true, true, true, true, true, true, true, true, true, true, true, true, true, true, true, true, true, true, true, false, true, true, false, false, false] (fun ⟨Y503, cq503, q503⟩ => [(3, .pointer (some ⟨γ1 0, 0, none⟩)), (5, .pointer (some ⟨γ1 2, 0, none⟩)), (7, .bool false), (57, .bool false), (60, .agg #[.int .i64 now, .slice q503 n cq503])]) (fun ⟨Y503, cq503, q503⟩ => bx (γ1 2) (#[.int .i64 x1, .int .i64 x2]) 44 :: bx (γ1 1) (#[.int .i64 now2, .slice p2 n2 cap2]) 24 :: bx (γ1 0) (#[.int .i64 now, .slice p n cap]) 24 :: (Y503 ++ (Y17 ++ []))) ?_ (fun hmx24 => ?_)
     ·
      rintro ⟨Y503, cq503, q503⟩ hO503
      refine a1 22 rfl ?_
      refine qo0 1 [(22, .go (owns 2 0 2))] [3, 5, 7, 57, 60] [(58, .agg #[.int .i64 now, .slice p n cap])] ?_
      refine od_ ?_
      exact wk (hmx25 (Y503, cq503, q503) hO503) [3, 5, 7, 57, 58, 60] [[_], [_], [_], _, _] [0, 1, 2, 3, 4] rfl rfl
     refine any_cutX (V := Unit) (fun _ => True) 4 #[true, true, true, true, true, true, true, true, true, true, true, true, true, true, true, true, true, true, true, true, true, true, true, true, false, false, false, false] (fun _ => [(3, .pointer (some ⟨γ1 0, 0, none⟩)), (5, .pointer (some ⟨γ1 2, 0, none⟩)), (7, .bool false), (57, .bool false), (58, .agg #[.int .i64 now, .slice p n cap]), (59, .agg #[.int .i64 now, .slice p n cap])]) (fun _ => bx (γ1 2) (#[.int .i64 x1, .int .i64 x2]) 44 :: bx (γ1 1) (#[.int .i64 now2, .slice p2 n2 cap2]) 24 :: bx (γ1 0) (#[.int .i64 now, .slice p n cap]) 24 :: (Y17 ++ [])) ?_ (fun hmx23 => ?_)
     ·
      rintro _ _
      refine a1 24 rfl ?_
      refine cP (fun v L' => ∃ q_ c_ Y_, v = .agg #[.int .i64 now, .slice q_ n c_] ∧ L' = List.take 3 (bx (γ1 2) (#[.int .i64 x1, .int .i64 x2]) 44 :: bx (γ1 1) (#[.int .i64 now2, .slice p2 n2 cap2]) 24 :: bx (γ1 0) (#[.int .i64 now, .slice p n cap]) 24 :: (Y17 ++ [])) ++ (Y_ ++ List.drop 3 (bx (γ1 2) (#[.int .i64 x1, .int .i64 x2]) 44 :: bx (γ1 1) (#[.int .i64 now2, .slice p2 n2 cap2]) 24 :: bx (γ1 0) (#[.int .i64 now, .slice p n cap]) 24 :: (Y17 ++ []))) ∧ SlO 33 Y_ q_ n c_ ts) Try.call12 (fun w hw => (copied_t now p n cap ts w (hts.kept hw.below) hn (by omega)).mono fun e w' ⟨q_, c_, Y_, he, hO, hb, hY⟩ => ⟨_, _, he, ⟨q_, c_, Y_, rfl, rfl, hO⟩, hw.join hb hY 3⟩) ?_
      rintro v503 L503 ⟨q503, cq503, Y503, rfl, rfl, hO503⟩
      refine od_ ?_
      exact wk (hmx25 (Y503, cq503, q503) hO503) [3, 5, 7, 57, 58, 60] [[_], [_], [_], _, _] [0, 1, 2, 3, 4] rfl rfl
     refine any_cutX (V := Unit) (fun _ => True) 5 #[true, true, true, true, true, true, true, true, true, true, true, true, true, true, true, true, true, true, true, true, true, true, false, true, false, false, false, false] (fun _ => [(3, .pointer (some ⟨γ1 0, 0, none⟩)), (5, .pointer (some ⟨γ1 2, 0, none⟩)), (7, .bool false), (57, .bool false), (59, .agg #[.int .i64 now, .slice p n cap])]) (fun _ => bx (γ1 2) (#[.int .i64 x1, .int .i64 x2]) 44 :: bx (γ1 1) (#[.int .i64 now2, .slice p2 n2 cap2]) 24 :: bx (γ1 0) (#[.int .i64 now, .slice p n cap]) 24 :: (Y17 ++ [])) ?_ (fun hmx22 => ?_)
     ·
      rintro _ _
      refine any_fork [22, 24] (by kernel_rfl) (by simp) (each_cons _ rfl ?_ (each_cons _ rfl ?_ (each_nil)))
      ·
       refine qo0 1 [(22, .go (owns 2 0 2))] [3, 5, 7, 57, 59] [(58, .agg #[.int .i64 now, .slice p n cap])] ?_
       refine od_ ?_
       exact wk (hmx23 () trivial) [3, 5, 7, 57, 58, 59] [[_], [_], [_], _] [0, 1, 2, 3] rfl rfl
      ·
       refine cP (fun v L' => ∃ q_ c_ Y_, v = .agg #[.int .i64 now, .slice q_ n c_] ∧ L' = List.take 3 (bx (γ1 2) (#[.int .i64 x1, .int .i64 x2]) 44 :: bx (γ1 1) (#[.int .i64 now2, .slice p2 n2 cap2]) 24 :: bx (γ1 0) (#[.int .i64 now, .slice p n cap]) 24 :: (Y17 ++ [])) ++ (Y_ ++ List.drop 3 (bx (γ1 2) (#[.int .i64 x1, .int .i64 x2]) 44 :: bx (γ1 1) (#[.int .i64 now2, .slice p2 n2 cap2]) 24 :: bx (γ1 0) (#[.int .i64 now, .slice p n cap]) 24 :: (Y17 ++ []))) ∧ SlO 33 Y_ q_ n c_ ts) Try.call12 (fun w hw => (copied_t now p n cap ts w (hts.kept hw.below) hn (by omega)).mono fun e w' ⟨q_, c_, Y_, he, hO, hb, hY⟩ => ⟨_, _, he, ⟨q_, c_, Y_, rfl, rfl, hO⟩, hw.join hb hY 3⟩) ?_
       rintro v503 L503 ⟨q503, cq503, Y503, rfl, rfl, hO503⟩
       refine od_ ?_
       exact wk (hmx24 (Y503, cq503, q503) hO503) [3, 5, 7, 57, 60] [[_], [_], [_], _, _] [0, 1, 2, 3, 4] rfl rfl
     refine any_cutX (V := Unit) (fun _ => True) 5 #[true, true, true, true, true, true, true, true, true, true, true, true, true, true, true, true, true, true, true, true, true, true, true, false, false, false, false, false] (fun _ => [(3, .pointer (some ⟨γ1 0, 0, none⟩)), (5, .pointer (some ⟨γ1 2, 0, none⟩)), (7, .bool false), (57, .bool false), (58, .agg #[.int .i64 now, .slice p n cap])]) (fun _ => bx (γ1 2) (#[.int .i64 x1, .int .i64 x2]) 44 :: bx (γ1 1) (#[.int .i64 now2, .slice p2 n2 cap2]) 24 :: bx (γ1 0) (#[.int .i64 now, .slice p n cap]) 24 :: (Y17 ++ [])) ?_ (fun hmx21 => ?_)
     ·
      rintro _ _
      refine a1 23 rfl ?_
      refine qo0 1 [(23, .go (owns 2 0 2))] [3, 5, 7, 57, 58] [(59, .agg #[.int .i64 now, .slice p n cap])] ?_
      refine od_ ?_
      exact wk (hmx23 () trivial) [3, 5, 7, 57, 58, 59] [[_], [_], [_], _] [0, 1, 2, 3] rfl rfl
     refine any_cutX (V := Unit) (fun _ => True) 6 #[true, true, true, true, true, true, true, true, true, true, true, true, true, true, true, true, true, true, true, true, true, true, false, false, false, false, false, false] (fun _ => [(3, .pointer (some ⟨γ1 0, 0, none⟩)), (5, .pointer (some ⟨γ1 2, 0, none⟩)), (7, .bool false), (57, .bool false)]) (fun _ => bx (γ1 2) (#[.int .i64 x1, .int .i64 x2]) 44 :: bx (γ1 1) (#[.int .i64 now2, .slice p2 n2 cap2]) 24 :: bx (γ1 0) (#[.int .i64 now, .slice p n cap]) 24 :: (Y17 ++ [])) ?_ (fun hmx20 => ?_)
     ·
      rintro _ _
      refine any_fork [22, 23] (by kernel_rfl) (by simp) (each_cons _ rfl ?_ (each_cons _ rfl ?_ (each_nil)))
      ·
       refine qo0 1 [(22, .go (owns 2 0 2))] [3, 5, 7, 57] [(58, .agg #[.int .i64 now, .slice p n cap])] ?_
       refine od_ ?_
       exact wk (hmx21 () trivial) [3, 5, 7, 57, 58] [[_], [_], [_], _] [0, 1, 2, 3] rfl rfl
      ·
       refine qo0 1 [(23, .go (owns 2 0 2))] [3, 5, 7, 57] [(59, .agg #[.int .i64 now, .slice p n cap])] ?_
       refine od_ ?_
       exact wk (hmx22 () trivial) [3, 5, 7, 57, 59] [[_], [_], [_], _] [0, 1, 2, 3] rfl rfl
     refine any_cutX (V := Unit) (fun _ => True) 10 #[true, true, true, true, true, true, true, true, true, true, true, true, true, true, true, true, true, true, false, false, false, false, false, false, false, false, false, false] (fun _ => [(3, .pointer (some ⟨γ1 0, 0, none⟩)), (5, .pointer (some ⟨γ1 2, 0, none⟩)), (7, .bool false), (48, .bool false), (51, .bool (sameW now ts now2 ts2)), (52, .agg #[.int .i64 now, .slice p n cap]), (53, .agg #[.int .i64 now2, .slice p2 n2 cap2])]) (fun _ => bx (γ1 2) (#[.int .i64 x1, .int .i64 x2]) 44 :: bx (γ1 1) (#[.int .i64 now2, .slice p2 n2 cap2]) 24 :: bx (γ1 0) (#[.int .i64 now, .slice p n cap]) 24 :: (Y17 ++ [])) ?_ (fun hmx19 => ?_)
     ·
      rintro _ _
      refine a1 18 rfl ?_
      refine cD (.bool (sameW now ts now2 ts2)) Try.call16 (fun w hw => by have := rsame_t now p n cap ts now2 p2 n2 cap2 ts2 w (hts.kept hw.below) hn (by omega) (hts2.kept hw.below) hn2 (by omega); exact this) ?_
      refine od_ ?_
      refine tk (m := 6) [19, 20, 21] [(19, .eqs false)] [3, 5, 7] [(57, .bool false)] ([EqRun Try.prog .neq 4 (.tmp 51) (.tmp 54) (.bool (sameW now ts now2 ts2)) (.bool (sameW now ts now2 ts2)) false]) #[true, true, true, true, true, true, true, true, true, true, true, true, true, true, true, true, true, true, true, true, true, true, false, false, false, false, false, false] (al1 (bool_same _)) ?_
      exact wk (hmx20 () trivial) [3, 5, 7, 57] [[_], [_], [_], _] [0, 1, 2, 3] rfl rfl
     refine any_cutX (V := Unit) (fun _ => True) 11 #[true, true, true, true, true, true, true, true, true, true, true, true, true, true, true, false, true, true, false, false, false, false, false, false, false, false, false, false] (fun _ => [(3, .pointer (some ⟨γ1 0, 0, none⟩)), (5, .pointer (some ⟨γ1 2, 0, none⟩)), (7, .bool false), (48, .bool false), (49, .agg #[.int .i64 now, .slice p n cap]), (50, .agg #[.int .i64 now2, .slice p2 n2 cap2]), (52, .agg #[.int .i64 now, .slice p n cap]), (53, .agg #[.int .i64 now2, .slice p2 n2 cap2])]) (fun _ => bx (γ1 2) (#[.int .i64 x1, .int .i64 x2]) 44 :: bx (γ1 1) (#[.int .i64 now2, .slice p2 n2 cap2]) 24 :: bx (γ1 0) (#[.int .i64 now, .slice p n cap]) 24 :: (Y17 ++ [])) ?_ (fun hmx18 => ?_)
     ·
      rintro _ _
      refine a1 15 rfl ?_
      refine cD (.bool (sameW now ts now2 ts2)) Try.call20 (fun w hw => by have := same_t now p n cap ts now2 p2 n2 cap2 ts2 w (hts.kept hw.below) hn (by omega) (hts2.kept hw.below) hn2 (by omega); exact this) ?_
      refine od_ ?_
      exact wk (hmx19 () trivial) [3, 5, 7, 48, 51, 52, 53] [[_], [_], [_], _] [0, 1, 2, 3] rfl rfl
     refine any_cutX (V := Unit) (fun _ => True) 11 #[true, true, true, true, true, true, true, true, true, true, true, true, true, true, true, true, false, true, false, false, false, false, false, false, false, false, false, false] (fun _ => [(3, .pointer (some ⟨γ1 0, 0, none⟩)), (5, .pointer (some ⟨γ1 2, 0, none⟩)), (7, .bool false), (48, .bool false), (51, .bool (sameW now ts now2 ts2)), (53, .agg #[.int .i64 now2, .slice p2 n2 cap2])]) (fun _ => bx (γ1 2) (#[.int .i64 x1, .int .i64 x2]) 44 :: bx (γ1 1) (#[.int .i64 now2, .slice p2 n2 cap2]) 24 :: bx (γ1 0) (#[.int .i64 now, .slice p n cap]) 24 :: (Y17 ++ [])) ?_ (fun hmx17 => ?_)
     ·
      rintro _ _
      refine a1 16 rfl ?_
      refine qo0 1 [(16, .go (owns 2 0 2))] [3, 5, 7, 48, 51, 53] [(52, .agg #[.int .i64 now, .slice p n cap])] ?_
      refine od_ ?_
      exact wk (hmx19 () trivial) [3, 5, 7, 48, 51, 52, 53] [[_], [_], [_], _] [0, 1, 2, 3] rfl rfl
     refine any_cutX (V := Unit) (fun _ => True) 11 #[true, true, true, true, true, true, true, true, true, true, true, true, true, true, true, true, true, false, false, false, false, false, false, false, false, false, false, false] (fun _ => [(3, .pointer (some ⟨γ1 0, 0, none⟩)), (4, .pointer (some ⟨γ1 1, 0, none⟩)), (5, .pointer (some ⟨γ1 2, 0, none⟩)), (7, .bool false), (48, .bool false), (51, .bool (sameW now ts now2 ts2)), (52, .agg #[.int .i64 now, .slice p n cap])]) (fun _ => bx (γ1 2) (#[.int .i64 x1, .int .i64 x2]) 44 :: bx (γ1 1) (#[.int .i64 now2, .slice p2 n2 cap2]) 24 :: bx (γ1 0) (#[.int .i64 now, .slice p n cap]) 24 :: (Y17 ++ [])) ?_ (fun hmx16 => ?_)
     ·
      rintro _ _
      refine a1 17 rfl ?_
      refine qo0 1 [(17, .go (owns 1 0 2))] [3, 5, 7, 48, 51, 52] [(53, .agg #[.int .i64 now2, .slice p2 n2 cap2])] ?_
      refine od_ ?_
      exact wk (hmx19 () trivial) [3, 5, 7, 48, 51, 52, 53] [[_], [_], [_], _] [0, 1, 2, 3] rfl rfl
     refine any_cutX (V := Unit) (fun _ => True) 12 #[true, true, true, true, true, true, true, true, true, true, true, true, true, false, true, false, true, true, false, false, false, false, false, false, false, false, false, false] (fun _ => [(3, .pointer (some ⟨γ1 0, 0, none⟩)), (5, .pointer (some ⟨γ1 2, 0, none⟩)), (7, .bool false), (48, .bool false), (50, .agg #[.int .i64 now2, .slice p2 n2 cap2]), (52, .agg #[.int .i64 now, .slice p n cap]), (53, .agg #[.int .i64 now2, .slice p2 n2 cap2])]) (fun _ => bx (γ1 2) (#[.int .i64 x1, .int .i64 x2]) 44 :: bx (γ1 1) (#[.int .i64 now2, .slice p2 n2 cap2]) 24 :: bx (γ1 0) (#[.int .i64 now, .slice p n cap]) 24 :: (Y17 ++ [])) ?_ (fun hmx15 => ?_)
     ·
      rintro _ _
      refine a1 13 rfl ?_
      refine qo0 1 [(13, .go (owns 2 0 2))] [3, 5, 7, 48, 50, 52, 53] [(49, .agg #[.int .i64 now, .slice p n cap])] ?_
      refine od_ ?_
      exact wk (hmx18 () trivial) [3, 5, 7, 48, 49, 50, 52, 53] [[_], [_], [_], _] [0, 1, 2, 3] rfl rfl
     refine any_cutX (V := Unit) (fun _ => True) 12 #[true, true, true, true, true, true, true, true, true, true, true, true, true, true, false, false, true, true, false, false, false, false, false, false, false, false, false, false] (fun _ => [(3, .pointer (some ⟨γ1 0, 0, none⟩)), (4, .pointer (some ⟨γ1 1, 0, none⟩)), (5, .pointer (some ⟨γ1 2, 0, none⟩)), (7, .bool false), (48, .bool false), (49, .agg #[.int .i64 now, .slice p n cap]), (52, .agg #[.int .i64 now, .slice p n cap]), (53, .agg #[.int .i64 now2, .slice p2 n2 cap2])]) (fun _ => bx (γ1 2) (#[.int .i64 x1, .int .i64 x2]) 44 :: bx (γ1 1) (#[.int .i64 now2, .slice p2 n2 cap2]) 24 :: bx (γ1 0) (#[.int .i64 now, .slice p n cap]) 24 :: (Y17 ++ [])) ?_ (fun hmx14 => ?_)
     ·
      rintro _ _
      refine a1 14 rfl ?_
      refine qo0 1 [(14, .go (owns 1 0 2))] [3, 5, 7, 48, 49, 52, 53] [(50, .agg #[.int .i64 now2, .slice p2 n2 cap2])] ?_
      refine od_ ?_
      exact wk (hmx18 () trivial) [3, 5, 7, 48, 49, 50, 52, 53] [[_], [_], [_], _] [0, 1, 2, 3] rfl rfl
     refine any_cutX (V := Unit) (fun _ => True) 12 #[true, true, true, true, true, true, true, true, true, true, true, true, true, true, true, false, false, true, false, false, false, false, false, false, false, false, false, false] (fun _ => [(3, .pointer (some ⟨γ1 0, 0, none⟩)), (5, .pointer (some ⟨γ1 2, 0, none⟩)), (7, .bool false), (48, .bool false), (49, .agg #[.int .i64 now, .slice p n cap]), (50, .agg #[.int .i64 now2, .slice p2 n2 cap2]), (53, .agg #[.int .i64 now2, .slice p2 n2 cap2])]) (fun _ => bx (γ1 2) (#[.int .i64 x1, .int .i64 x2]) 44 :: bx (γ1 1) (#[.int .i64 now2, .slice p2 n2 cap2]) 24 :: bx (γ1 0) (#[.int .i64 now, .slice p n cap]) 24 :: (Y17 ++ [])) ?_ (fun hmx13 => ?_)
     ·
      rintro _ _
      refine any_fork [15, 16] (by kernel_rfl) (by simp) (each_cons _ rfl ?_ (each_cons _ rfl ?_ (each_nil)))
      ·
       refine cD (.bool (sameW now ts now2 ts2)) Try.call20 (fun w hw => by have := same_t now p n cap ts now2 p2 n2 cap2 ts2 w (hts.kept hw.below) hn (by omega) (hts2.kept hw.below) hn2 (by omega); exact this) ?_
       refine od_ ?_
       exact wk (hmx17 () trivial) [3, 5, 7, 48, 51, 53] [[_], [_], [_], _] [0, 1, 2, 3] rfl rfl
      ·
       refine qo0 1 [(16, .go (owns 2 0 2))] [3, 5, 7, 48, 49, 50, 53] [(52, .agg #[.int .i64 now, .slice p n cap])] ?_
       refine od_ ?_
       exact wk (hmx18 () trivial) [3, 5, 7, 48, 49, 50, 52, 53] [[_], [_], [_], _] [0, 1, 2, 3] rfl rfl
     refine any_cutX (V := Unit) (fun _ => True) 12 #[true, true, true, true, true, true, true, true, true, true, true, true, true, true, true, false, true, false, false, false, false, false, false, false, false, false, false, false] (fun _ => [(3, .pointer (some ⟨γ1 0, 0, none⟩)), (4, .pointer (some ⟨γ1 1, 0, none⟩)), (5, .pointer (some ⟨γ1 2, 0, none⟩)), (7, .bool false), (48, .bool false), (49, .agg #[.int .i64 now, .slice p n cap]), (50, .agg #[.int .i64 now2, .slice p2 n2 cap2]), (52, .agg #[.int .i64 now, .slice p n cap])]) (fun _ => bx (γ1 2) (#[.int .i64 x1, .int .i64 x2]) 44 :: bx (γ1 1) (#[.int .i64 now2, .slice p2 n2 cap2]) 24 :: bx (γ1 0) (#[.int .i64 now, .slice p n cap]) 24 :: (Y17 ++ [])) ?_ (fun hmx12 => ?_)
     ·
      rintro _ _
      refine any_fork [15, 17] (by kernel_rfl) (by simp) (each_cons _ rfl ?_ (each_cons _ rfl ?_ (each_nil)))
      ·
       refine cD (.bool (sameW now ts now2 ts2)) Try.call20 (fun w hw => by have := same_t now p n cap ts now2 p2 n2 cap2 ts2 w (hts.kept hw.below) hn (by omega) (hts2.kept hw.below) hn2 (by omega); exact this) ?_
       refine od_ ?_
       exact wk (hmx16 () trivial) [3, 4, 5, 7, 48, 51, 52] [[_], [_], [_], _] [0, 1, 2, 3] rfl rfl
      ·
       refine qo0 1 [(17, .go (owns 1 0 2))] [3, 5, 7, 48, 49, 50, 52] [(53, .agg #[.int .i64 now2, .slice p2 n2 cap2])] ?_
       refine od_ ?_
       exact wk (hmx18 () trivial) [3, 5, 7, 48, 49, 50, 52, 53] [[_], [_], [_], _] [0, 1, 2, 3] rfl rfl
     refine any_cutX (V := Unit) (fun _ => True) 12 #[true, true, true, true, true, true, true, true, true, true, true, true, true, true, true, true, false, false, false, false, false, false, false, false, false, false, false, false] (fun _ => [(3, .pointer (some ⟨γ1 0, 0, none⟩)), (4, .pointer (some ⟨γ1 1, 0, none⟩)), (5, .pointer (some ⟨γ1 2, 0, none⟩)), (7, .bool false), (48, .bool false), (51, .bool (sameW now ts now2 ts2))]) (fun _ => bx (γ1 2) (#[.int .i64 x1, .int .i64 x2]) 44 :: bx (γ1 1) (#[.int .i64 now2, .slice p2 n2 cap2]) 24 :: bx (γ1 0) (#[.int .i64 now, .slice p n cap]) 24 :: (Y17 ++ [])) ?_ (fun hmx11 => ?_)
     ·
      rintro _ _
      refine any_fork [16, 17] (by kernel_rfl) (by simp) (each_cons _ rfl ?_ (each_cons _ rfl ?_ (each_nil)))
      ·
       refine qo0 1 [(16, .go (owns 2 0 2))] [3, 4, 5, 7, 48, 51] [(52, .agg #[.int .i64 now, .slice p n cap])] ?_
       refine od_ ?_
       exact wk (hmx16 () trivial) [3, 4, 5, 7, 48, 51, 52] [[_], [_], [_], _] [0, 1, 2, 3] rfl rfl
      ·
       refine qo0 1 [(17, .go (owns 1 0 2))] [3, 5, 7, 48, 51] [(53, .agg #[.int .i64 now2, .slice p2 n2 cap2])] ?_
       refine od_ ?_
       exact wk (hmx17 () trivial) [3, 5, 7, 48, 51, 53] [[_], [_], [_], _] [0, 1, 2, 3] rfl rfl
     refine any_cutX (V := Unit) (fun _ => True) 13 #[true, true, true, true, true, true, true, true, true, true, true, true, true, false, false, false, true, true, false, false, false, false, false, false, false, false, false, false] (fun _ => [(3, .pointer (some ⟨γ1 0, 0, none⟩)), (4, .pointer (some ⟨γ1 1, 0, none⟩)), (5, .pointer (some ⟨γ1 2, 0, none⟩)), (7, .bool false), (48, .bool false), (52, .agg #[.int .i64 now, .slice p n cap]), (53, .agg #[.int .i64 now2, .slice p2 n2 cap2])]) (fun _ => bx (γ1 2) (#[.int .i64 x1, .int .i64 x2]) 44 :: bx (γ1 1) (#[.int .i64 now2, .slice p2 n2 cap2]) 24 :: bx (γ1 0) (#[.int .i64 now, .slice p n cap]) 24 :: (Y17 ++ [])) ?_ (fun hmx10 => ?_)
     ·
      rintro _ _
      refine any_fork [13, 14] (by kernel_rfl) (by simp) (each_cons _ rfl ?_ (each_cons _ rfl ?_ (each_nil)))
      ·
       refine qo0 1 [(13, .go (owns 2 0 2))] [3, 4, 5, 7, 48, 52, 53] [(49, .agg #[.int .i64 now, .slice p n cap])] ?_
       refine od_ ?_
       exact wk (hmx14 () trivial) [3, 4, 5, 7, 48, 49, 52, 53] [[_], [_], [_], _] [0, 1, 2, 3] rfl rfl
      ·
       refine qo0 1 [(14, .go (owns 1 0 2))] [3, 5, 7, 48, 52, 53] [(50, .agg #[.int .i64 now2, .slice p2 n2 cap2])] ?_
       refine od_ ?_
       exact wk (hmx15 () trivial) [3, 5, 7, 48, 50, 52, 53] [[_], [_], [_], _] [0, 1, 2, 3] rfl rfl
     refine any_cutX (V := Unit) (fun _ => True) 13 #[true, true, true, true, true, true, true, true, true, true, true, true, true, false, true, false, false, true, false, false, false, false, false, false, false, false, false, false] (fun _ => [(3, .pointer (some ⟨γ1 0, 0, none⟩)), (5, .pointer (some ⟨γ1 2, 0, none⟩)), (7, .bool false), (48, .bool false), (50, .agg #[.int .i64 now2, .slice p2 n2 cap2]), (53, .agg #[.int .i64 now2, .slice p2 n2 cap2])]) (fun _ => bx (γ1 2) (#[.int .i64 x1, .int .i64 x2]) 44 :: bx (γ1 1) (#[.int .i64 now2, .slice p2 n2 cap2]) 24 :: bx (γ1 0) (#[.int .i64 now, .slice p n cap]) 24 :: (Y17 ++ [])) ?_ (fun hmx9 => ?_)
     ·
      rintro _ _
      refine any_fork [13, 16] (by kernel_rfl) (by simp) (each_cons _ rfl ?_ (each_cons _ rfl ?_ (each_nil)))
      ·
       refine qo0 1 [(13, .go (owns 2 0 2))] [3, 5, 7, 48, 50, 53] [(49, .agg #[.int .i64 now, .slice p n cap])] ?_
       refine od_ ?_
       exact wk (hmx13 () trivial) [3, 5, 7, 48, 49, 50, 53] [[_], [_], [_], _] [0, 1, 2, 3] rfl rfl
      ·
       refine qo0 1 [(16, .go (owns 2 0 2))] [3, 5, 7, 48, 50, 53] [(52, .agg #[.int .i64 now, .slice p n cap])] ?_
       refine od_ ?_
       exact wk (hmx15 () trivial) [3, 5, 7, 48, 50, 52, 53] [[_], [_], [_], _] [0, 1, 2, 3] rfl rfl
     refine any_cutX (V := Unit) (fun _ => True) 13 #[true, true, true, true, true, true, true, true, true, true, true, true, true, false, true, false, true, false, false, false, false, false, false, false, false, false, false, false] (fun _ => [(3, .pointer (some ⟨γ1 0, 0, none⟩)), (4, .pointer (some ⟨γ1 1, 0, none⟩)), (5, .pointer (some ⟨γ1 2, 0, none⟩)), (7, .bool false), (48, .bool false), (50, .agg #[.int .i64 now2, .slice p2 n2 cap2]), (52, .agg #[.int .i64 now, .slice p n cap])]) (fun _ => bx (γ1 2) (#[.int .i64 x1, .int .i64 x2]) 44 :: bx (γ1 1) (#[.int .i64 now2, .slice p2 n2 cap2]) 24 :: bx (γ1 0) (#[.int .i64 now, .slice p n cap]) 24 :: (Y17 ++ [])) ?_ (fun hmx8 => ?_)
     ·
      rintro _ _
      refine any_fork [13, 17] (by kernel_rfl) (by simp) (each_cons _ rfl ?_ (each_cons _ rfl ?_ (each_nil)))
      ·
       refine qo0 1 [(13, .go (owns 2 0 2))] [3, 4, 5, 7, 48, 50, 52] [(49, .agg #[.int .i64 now, .slice p n cap])] ?_
       refine od_ ?_
       exact wk (hmx12 () trivial) [3, 4, 5, 7, 48, 49, 50, 52] [[_], [_], [_], _] [0, 1, 2, 3] rfl rfl
      ·
       refine qo0 1 [(17, .go (owns 1 0 2))] [3, 5, 7, 48, 50, 52] [(53, .agg #[.int .i64 now2, .slice p2 n2 cap2])] ?_
       refine od_ ?_
       exact wk (hmx15 () trivial) [3, 5, 7, 48, 50, 52, 53] [[_], [_], [_], _] [0, 1, 2, 3] rfl rfl
     refine any_cutX (V := Unit) (fun _ => True) 13 #[true, true, true, true, true, true, true, true, true, true, true, true, true, true, false, false, false, true, false, false, false, false, false, false, false, false, false, false] (fun _ => [(3, .pointer (some ⟨γ1 0, 0, none⟩)), (4, .pointer (some ⟨γ1 1, 0, none⟩)), (5, .pointer (some ⟨γ1 2, 0, none⟩)), (7, .bool false), (48, .bool false), (49, .agg #[.int .i64 now, .slice p n cap]), (53, .agg #[.int .i64 now2, .slice p2 n2 cap2])]) (fun _ => bx (γ1 2) (#[.int .i64 x1, .int .i64 x2]) 44 :: bx (γ1 1) (#[.int .i64 now2, .slice p2 n2 cap2]) 24 :: bx (γ1 0) (#[.int .i64 now, .slice p n cap]) 24 :: (Y17 ++ [])) ?_ (fun hmx7 => ?_)
     ·
      rintro _ _
      refine any_fork [14, 16] (by kernel_rfl) (by simp) (each_cons _ rfl ?_ (each_cons _ rfl ?_ (each_nil)))
      ·
       refine qo0 1 [(14, .go (owns 1 0 2))] [3, 5, 7, 48, 49, 53] [(50, .agg #[.int .i64 now2, .slice p2 n2 cap2])] ?_
       refine od_ ?_
       exact wk (hmx13 () trivial) [3, 5, 7, 48, 49, 50, 53] [[_], [_], [_], _] [0, 1, 2, 3] rfl rfl
      ·
       refine qo0 1 [(16, .go (owns 2 0 2))] [3, 4, 5, 7, 48, 49, 53] [(52, .agg #[.int .i64 now, .slice p n cap])] ?_
       refine od_ ?_
       exact wk (hmx14 () trivial) [3, 4, 5, 7, 48, 49, 52, 53] [[_], [_], [_], _] [0, 1, 2, 3] rfl rfl
     refine any_cutX (V := Unit) (fun _ => True) 13 #[true, true, true, true, true, true, true, true, true, true, true, true, true, true, false, false, true, false, false, false, false, false, false, false, false, false, false, false] (fun _ => [(3, .pointer (some ⟨γ1 0, 0, none⟩)), (4, .pointer (some ⟨γ1 1, 0, none⟩)), (5, .pointer (some ⟨γ1 2, 0, none⟩)), (7, .bool false), (48, .bool false), (49, .agg #[.int .i64 now, .slice p n cap]), (52, .agg #[.int .i64 now, .slice p n cap])]) (fun _ => bx (γ1 2) (#[.int .i64 x1, .int .i64 x2]) 44 :: bx (γ1 1) (#[.int .i64 now2, .slice p2 n2 cap2]) 24 :: bx (γ1 0) (#[.int .i64 now, .slice p n cap]) 24 :: (Y17 ++ [])) ?_ (fun hmx6 => ?_)
     ·
      rintro _ _
      refine any_fork [14, 17] (by kernel_rfl) (by simp) (each_cons _ rfl ?_ (each_cons _ rfl ?_ (each_nil)))
      ·
       refine qo0 1 [(14, .go (owns 1 0 2))] [3, 4, 5, 7, 48, 49, 52] [(50, .agg #[.int .i64 now2, .slice p2 n2 cap2])] ?_
       refine od_ ?_
       exact wk (hmx12 () trivial) [3, 4, 5, 7, 48, 49, 50, 52] [[_], [_], [_], _] [0, 1, 2, 3] rfl rfl
      ·
       refine qo0 1 [(17, .go (owns 1 0 2))] [3, 4, 5, 7, 48, 49, 52] [(53, .agg #[.int .i64 now2, .slice p2 n2 cap2])] ?_
       refine od_ ?_
       exact wk (hmx14 () trivial) [3, 4, 5, 7, 48, 49, 52, 53] [[_], [_], [_], _] [0, 1, 2, 3] rfl rfl
     refine any_cutX (V := Unit) (fun _ => True) 13 #[true, true, true, true, true, true, true, true, true, true, true, true, true, true, true, false, false, false, false, false, false, false, false, false, false, false, false, false] (fun _ => [(3, .pointer (some ⟨γ1 0, 0, none⟩)), (4, .pointer (some ⟨γ1 1, 0, none⟩)), (5, .pointer (some ⟨γ1 2, 0, none⟩)), (7, .bool false), (48, .bool false), (49, .agg #[.int .i64 now, .slice p n cap]), (50, .agg #[.int .i64 now2, .slice p2 n2 cap2])]) (fun _ => bx (γ1 2) (#[.int .i64 x1, .int .i64 x2]) 44 :: bx (γ1 1) (#[.int .i64 now2, .slice p2 n2 cap2]) 24 :: bx (γ1 0) (#[.int .i64 now, .slice p n cap]) 24 :: (Y17 ++ [])) ?_ (fun hmx5 => ?_)
     ·
      rintro _ _
      refine any_fork [15, 16, 17] (by kernel_rfl) (by simp) (each_cons _ rfl ?_ (each_cons _ rfl ?_ (each_cons _ rfl ?_ (each_nil))))
      ·
       refine cD (.bool (sameW now ts now2 ts2)) Try.call20 (fun w hw => by have := same_t now p n cap ts now2 p2 n2 cap2 ts2 w (hts.kept hw.below) hn (by omega) (hts2.kept hw.below) hn2 (by omega); exact this) ?_
       refine od_ ?_
       exact wk (hmx11 () trivial) [3, 4, 5, 7, 48, 51] [[_], [_], [_], _] [0, 1, 2, 3] rfl rfl
      ·
       refine qo0 1 [(16, .go (owns 2 0 2))] [3, 4, 5, 7, 48, 49, 50] [(52, .agg #[.int .i64 now, .slice p n cap])] ?_
       refine od_ ?_
       exact wk (hmx12 () trivial) [3, 4, 5, 7, 48, 49, 50, 52] [[_], [_], [_], _] [0, 1, 2, 3] rfl rfl
      ·
       refine qo0 1 [(17, .go (owns 1 0 2))] [3, 5, 7, 48, 49, 50] [(53, .agg #[.int .i64 now2, .slice p2 n2 cap2])] ?_
       refine od_ ?_
       exact wk (hmx13 () trivial) [3, 5, 7, 48, 49, 50, 53] [[_], [_], [_], _] [0, 1, 2, 3] rfl rfl
     refine any_cutX (V := Unit) (fun _ => True) 14 #[true, true, true, true, true, true, true, true, true, true, true, true, true, false, false, false, false, true, false, false, false, false, false, false, false, false, false, false] (fun _ => [(3, .pointer (some ⟨γ1 0, 0, none⟩)), (4, .pointer (some ⟨γ1 1, 0, none⟩)), (5, .pointer (some ⟨γ1 2, 0, none⟩)), (7, .bool false), (48, .bool false), (53, .agg #[.int .i64 now2, .slice p2 n2 cap2])]) (fun _ => bx (γ1 2) (#[.int .i64 x1, .int .i64 x2]) 44 :: bx (γ1 1) (#[.int .i64 now2, .slice p2 n2 cap2]) 24 :: bx (γ1 0) (#[.int .i64 now, .slice p n cap]) 24 :: (Y17 ++ [])) ?_ (fun hmx4 => ?_)
     ·
      rintro _ _
      refine any_fork [13, 14, 16] (by kernel_rfl) (by simp) (each_cons _ rfl ?_ (each_cons _ rfl ?_ (each_cons _ rfl ?_ (each_nil))))
      ·
       refine qo0 1 [(13, .go (owns 2 0 2))] [3, 4, 5, 7, 48, 53] [(49, .agg #[.int .i64 now, .slice p n cap])] ?_
       refine od_ ?_
       exact wk (hmx7 () trivial) [3, 4, 5, 7, 48, 49, 53] [[_], [_], [_], _] [0, 1, 2, 3] rfl rfl
      ·
       refine qo0 1 [(14, .go (owns 1 0 2))] [3, 5, 7, 48, 53] [(50, .agg #[.int .i64 now2, .slice p2 n2 cap2])] ?_
       refine od_ ?_
       exact wk (hmx9 () trivial) [3, 5, 7, 48, 50, 53] [[_], [_], [_], _] [0, 1, 2, 3] rfl rfl
      ·
       refine qo0 1 [(16, .go (owns 2 0 2))] [3, 4, 5, 7, 48, 53] [(52, .agg #[.int .i64 now, .slice p n cap])] ?_
       refine od_ ?_
       exact wk (hmx10 () trivial) [3, 4, 5, 7, 48, 52, 53] [[_], [_], [_], _] [0, 1, 2, 3] rfl rfl
     refine any_cutX (V := Unit) (fun _ => True) 14 #[true, true, true, true, true, true, true, true, true, true, true, true, true, false, false, false, true, false, false, false, false, false, false, false, false, false, false, false] (fun _ => [(3, .pointer (some ⟨γ1 0, 0, none⟩)), (4, .pointer (some ⟨γ1 1, 0, none⟩)), (5, .pointer (some ⟨γ1 2, 0, none⟩)), (7, .bool false), (48, .bool false), (52, .agg #[.int .i64 now, .slice p n cap])]) (fun _ => bx (γ1 2) (#[.int .i64 x1, .int .i64 x2]) 44 :: bx (γ1 1) (#[.int .i64 now2, .slice p2 n2 cap2]) 24 :: bx (γ1 0) (#[.int .i64 now, .slice p n cap]) 24 :: (Y17 ++ [])) ?_ (fun hmx3 => ?_)
     ·
      rintro _ _
      refine any_fork [13, 14, 17] (by kernel_rfl) (by simp) (each_cons _ rfl ?_ (each_cons _ rfl ?_ (each_cons _ rfl ?_ (each_nil))))
      ·
       refine qo0 1 [(13, .go (owns 2 0 2))] [3, 4, 5, 7, 48, 52] [(49, .agg #[.int .i64 now, .slice p n cap])] ?_
       refine od_ ?_
       exact wk (hmx6 () trivial) [3, 4, 5, 7, 48, 49, 52] [[_], [_], [_], _] [0, 1, 2, 3] rfl rfl
      ·
       refine qo0 1 [(14, .go (owns 1 0 2))] [3, 4, 5, 7, 48, 52] [(50, .agg #[.int .i64 now2, .slice p2 n2 cap2])] ?_
       refine od_ ?_
       exact wk (hmx8 () trivial) [3, 4, 5, 7, 48, 50, 52] [[_], [_], [_], _] [0, 1, 2, 3] rfl rfl
      ·
       refine qo0 1 [(17, .go (owns 1 0 2))] [3, 4, 5, 7, 48, 52] [(53, .agg #[.int .i64 now2, .slice p2 n2 cap2])] ?_
       refine od_ ?_
       exact wk (hmx10 () trivial) [3, 4, 5, 7, 48, 52, 53] [[_], [_], [_], _] [0, 1, 2, 3] rfl rfl
     refine any_cutX (V := Unit) (fun _ => True) 14 #[true, true, true, true, true, true, true, true, true, true, true, true, true, false, true, false, false, false, false, false, false, false, false, false, false, false, false, false] (fun _ => [(3, .pointer (some ⟨γ1 0, 0, none⟩)), (4, .pointer (some ⟨γ1 1, 0, none⟩)), (5, .pointer (some ⟨γ1 2, 0, none⟩)), (7, .bool false), (48, .bool false), (50, .agg #[.int .i64 now2, .slice p2 n2 cap2])]) (fun _ => bx (γ1 2) (#[.int .i64 x1, .int .i64 x2]) 44 :: bx (γ1 1) (#[.int .i64 now2, .slice p2 n2 cap2]) 24 :: bx (γ1 0) (#[.int .i64 now, .slice p n cap]) 24 :: (Y17 ++ [])) ?_ (fun hmx2 => ?_)
     ·
      rintro _ _
      refine any_fork [13, 16, 17] (by kernel_rfl) (by simp) (each_cons _ rfl ?_ (each_cons _ rfl ?_ (each_cons _ rfl ?_ (each_nil))))
      ·
       refine qo0 1 [(13, .go (owns 2 0 2))] [3, 4, 5, 7, 48, 50] [(49, .agg #[.int .i64 now, .slice p n cap])] ?_
       refine od_ ?_
       exact wk (hmx5 () trivial) [3, 4, 5, 7, 48, 49, 50] [[_], [_], [_], _] [0, 1, 2, 3] rfl rfl
      ·
       refine qo0 1 [(16, .go (owns 2 0 2))] [3, 4, 5, 7, 48, 50] [(52, .agg #[.int .i64 now, .slice p n cap])] ?_
       refine od_ ?_
       exact wk (hmx8 () trivial) [3, 4, 5, 7, 48, 50, 52] [[_], [_], [_], _] [0, 1, 2, 3] rfl rfl
      ·
       refine qo0 1 [(17, .go (owns 1 0 2))] [3, 5, 7, 48, 50] [(53, .agg #[.int .i64 now2, .slice p2 n2 cap2])] ?_
       refine od_ ?_
       exact wk (hmx9 () trivial) [3, 5, 7, 48, 50, 53] [[_], [_], [_], _] [0, 1, 2, 3] rfl rfl
     refine any_cutX (V := Unit) (fun _ => True) 14 #[true, true, true, true, true, true, true, true, true, true, true, true, true, true, false, false, false, false, false, false, false, false, false, false, false, false, false, false] (fun _ => [(3, .pointer (some ⟨γ1 0, 0, none⟩)), (4, .pointer (some ⟨γ1 1, 0, none⟩)), (5, .pointer (some ⟨γ1 2, 0, none⟩)), (7, .bool false), (48, .bool false), (49, .agg #[.int .i64 now, .slice p n cap])]) (fun _ => bx (γ1 2) (#[.int .i64 x1, .int .i64 x2]) 44 :: bx (γ1 1) (#[.int .i64 now2, .slice p2 n2 cap2]) 24 :: bx (γ1 0) (#[.int .i64 now, .slice p n cap]) 24 :: (Y17 ++ [])) ?_ (fun hmx1 => ?_)
     ·
      rintro _ _
      refine any_fork [14, 16, 17] (by kernel_rfl) (by simp) (each_cons _ rfl ?_ (each_cons _ rfl ?_ (each_cons _ rfl ?_ (each_nil))))
      ·
       refine qo0 1 [(14, .go (owns 1 0 2))] [3, 4, 5, 7, 48, 49] [(50, .agg #[.int .i64 now2, .slice p2 n2 cap2])] ?_
       refine od_ ?_
       exact wk (hmx5 () trivial) [3, 4, 5, 7, 48, 49, 50] [[_], [_], [_], _] [0, 1, 2, 3] rfl rfl
      ·
       refine qo0 1 [(16, .go (owns 2 0 2))] [3, 4, 5, 7, 48, 49] [(52, .agg #[.int .i64 now, .slice p n cap])] ?_
       refine od_ ?_
       exact wk (hmx6 () trivial) [3, 4, 5, 7, 48, 49, 52] [[_], [_], [_], _] [0, 1, 2, 3] rfl rfl
      ·
       refine qo0 1 [(17, .go (owns 1 0 2))] [3, 4, 5, 7, 48, 49] [(53, .agg #[.int .i64 now2, .slice p2 n2 cap2])] ?_
       refine od_ ?_
       exact wk (hmx7 () trivial) [3, 4, 5, 7, 48, 49, 53] [[_], [_], [_], _] [0, 1, 2, 3] rfl rfl
     refine any_fork [13, 14, 16, 17] (by kernel_rfl) (by simp) (each_cons _ rfl ?_ (each_cons _ rfl ?_ (each_cons _ rfl ?_ (each_cons _ rfl ?_ (each_nil)))))
     ·
      refine qo0 1 [(13, .go (owns 2 0 2))] [3, 4, 5, 7, 48] [(49, .agg #[.int .i64 now, .slice p n cap])] ?_
      refine od_ ?_
      exact wk (hmx1 () trivial) [3, 4, 5, 7, 48, 49] [[_], [_], [_], _] [0, 1, 2, 3] rfl rfl
     ·
      refine qo0 1 [(14, .go (owns 1 0 2))] [3, 4, 5, 7, 48] [(50, .agg #[.int .i64 now2, .slice p2 n2 cap2])] ?_
      refine od_ ?_
      exact wk (hmx2 () trivial) [3, 4, 5, 7, 48, 50] [[_], [_], [_], _] [0, 1, 2, 3] rfl rfl
     ·
      refine qo0 1 [(16, .go (owns 2 0 2))] [3, 4, 5, 7, 48] [(52, .agg #[.int .i64 now, .slice p n cap])] ?_
      refine od_ ?_
      exact wk (hmx3 () trivial) [3, 4, 5, 7, 48, 52] [[_], [_], [_], _] [0, 1, 2, 3] rfl rfl
     ·
      refine qo0 1 [(17, .go (owns 1 0 2))] [3, 4, 5, 7, 48] [(53, .agg #[.int .i64 now2, .slice p2 n2 cap2])] ?_
      refine od_ ?_
      exact wk (hmx4 () trivial) [3, 4, 5, 7, 48, 53] [[_], [_], [_], _] [0, 1, 2, 3] rfl rfl
    rintro ⟨Y503, cq503, q503⟩ hO503
    refine any_nil (by kernel_rfl) ?_
    refine ds_ (f_ (at_skip (ds_ (sq_ (qa0 [] [3, 5, 7] [(9, .slice none 0 0)] (ds_ (sq_ (sq_ (qa0 [(1, .go (owns 2 1 1))] [3, 5, 7, 9] [(65, .slice p n cap), (66, .int .i64 ((n : Nat))), (67, .int .i64 0)] (ds_ (at_block (at_loop (α := Nat × List Ob × Option Addr × Nat × Nat) [3, 5, 7, 9, 65, 66, 67] (fun ⟨j, Yo, po, nu, co⟩ => [(3, .pointer (some ⟨γ1 0, 0, none⟩)), (5, .pointer (some ⟨γ1 2, 0, none⟩)), (7, .bool false), (9, .slice po nu co), (65, .slice p n cap), (66, .int .i64 ((n : Nat))), (67, .int .i64 ((j : Nat)))]) (fun ⟨j, Yo, po, nu, co⟩ => bx (γ1 2) (#[.int .i64 x1, .int .i64 x2]) 44 :: bx (γ1 1) (#[.int .i64 now2, .slice p2 n2 cap2]) 24 :: bx (γ1 0) (#[.int .i64 now, .slice p n cap]) 24 :: (Yo ++ (Y503 ++ (Y17 ++ [])))) (fun ⟨j, Yo, po, nu, co⟩ => j ≤ n ∧ nu ≤ j ∧ SlO 3 Yo po nu co ([] : List Int)) (fun ⟨j, Yo, po, nu, co⟩ => n - j) (0, [], none, 0, 0) (by kernel_rfl) rfl ⟨Nat.zero_le _, Nat.le_refl _, SlO.nil⟩ ?_))))))))))))
    rintro ⟨j, Yo, po, nu, co⟩
    rintro ⟨hj, hnu, hO⟩
    refine sq_ ?_
    by_cases q629 : ((j : Nat) : Int) < ((n : Nat) : Int)
    ·
     refine qa [(0, .yes)] [3, 5, 7, 9, 65, 66, 67] [(68, .bool true)] ([((j : Nat) : Int) < ((n : Nat) : Int)]) (al1 q629) (ds_ (sq_ (t_ (at_skip (ds_ (sq_ (at_block (sq_ ?_))))))))
     obtain ⟨b632, o632, rfl⟩ := hts.pos (i := j) (by omega)
     obtain ⟨x634, hx634⟩ := get_some (l := ts) (m := j) (by omega)
     refine ma [(0, .at b632 o632 j), (1, .go (outs b632 (o632 + j * 2) [.int .i64 x634.id, .int .i64 x634.due])), (3, .go (owns 0 0 2))] [3, 5, 7, 9, 65, 66, 67] (fun γ635 => [(11, .pointer (some ⟨γ635 0, 0, none⟩))]) (fun γ635 L => bx (γ635 0) (#[.int .i64 x634.id, .int .i64 x634.due]) 33 :: L) (fun γ635 => [(some ⟨b632, o632, none⟩ : Option Addr) = some ⟨b632, o632, none⟩, ((j : Nat)) = ((j : Nat) : Int), j < n] ++ (cellsP w b632 (o632 + j * 2) [.int .i64 x634.id, .int .i64 x634.due])) (fun γ635 => (alA (al2 rfl (al2 rfl (al1 (by omega)))) (rd_pre (hts.get hx634) _ rfl))) (fun γ635 => ds_ (sq_ (ao_ (qo0 3 [(0, .go (owns 3 0 2)), (2, .go (owns 0 0 1))] [3, 5, 7, 9, 11, 65, 66, 67] [(72, .agg #[.int .i64 now, .slice (some ⟨b632, o632, none⟩) n cap]), (74, .int .i64 x634.id)] (cD (.tuple #[.int .i64 0, .int .i64 0, .bool false]) Try.call21 (fun w hw => by have := wplace_t now (some ⟨b632, o632, none⟩) n cap ts x634.id w (hts.kept hw.below) hn (by omega); rw [plO_bad q14] at this; exact this) (qo0 7 [] [3, 5, 7, 9, 11, 65, 66, 67] [(12, .int .i64 0), (13, .int .i64 0), (14, .bool false)] (on_ (ds_ (sq_ (sq_ (qa0 [] [3, 5, 7, 9, 11, 12, 13, 14, 65, 66, 67] [(80, .bool true)] (ds_ (t_ (sq_ (sq_ (qa0 [] [3, 5, 7, 9, 65, 66, 67] [(89, .bool false)] (ds_ (f_ (at_skip (ds_ (at_leave _ rfl (ds_ (qa [(0, .fit)] [3, 5, 7, 9, 65, 66] [(67, .int .i64 ((j + 1 : Nat)))] ([Fit .i64 ((j + 1 : Nat))]) (al1 (fit64 (by omega) (by omega))) (Done.pick [[bx (γ635 0) (#[.int .i64 x634.id, .int .i64 x634.due]) 33], [bx (γ1 2) (#[.int .i64 x1, .int .i64 x2]) 44], [bx (γ1 1) (#[.int .i64 now2, .slice p2 n2 cap2]) 24], [bx (γ1 0) (#[.int .i64 now, .slice (some ⟨b632, o632, none⟩) n cap]) 24], Yo, Y503, Y17] [1, 2, 3, 4, 5, 6] [0] (bx (γ1 2) (#[.int .i64 x1, .int .i64 x2]) 44 :: bx (γ1 1) (#[.int .i64 now2, .slice p2 n2 cap2]) 24 :: bx (γ1 0) (#[.int .i64 now, .slice (some ⟨b632, o632, none⟩) n cap]) 24 :: (Yo ++ (Y503 ++ (Y17 ++ [])))) (by kernel_rfl) rfl rfl ?_))))))))))))))))))))))))
     exact dr [3, 5, 7, 9, 65, 66, 67] (j + 1, Yo, po, nu, co) ⟨by omega, by omega, hO⟩
    ·
     refine qa [(0, .no)] [3, 5, 7, 9, 65, 66, 67] [(68, .bool false)] ([¬ (((j : Nat) : Int) < ((n : Nat) : Int))]) (al1 q629) (ds_ (sq_ (f_ (at_leave _ rfl (ds_ (sq_ (ao_ (qo0 5 [(0, .go (owns 2 0 2)), (2, .go (owns 0 0 1)), (4, .go (owns 0 1 1))] [9] [(126, .agg #[.int .i64 now, .slice p n cap]), (128, .int .i64 x1), (130, .int .i64 x2)] (cP (fun v L' => ∃ q_ m_ c_ Y_, v = .slice q_ m_ c_ ∧ L' = List.take 3 (bx (γ1 2) (#[.int .i64 x1, .int .i64 x2]) 44 :: bx (γ1 1) (#[.int .i64 now2, .slice p2 n2 cap2]) 24 :: bx (γ1 0) (#[.int .i64 now, .slice p n cap]) 24 :: (Yo ++ (Y503 ++ (Y17 ++ [])))) ++ (Y_ ++ List.drop 3 (bx (γ1 2) (#[.int .i64 x1, .int .i64 x2]) 44 :: bx (γ1 1) (#[.int .i64 now2, .slice p2 n2 cap2]) 24 :: bx (γ1 0) (#[.int .i64 now, .slice p n cap]) 24 :: (Yo ++ (Y503 ++ (Y17 ++ []))))) ∧ SlO 3 Y_ q_ m_ c_ ([] : List Int)) Try.call23 (fun w hw => by have := slot_t now p n cap ts x1 x2 w (hts.kept hw.below) hn (by omega); rw [if_neg (by rw [q14]; decide)] at this; exact this.mono fun e w' ⟨q_, m_, c_, Y_, he, hO, hm, hb, hY⟩ => ⟨_, _, he, ⟨q_, m_, c_, Y_, rfl, rfl, hO⟩, hw.join hb hY 3⟩) ?_)))))))))
     rintro v643 L643 ⟨q643, m643, cq643, Y643, rfl, rfl, hO643⟩
     have hm643 := hO643.len
     have hnO := hO.len
     refine qo0 1 [] [9] [(17, .slice q643 m643 cq643)] (on_ (ds_ (sq_ (sq_ ?_))))
     by_cases q646 : ((m643 : Nat) : Int) ≠ ((nu : Nat) : Int)
     ·
      refine qa [(4, .yes)] [9, 17] [(136, .bool true)] ([((m643 : Nat) : Int) ≠ ((nu : Nat) : Int)]) (al1 q646) (ds_ (t_ (sq_ (qa0 [] [] [(6, .bool false)] (ds_ (rt ([]) (.bool false) ?_))))))
      exfalso; first | omega | (simp only [List.length_nil] at *; omega)
     ·
      refine qa [(4, .no)] [9, 17] [(136, .bool false)] ([¬ (((m643 : Nat) : Int) ≠ ((nu : Nat) : Int))]) (al1 q646) (ds_ (f_ (at_skip (ds_ (sq_ (sq_ (qa0 [] [9, 17] [(138, .int .i64 ((m643 : Nat))), (139, .int .i64 0)] (ds_ (at_block (at_loop (α := Nat) [9, 17, 138, 139] (fun i => [(9, .slice po nu co), (17, .slice q643 m643 cq643), (138, .int .i64 ((m643 : Nat))), (139, .int .i64 ((i : Nat)))]) (fun i => bx (γ1 2) (#[.int .i64 x1, .int .i64 x2]) 44 :: bx (γ1 1) (#[.int .i64 now2, .slice p2 n2 cap2]) 24 :: bx (γ1 0) (#[.int .i64 now, .slice p n cap]) 24 :: (Y643 ++ (Yo ++ (Y503 ++ (Y17 ++ []))))) (fun i => i ≤ m643) (fun i => m643 - i) 0 (by kernel_rfl) rfl (Nat.zero_le _) ?_))))))))))
      rintro i
      rintro hi
      refine sq_ ?_
      by_cases q652 : ((i : Nat) : Int) < ((m643 : Nat) : Int)
      ·
       refine qa [(0, .yes)] [9, 17, 138, 139] [(140, .bool true)] ([((i : Nat) : Int) < ((m643 : Nat) : Int)]) (al1 q652) (ds_ (sq_ (t_ (at_skip (ds_ (sq_ (at_block (sq_ (qa0 [] [9, 17, 138, 139] [(18, .int .i64 ((i : Nat)))] (ds_ (sq_ ?_)))))))))))
       have hln656 := hO643.len
       obtain ⟨g656, cs656, rfl, rfl, hOw656⟩ := hO643.rowOf (i := i) (by omega)
       obtain ⟨x658, hx658⟩ := get_some (l := ([] : List Int)) (m := i) (by omega)
       have hln660 := hO.len
       obtain ⟨g660, cs660, rfl, rfl, hOw660⟩ := hO.rowOf (i := i) (by omega)
       refine cq [(2, .at g656 0 i), (3, .go (ownps 3 (0 + i * 1) [.int .i64 x658])), (6, .at g660 0 i), (7, .go (ownps 4 (0 + i * 1) [.int .i64 x658])), (8, .no)] [9, 17, 138, 139] [(150, .bool false)] ([(some ⟨g656, 0, none⟩ : Option Addr) = some ⟨g656, 0, none⟩, ((i : Nat)) = ((i : Nat) : Int), i < m643] ++ (acellsP cs656 (0 + i * 1) [.int .i64 x658] ++ ([(some ⟨g660, 0, none⟩ : Option Addr) = some ⟨g660, 0, none⟩, ((i : Nat)) = ((i : Nat) : Int), i < nu] ++ (acellsP cs660 (0 + i * 1) [.int .i64 x658] ++ ([¬ ((x658 : Int) ≠ (x658 : Int))]))))) rfl (by kernel_rfl) (by kernel_rfl) (by kernel_rfl) (alA (al2 rfl (al2 rfl (al1 (by omega)))) (alA (rda_pre ((hOw656.rdx hO643.len hx658)) _ rfl) (alA (al2 rfl (al2 rfl (al1 (by omega)))) (alA (rda_pre ((hOw660.rdx hO.len hx658)) _ rfl) (al1 ((fun h => h rfl))))))) (ds_ (f_ (at_skip (done_block (ds_ (qa [(0, .fit)] [9, 17, 138] [(139, .int .i64 ((i + 1 : Nat)))] ([Fit .i64 ((i + 1 : Nat))]) (al1 (fit64 (by omega) (by omega))) ?_))))))
       exact done_round [9, 17, 138, 139] (i + 1) (by kernel_rfl) rfl (by omega) (by first | omega | (simp only; omega))
      ·
       refine qa [(0, .no)] [9, 17, 138, 139] [(140, .bool false)] ([¬ (((i : Nat) : Int) < ((m643 : Nat) : Int))]) (al1 q652) (ds_ (sq_ (f_ (at_leave _ rfl (ds_ (sq_ (qa0 [] [] [(6, .bool true)] (ds_ (rt ([]) (.bool true) ?_)))))))))
       exact fun w' hw => ⟨rfl, hw.below⟩
   ·
    refine cD (.bool true) Try.call17 (fun w hw => by have := rright_t now p n cap ts w (hts.kept hw.below) hn (by omega); rw [q14] at this; exact this) (qo0 1 [] [3, 4, 5] [(7, .bool true)] (on_ (ds_ (sq_ (ao_ (qo0 1 [(0, .go (owns 2 0 2))] [3, 4, 5, 7] [(33, .agg #[.int .i64 now, .slice p n cap])] (cP (fun v L' => ∃ q_ c_ Y_, v = .agg #[.int .i64 now, .slice q_ n c_] ∧ L' = List.take 3 ([bx (γ1 2) (#[.int .i64 x1, .int .i64 x2]) 44, bx (γ1 1) (#[.int .i64 now2, .slice p2 n2 cap2]) 24, bx (γ1 0) (#[.int .i64 now, .slice p n cap]) 24]) ++ (Y_ ++ List.drop 3 ([bx (γ1 2) (#[.int .i64 x1, .int .i64 x2]) 44, bx (γ1 1) (#[.int .i64 now2, .slice p2 n2 cap2]) 24, bx (γ1 0) (#[.int .i64 now, .slice p n cap]) 24])) ∧ SlO 33 Y_ q_ n c_ ts) Try.call12 (fun w hw => (copied_t now p n cap ts w (hts.kept hw.below) hn (by omega)).mono fun e w' ⟨q_, c_, Y_, he, hO, hb, hY⟩ => ⟨_, _, he, ⟨q_, c_, Y_, rfl, rfl, hO⟩, hw.join hb hY 3⟩) ?_)))))))
    rintro v667 L667 ⟨q667, cq667, Y667, rfl, rfl, hO667⟩
    refine cD (.int .i64 0) Try.call10 (fun w hw => by have := wcheck_t now q667 n cq667 ts w (hO667.atN (A := [_, _, _]) hw) hO667.len (by omega); rw [q14] at this; exact this) (qo0 1 [] [3, 4, 5, 7] [(8, .int .i64 0)] (on_ (ds_ (sq_ (sq_ ?_)))))
    refine at_any (by kernel_rfl) ?_
    refine tk (m := 15) [0, 1, 2, 3, 4, 5, 6, 7, 8, 9, 10, 11, 12] [(3, .eqs false)] [3, 4, 5, 7] [(48, .bool false)] ([EqRun Try.prog .neq 4 (.tmp 36) (.tmp 38) (.bool true) (.bool true) false]) #[true, true, true, true, true, true, true, true, true, true, true, true, true, false, false, false, false, false, false, false, false, false, false, false, false, false, false, false] (al1 (bool_ne true true)) ?_
    refine any_cutX (V := (List Ob) × (Nat) × (Option Addr)) (fun ⟨Y1153, cq1153, q1153⟩ => SlO 33 Y1153 q1153 n cq1153 ts) 0 #[true, true, true, true, true, true, true, true, true, true, true, true, true, true, true, true, true, true, true, true, true, true, true, true, true, true, true, true] (fun ⟨Y1153, cq1153, q1153⟩ => [(3, .pointer (some ⟨γ1 0, 0, none⟩)), (5, .pointer (some ⟨γ1 2, 0, none⟩)), (7, .bool true), (63, .bool false)]) (fun ⟨Y1153, cq1153, q1153⟩ => bx (γ1 2) (#[.int .i64 x1, .int .i64 x2]) 44 :: bx (γ1 1) (#[.int .i64 now2, .slice p2 n2 cap2]) 24 :: bx (γ1 0) (#[.int .i64 now, .slice p n cap]) 24 :: (Y1153 ++ (Y667 ++ []))) ?_ (fun hmx26 => ?_)
    rotate_left
    ·
     refine any_cutX (V := (List Ob) × (Nat) × (Option Addr)) (fun ⟨Y1153, cq1153, q1153⟩ => SlO 33 Y1153 q1153 n cq1153 ts) 3 #[true, true, true, true, true, true, true, true, true, true, true, true, true, true, true, true, true, true, true, true, true, true, true, true, true, false, false, false] (fun ⟨Y1153, cq1153, q1153⟩ => [(3, .pointer (some ⟨γ1 0, 0, none⟩)), (5, .pointer (some ⟨γ1 2, 0, none⟩)), (7, .bool true), (57, .bool false), (58, .agg #[.int .i64 now, .slice p n cap]), (60, .agg #[.int .i64 now, .slice q1153 n cq1153])]) (fun ⟨Y1153, cq1153, q1153⟩ => bx (γ1 2) (#[.int .i64 x1, .int .i64 x2]) 44 :: bx (γ1 1) (#[.int .i64 now2, .slice p2 n2 cap2]) 24 :: bx (γ1 0) (#[.int .i64 now, .slice p n cap]) 24 :: (Y1153 ++ (Y667 ++ []))) ?_ (fun hmx25 => ?_)
     ·
      rintro ⟨Y1153, cq1153, q1153⟩ hO1153
      refine a1 25 rfl ?_
      refine cD (.bool true) Try.call20 (fun w hw => by have := same_t now p n cap ts now q1153 n cq1153 ts w (hts.kept hw.below) hn (by omega) (hO1153.atN (A := [_, _, _]) hw) hO1153.len (by omega); rw [sameW_refl] at this; exact this) ?_
      refine od_ ?_
      refine tk (m := 0) [26, 27] [] [3, 5, 7] [(63, .bool false)] ([]) #[true, true, true, true, true, true, true, true, true, true, true, true, true, true, true, true, true, true, true, true, true, true, true, true, true, true, true, true] al0 ?_
      exact wk (hmx26 (Y1153, cq1153, q1153) hO1153) [3, 5, 7, 63] [[_], [_], [_], _, _] [0, 1, 2, 3, 4] rfl rfl
     refine any_cutX (V := (List Ob) × (Nat) × (Option Addr)) (fun ⟨Y1153, cq1153, q1153⟩ => SlO 33 Y1153 q1153 n cq1153 ts) 4 #[true, true, true, true, true, true, true, true, true, true, true, true, true, true, true, true, true, true, true, true, true, true, false, true, true, false, false, false] (fun ⟨Y1153, cq1153, q1153⟩ => [(3, .pointer (some ⟨γ1 0, 0, none⟩)), (5, .pointer (some ⟨γ1 2, 0, none⟩)), (7, .bool true), (57, .bool false), (60, .agg #[.int .i64 now, .slice q1153 n cq1153])]) (fun ⟨Y1153, cq1153, q1153⟩ => bx (γ1 2) (#[.int .i64 x1, .int .i64 x2]) 44 :: bx (γ1 1) (#[.int .i64 now2, .slice p2 n2 cap2]) 24 :: bx (γ1 0) (#[.int .i64 now, .slice p n cap]) 24 :: (Y1153 ++ (Y667 ++ []))) ?_ (fun hmx24 => ?_)
     ·
      rintro ⟨Y1153, cq1153, q1153⟩ hO1153
      refine a1 22 rfl ?_
      refine qo0 1 [(22, .go (owns 2 0 2))] [3, 5, 7, 57, 60] [(58, .agg #[.int .i64 now, .slice p n cap])] ?_
      refine od_ ?_
      exact wk (hmx25 (Y1153, cq1153, q1153) hO1153) [3, 5, 7, 57, 58, 60] [[_], [_], [_], _, _] [0, 1, 2, 3, 4] rfl rfl
     refine any_cutX (V := Unit) (fun _ => True) 4 #[true, true, true, true, true, true, true, true, true, true, true, true, true, true, true, true, true, true, true, true, true, true, true, true, false, false, false, false] (fun _ => [(3, .pointer (some ⟨γ1 0, 0, none⟩)), (5, .pointer (some ⟨γ1 2, 0, none⟩)), (7, .bool true), (57, .bool false), (58, .agg #[.int .i64 now, .slice p n cap]), (59, .agg #[.int .i64 now, .slice p n cap])]) (fun _ => bx (γ1 2) (#[.int .i64 x1, .int .i64 x2]) 44 :: bx (γ1 1) (#[.int .i64 now2, .slice p2 n2 cap2]) 24 :: bx (γ1 0) (#[.int .i64 now, .slice p n cap]) 24 :: (Y667 ++ [])) ?_ (fun hmx23 => ?_)
     ·
      rintro _ _
      refine a1 24 rfl ?_
      refine cP (fun v L' => ∃ q_ c_ Y_, v = .agg #[.int .i64 now, .slice q_ n c_] ∧ L' = List.take 3 (bx (γ1 2) (#[.int .i64 x1, .int .i64 x2]) 44 :: bx (γ1 1) (#[.int .i64 now2, .slice p2 n2 cap2]) 24 :: bx (γ1 0) (#[.int .i64 now, .slice p n cap]) 24 :: (Y667 ++ [])) ++ (Y_ ++ List.drop 3 (bx (γ1 2) (#[.int .i64 x1, .int .i64 x2]) 44 :: bx (γ1 1) (#[.int .i64 now2, .slice p2 n2 cap2]) 24 :: bx (γ1 0) (#[.int .i64 now, .slice p n cap]) 24 :: (Y667 ++ []))) ∧ SlO 33 Y_ q_ n c_ ts) Try.call12 (fun w hw => (copied_t now p n cap ts w (hts.kept hw.below) hn (by omega)).mono fun e w' ⟨q_, c_, Y_, he, hO, hb, hY⟩ => ⟨_, _, he, ⟨q_, c_, Y_, rfl, rfl, hO⟩, hw.join hb hY 3⟩) ?_
      rintro v1153 L1153 ⟨q1153, cq1153, Y1153, rfl, rfl, hO1153⟩
      refine od_ ?_
      exact wk (hmx25 (Y1153, cq1153, q1153) hO1153) [3, 5, 7, 57, 58, 60] [[_], [_], [_], _, _] [0, 1, 2, 3, 4] rfl rfl
     refine any_cutX (V := Unit) (fun _ => True) 5 #[true, true, true, true, true, true, true, true, true, true, true, true, true, true, true, true, true, true, true, true, true, true, false, true, false, false, false, false] (fun _ => [(3, .pointer (some ⟨γ1 0, 0, none⟩)), (5, .pointer (some ⟨γ1 2, 0, none⟩)), (7, .bool true), (57, .bool false), (59, .agg #[.int .i64 now, .slice p n cap])]) (fun _ => bx (γ1 2) (#[.int .i64 x1, .int .i64 x2]) 44 :: bx (γ1 1) (#[.int .i64 now2, .slice p2 n2 cap2]) 24 :: bx (γ1 0) (#[.int .i64 now, .slice p n cap]) 24 :: (Y667 ++ [])) ?_ (fun hmx22 => ?_)
     ·
      rintro _ _
      refine any_fork [22, 24] (by kernel_rfl) (by simp) (each_cons _ rfl ?_ (each_cons _ rfl ?_ (each_nil)))
      ·
       refine qo0 1 [(22, .go (owns 2 0 2))] [3, 5, 7, 57, 59] [(58, .agg #[.int .i64 now, .slice p n cap])] ?_
       refine od_ ?_
       exact wk (hmx23 () trivial) [3, 5, 7, 57, 58, 59] [[_], [_], [_], _] [0, 1, 2, 3] rfl rfl
      ·
       refine cP (fun v L' => ∃ q_ c_ Y_, v = .agg #[.int .i64 now, .slice q_ n c_] ∧ L' = List.take 3 (bx (γ1 2) (#[.int .i64 x1, .int .i64 x2]) 44 :: bx (γ1 1) (#[.int .i64 now2, .slice p2 n2 cap2]) 24 :: bx (γ1 0) (#[.int .i64 now, .slice p n cap]) 24 :: (Y667 ++ [])) ++ (Y_ ++ List.drop 3 (bx (γ1 2) (#[.int .i64 x1, .int .i64 x2]) 44 :: bx (γ1 1) (#[.int .i64 now2, .slice p2 n2 cap2]) 24 :: bx (γ1 0) (#[.int .i64 now, .slice p n cap]) 24 :: (Y667 ++ []))) ∧ SlO 33 Y_ q_ n c_ ts) Try.call12 (fun w hw => (copied_t now p n cap ts w (hts.kept hw.below) hn (by omega)).mono fun e w' ⟨q_, c_, Y_, he, hO, hb, hY⟩ => ⟨_, _, he, ⟨q_, c_, Y_, rfl, rfl, hO⟩, hw.join hb hY 3⟩) ?_
       rintro v1153 L1153 ⟨q1153, cq1153, Y1153, rfl, rfl, hO1153⟩
       refine od_ ?_
       exact wk (hmx24 (Y1153, cq1153, q1153) hO1153) [3, 5, 7, 57, 60] [[_], [_], [_], _, _] [0, 1, 2, 3, 4] rfl rfl
     refine any_cutX (V := Unit) (fun _ => True) 5 #[true, true, true, true, true, true, true, true, true, true, true, true, true, true, true, true, true, true, true, true, true, true, true, false, false, false, false, false] (fun _ => [(3, .pointer (some ⟨γ1 0, 0, none⟩)), (5, .pointer (some ⟨γ1 2, 0, none⟩)), (7, .bool true), (57, .bool false), (58, .agg #[.int .i64 now, .slice p n cap])]) (fun _ => bx (γ1 2) (#[.int .i64 x1, .int .i64 x2]) 44 :: bx (γ1 1) (#[.int .i64 now2, .slice p2 n2 cap2]) 24 :: bx (γ1 0) (#[.int .i64 now, .slice p n cap]) 24 :: (Y667 ++ [])) ?_ (fun hmx21 => ?_)
     ·
      rintro _ _
      refine a1 23 rfl ?_
      refine qo0 1 [(23, .go (owns 2 0 2))] [3, 5, 7, 57, 58] [(59, .agg #[.int .i64 now, .slice p n cap])] ?_
      refine od_ ?_
      exact wk (hmx23 () trivial) [3, 5, 7, 57, 58, 59] [[_], [_], [_], _] [0, 1, 2, 3] rfl rfl
     refine any_cutX (V := Unit) (fun _ => True) 6 #[true, true, true, true, true, true, true, true, true, true, true, true, true, true, true, true, true, true, true, true, true, true, false, false, false, false, false, false] (fun _ => [(3, .pointer (some ⟨γ1 0, 0, none⟩)), (5, .pointer (some ⟨γ1 2, 0, none⟩)), (7, .bool true), (57, .bool false)]) (fun _ => bx (γ1 2) (#[.int .i64 x1, .int .i64 x2]) 44 :: bx (γ1 1) (#[.int .i64 now2, .slice p2 n2 cap2]) 24 :: bx (γ1 0) (#[.int .i64 now, .slice p n cap]) 24 :: (Y667 ++ [])) ?_ (fun hmx20 => ?_)
     ·
      rintro _ _
      refine any_fork [22, 23] (by kernel_rfl) (by simp) (each_cons _ rfl ?_ (each_cons _ rfl ?_ (each_nil)))
      ·
       refine qo0 1 [(22, .go (owns 2 0 2))] [3, 5, 7, 57] [(58, .agg #[.int .i64 now, .slice p n cap])] ?_
       refine od_ ?_
       exact wk (hmx21 () trivial) [3, 5, 7, 57, 58] [[_], [_], [_], _] [0, 1, 2, 3] rfl rfl
      ·
       refine qo0 1 [(23, .go (owns 2 0 2))] [3, 5, 7, 57] [(59, .agg #[.int .i64 now, .slice p n cap])] ?_
       refine od_ ?_
       exact wk (hmx22 () trivial) [3, 5, 7, 57, 59] [[_], [_], [_], _] [0, 1, 2, 3] rfl rfl
     refine any_cutX (V := Unit) (fun _ => True) 10 #[true, true, true, true, true, true, true, true, true, true, true, true, true, true, true, true, true, true, false, false, false, false, false, false, false, false, false, false] (fun _ => [(3, .pointer (some ⟨γ1 0, 0, none⟩)), (5, .pointer (some ⟨γ1 2, 0, none⟩)), (7, .bool true), (48, .bool false), (51, .bool (sameW now ts now2 ts2)), (52, .agg #[.int .i64 now, .slice p n cap]), (53, .agg #[.int .i64 now2, .slice p2 n2 cap2])]) (fun _ => bx (γ1 2) (#[.int .i64 x1, .int .i64 x2]) 44 :: bx (γ1 1) (#[.int .i64 now2, .slice p2 n2 cap2]) 24 :: bx (γ1 0) (#[.int .i64 now, .slice p n cap]) 24 :: (Y667 ++ [])) ?_ (fun hmx19 => ?_)
     ·
      rintro _ _
      refine a1 18 rfl ?_
      refine cD (.bool (sameW now ts now2 ts2)) Try.call16 (fun w hw => by have := rsame_t now p n cap ts now2 p2 n2 cap2 ts2 w (hts.kept hw.below) hn (by omega) (hts2.kept hw.below) hn2 (by omega); exact this) ?_
      refine od_ ?_
      refine tk (m := 6) [19, 20, 21] [(19, .eqs false)] [3, 5, 7] [(57, .bool false)] ([EqRun Try.prog .neq 4 (.tmp 51) (.tmp 54) (.bool (sameW now ts now2 ts2)) (.bool (sameW now ts now2 ts2)) false]) #[true, true, true, true, true, true, true, true, true, true, true, true, true, true, true, true, true, true, true, true, true, true, false, false, false, false, false, false] (al1 (bool_same _)) ?_
      exact wk (hmx20 () trivial) [3, 5, 7, 57] [[_], [_], [_], _] [0, 1, 2, 3] rfl rfl
     refine any_cutX (V := Unit) (fun _ => True) 11 #[true, true, true, true, true, true, true, true, true, true, true, true, true, true, true, false, true, true, false, false, false, false, false, false, false, false, false, false] (fun _ => [(3, .pointer (some ⟨γ1 0, 0, none⟩)), (5, .pointer (some ⟨γ1 2, 0, none⟩)), (7, .bool true), (48, .bool false), (49, .agg #[.int .i64 now, .slice p n cap]), (50, .agg #[.int .i64 now2, .slice p2 n2 cap2]), (52, .agg #[.int .i64 now, .slice p n cap]), (53, .agg #[.int .i64 now2, .slice p2 n2 cap2])]) (fun _ => bx (γ1 2) (#[.int .i64 x1, .int .i64 x2]) 44 :: bx (γ1 1) (#[.int .i64 now2, .slice p2 n2 cap2]) 24 :: bx (γ1 0) (#[.int .i64 now, .slice p n cap]) 24 :: (Y667 ++ [])) ?_ (fun hmx18 => ?_)
     ·
      rintro _ _
      refine a1 15 rfl ?_
      refine cD (.bool (sameW now ts now2 ts2)) Try.call20 (fun w hw => by have := same_t now p n cap ts now2 p2 n2 cap2 ts2 w (hts.kept hw.below) hn (by omega) (hts2.kept hw.below) hn2 (by omega); exact this) ?_
      refine od_ ?_
      exact wk (hmx19 () trivial) [3, 5, 7, 48, 51, 52, 53] [[_], [_], [_], _] [0, 1, 2, 3] rfl rfl
     refine any_cutX (V := Unit) (fun _ => True) 11 #[true, true, true, true, true, true, true, true, true, true, true, true, true, true, true, true, false, true, false, false, false, false, false, false, false, false, false, false] (fun _ => [(3, .pointer (some ⟨γ1 0, 0, none⟩)), (5, .pointer (some ⟨γ1 2, 0, none⟩)), (7, .bool true), (48, .bool false), (51, .bool (sameW now ts now2 ts2)), (53, .agg #[.int .i64 now2, .slice p2 n2 cap2])]) (fun _ => bx (γ1 2) (#[.int .i64 x1, .int .i64 x2]) 44 :: bx (γ1 1) (#[.int .i64 now2, .slice p2 n2 cap2]) 24 :: bx (γ1 0) (#[.int .i64 now, .slice p n cap]) 24 :: (Y667 ++ [])) ?_ (fun hmx17 => ?_)
     ·
      rintro _ _
      refine a1 16 rfl ?_
      refine qo0 1 [(16, .go (owns 2 0 2))] [3, 5, 7, 48, 51, 53] [(52, .agg #[.int .i64 now, .slice p n cap])] ?_
      refine od_ ?_
      exact wk (hmx19 () trivial) [3, 5, 7, 48, 51, 52, 53] [[_], [_], [_], _] [0, 1, 2, 3] rfl rfl
     refine any_cutX (V := Unit) (fun _ => True) 11 #[true, true, true, true, true, true, true, true, true, true, true, true, true, true, true, true, true, false, false, false, false, false, false, false, false, false, false, false] (fun _ => [(3, .pointer (some ⟨γ1 0, 0, none⟩)), (4, .pointer (some ⟨γ1 1, 0, none⟩)), (5, .pointer (some ⟨γ1 2, 0, none⟩)), (7, .bool true), (48, .bool false), (51, .bool (sameW now ts now2 ts2)), (52, .agg #[.int .i64 now, .slice p n cap])]) (fun _ => bx (γ1 2) (#[.int .i64 x1, .int .i64 x2]) 44 :: bx (γ1 1) (#[.int .i64 now2, .slice p2 n2 cap2]) 24 :: bx (γ1 0) (#[.int .i64 now, .slice p n cap]) 24 :: (Y667 ++ [])) ?_ (fun hmx16 => ?_)
     ·
      rintro _ _
      refine a1 17 rfl ?_
      refine qo0 1 [(17, .go (owns 1 0 2))] [3, 5, 7, 48, 51, 52] [(53, .agg #[.int .i64 now2, .slice p2 n2 cap2])] ?_
      refine od_ ?_
      exact wk (hmx19 () trivial) [3, 5, 7, 48, 51, 52, 53] [[_], [_], [_], _] [0, 1, 2, 3] rfl rfl
     refine any_cutX (V := Unit) (fun _ => True) 12 #[true, true, true, true, true, true, true, true, true, true, true, true, true, false, true, false, true, true, false, false, false, false, false, false, false, false, false, false] (fun _ => [(3, .pointer (some ⟨γ1 0, 0, none⟩)), (5, .pointer (some ⟨γ1 2, 0, none⟩)), (7, .bool true), (48, .bool false), (50, .agg #[.int .i64 now2, .slice p2 n2 cap2]), (52, .agg #[.int .i64 now, .slice p n cap]), (53, .agg #[.int .i64 now2, .slice p2 n2 cap2])]) (fun _ => bx (γ1 2) (#[.int .i64 x1, .int .i64 x2]) 44 :: bx (γ1 1) (#[.int .i64 now2, .slice p2 n2 cap2]) 24 :: bx (γ1 0) (#[.int .i64 now, .slice p n cap]) 24 :: (Y667 ++ [])) ?_ (fun hmx15 => ?_)
     ·
      rintro _ _
      refine a1 13 rfl ?_
      refine qo0 1 [(13, .go (owns 2 0 2))] [3, 5, 7, 48, 50, 52, 53] [(49, .agg #[.int .i64 now, .slice p n cap])] ?_
      refine od_ ?_
      exact wk (hmx18 () trivial) [3, 5, 7, 48, 49, 50, 52, 53] [[_], [_], [_], _] [0, 1, 2, 3] rfl rfl
     refine any_cutX (V := Unit) (fun _ => True) 12 #[true, true, true, true, true, true, true, true, true, true, true, true, true, true, false, false, true, true, false, false, false, false, false, false, false, false, false, false] (fun _ => [(3, .pointer (some ⟨γ1 0, 0, none⟩)), (4, .pointer (some ⟨γ1 1, 0, none⟩)), (5, .pointer (some ⟨γ1 2, 0, none⟩)), (7, .bool true), (48, .bool false), (49, .agg #[.int .i64 now, .slice p n cap]), (52, .agg #[.int .i64 now, .slice p n cap]), (53, .agg #[.int .i64 now2, .slice p2 n2 cap2])]) (fun _ => bx (γ1 2) (#[.int .i64 x1, .int .i64 x2]) 44 :: bx (γ1 1) (#[.int .i64 now2, .slice p2 n2 cap2]) 24 :: bx (γ1 0) (#[.int .i64 now, .slice p n cap]) 24 :: (Y667 ++ [])) ?_ (fun hmx14 => ?_)
     ·
      rintro _ _
      refine a1 14 rfl ?_
      refine qo0 1 [(14, .go (owns 1 0 2))] [3, 5, 7, 48, 49, 52, 53] [(50, .agg #[.int .i64 now2, .slice p2 n2 cap2])] ?_
      refine od_ ?_
      exact wk (hmx18 () trivial) [3, 5, 7, 48, 49, 50, 52, 53] [[_], [_], [_], _] [0, 1, 2, 3] rfl rfl
     refine any_cutX (V := Unit) (fun _ => True) 12 #[true, true, true, true, true, true, true, true, true, true, true, true, true, true, true, false, false, true, false, false, false, false, false, false, false, false, false, false] (fun _ => [(3, .pointer (some ⟨γ1 0, 0, none⟩)), (5, .pointer (some ⟨γ1 2, 0, none⟩)), (7, .bool true), (48, .bool false), (49, .agg #[.int .i64 now, .slice p n cap]), (50, .agg #[.int .i64 now2, .slice p2 n2 cap2]), (53, .agg #[.int .i64 now2, .slice p2 n2 cap2])]) (fun _ => bx (γ1 2) (#[.int .i64 x1, .int .i64 x2]) 44 :: bx (γ1 1) (#[.int .i64 now2, .slice p2 n2 cap2]) 24 :: bx (γ1 0) (#[.int .i64 now, .slice p n cap]) 24 :: (Y667 ++ [])) ?_ (fun hmx13 => ?_)
     ·
      rintro _ _
      refine any_fork [15, 16] (by kernel_rfl) (by simp) (each_cons _ rfl ?_ (each_cons _ rfl ?_ (each_nil)))
      ·
       refine cD (.bool (sameW now ts now2 ts2)) Try.call20 (fun w hw => by have := same_t now p n cap ts now2 p2 n2 cap2 ts2 w (hts.kept hw.below) hn (by omega) (hts2.kept hw.below) hn2 (by omega); exact this) ?_
       refine od_ ?_
       exact wk (hmx17 () trivial) [3, 5, 7, 48, 51, 53] [[_], [_], [_], _] [0, 1, 2, 3] rfl rfl
      ·
       refine qo0 1 [(16, .go (owns 2 0 2))] [3, 5, 7, 48, 49, 50, 53] [(52, .agg #[.int .i64 now, .slice p n cap])] ?_
       refine od_ ?_
       exact wk (hmx18 () trivial) [3, 5, 7, 48, 49, 50, 52, 53] [[_], [_], [_], _] [0, 1, 2, 3] rfl rfl
     refine any_cutX (V := Unit) (fun _ => True) 12 #[true, true, true, true, true, true, true, true, true, true, true, true, true, true, true, false, true, false, false, false, false, false, false, false, false, false, false, false] (fun _ => [(3, .pointer (some ⟨γ1 0, 0, none⟩)), (4, .pointer (some ⟨γ1 1, 0, none⟩)), (5, .pointer (some ⟨γ1 2, 0, none⟩)), (7, .bool true), (48, .bool false), (49, .agg #[.int .i64 now, .slice p n cap]), (50, .agg #[.int .i64 now2, .slice p2 n2 cap2]), (52, .agg #[.int .i64 now, .slice p n cap])]) (fun _ => bx (γ1 2) (#[.int .i64 x1, .int .i64 x2]) 44 :: bx (γ1 1) (#[.int .i64 now2, .slice p2 n2 cap2]) 24 :: bx (γ1 0) (#[.int .i64 now, .slice p n cap]) 24 :: (Y667 ++ [])) ?_ (fun hmx12 => ?_)
     ·
      rintro _ _
      refine any_fork [15, 17] (by kernel_rfl) (by simp) (each_cons _ rfl ?_ (each_cons _ rfl ?_ (each_nil)))
      ·
       refine cD (.bool (sameW now ts now2 ts2)) Try.call20 (fun w hw => by have := same_t now p n cap ts now2 p2 n2 cap2 ts2 w (hts.kept hw.below) hn (by omega) (hts2.kept hw.below) hn2 (by omega); exact this) ?_
       refine od_ ?_
       exact wk (hmx16 () trivial) [3, 4, 5, 7, 48, 51, 52] [[_], [_], [_], _] [0, 1, 2, 3] rfl rfl
      ·
       refine qo0 1 [(17, .go (owns 1 0 2))] [3, 5, 7, 48, 49, 50, 52] [(53, .agg #[.int .i64 now2, .slice p2 n2 cap2])] ?_
       refine od_ ?_
       exact wk (hmx18 () trivial) [3, 5, 7, 48, 49, 50, 52, 53] [[_], [_], [_], _] [0, 1, 2, 3] rfl rfl
     refine any_cutX (V := Unit) (fun _ => True) 12 #[true, true, true, true, true, true, true, true, true, true, true, true, true, true, true, true, false, false, false, false, false, false, false, false, false, false, false, false] (fun _ => [(3, .pointer (some ⟨γ1 0, 0, none⟩)), (4, .pointer (some ⟨γ1 1, 0, none⟩)), (5, .pointer (some ⟨γ1 2, 0, none⟩)), (7, .bool true), (48, .bool false), (51, .bool (sameW now ts now2 ts2))]) (fun _ => bx (γ1 2) (#[.int .i64 x1, .int .i64 x2]) 44 :: bx (γ1 1) (#[.int .i64 now2, .slice p2 n2 cap2]) 24 :: bx (γ1 0) (#[.int .i64 now, .slice p n cap]) 24 :: (Y667 ++ [])) ?_ (fun hmx11 => ?_)
     ·
      rintro _ _
      refine any_fork [16, 17] (by kernel_rfl) (by simp) (each_cons _ rfl ?_ (each_cons _ rfl ?_ (each_nil)))
      ·
       refine qo0 1 [(16, .go (owns 2 0 2))] [3, 4, 5, 7, 48, 51] [(52, .agg #[.int .i64 now, .slice p n cap])] ?_
       refine od_ ?_
       exact wk (hmx16 () trivial) [3, 4, 5, 7, 48, 51, 52] [[_], [_], [_], _] [0, 1, 2, 3] rfl rfl
      ·
       refine qo0 1 [(17, .go (owns 1 0 2))] [3, 5, 7, 48, 51] [(53, .agg #[.int .i64 now2, .slice p2 n2 cap2])] ?_
       refine od_ ?_
       exact wk (hmx17 () trivial) [3, 5, 7, 48, 51, 53] [[_], [_], [_], _] [0, 1, 2, 3] rfl rfl
     refine any_cutX (V := Unit) (fun _ => True) 13 #[true, true, true, true, true, true, true, true, true, true, true, true, true, false, false, false, true, true, false, false, false, false, false, false, false, false, false, false] (fun _ => [(3, .pointer (some ⟨γ1 0, 0, none⟩)), (4, .pointer (some ⟨γ1 1, 0, none⟩)), (5, .pointer (some ⟨γ1 2, 0, none⟩)), (7, .bool true), (48, .bool false), (52, .agg #[.int .i64 now, .slice p n cap]), (53, .agg #[.int .i64 now2, .slice p2 n2 cap2])]) (fun _ => bx (γ1 2) (#[.int .i64 x1, .int .i64 x2]) 44 :: bx (γ1 1) (#[.int .i64 now2, .slice p2 n2 cap2]) 24 :: bx (γ1 0) (#[.int .i64 now, .slice p n cap]) 24 :: (Y667 ++ [])) ?_ (fun hmx10 => ?_)
     ·
      rintro _ _
      refine any_fork [13, 14] (by kernel_rfl) (by simp) (each_cons _ rfl ?_ (each_cons _ rfl ?_ (each_nil)))
      ·
       refine qo0 1 [(13, .go (owns 2 0 2))] [3, 4, 5, 7, 48, 52, 53] [(49, .agg #[.int .i64 now, .slice p n cap])] ?_
       refine od_ ?_
       exact wk (hmx14 () trivial) [3, 4, 5, 7, 48, 49, 52, 53] [[_], [_], [_], _] [0, 1, 2, 3] rfl rfl
      ·
       refine qo0 1 [(14, .go (owns 1 0 2))] [3, 5, 7, 48, 52, 53] [(50, .agg #[.int .i64 now2, .slice p2 n2 cap2])] ?_
       refine od_ ?_
       exact wk (hmx15 () trivial) [3, 5, 7, 48, 50, 52, 53] [[_], [_], [_], _] [0, 1, 2, 3] rfl rfl
     refine any_cutX (V := Unit) (fun _ => True) 13 #[true, true, true, true, true, true, true, true, true, true, true, true, true, false, true, false, false, true, false, false, false, false, false, false, false, false, false, false] (fun _ => [(3, .pointer (some ⟨γ1 0, 0, none⟩)), (5, .pointer (some ⟨γ1 2, 0, none⟩)), (7, .bool true), (48, .bool false), (50, .agg #[.int .i64 now2, .slice p2 n2 cap2]), (53, .agg #[.int .i64 now2, .slice p2 n2 cap2])]) (fun _ => bx (γ1 2) (#[.int .i64 x1, .int .i64 x2]) 44 :: bx (γ1 1) (#[.int .i64 now2, .slice p2 n2 cap2]) 24 :: bx (γ1 0) (#[.int .i64 now, .slice p n cap]) 24 :: (Y667 ++ [])) ?_ (fun hmx9 => ?_)
     ·
      rintro _ _
      refine any_fork [13, 16] (by kernel_rfl) (by simp) (each_cons _ rfl ?_ (each_cons _ rfl ?_ (each_nil)))
      ·
       refine qo0 1 [(13, .go (owns 2 0 2))] [3, 5, 7, 48, 50, 53] [(49, .agg #[.int .i64 now, .slice p n cap])] ?_
       refine od_ ?_
       exact wk (hmx13 () trivial) [3, 5, 7, 48, 49, 50, 53] [[_], [_], [_], _] [0, 1, 2, 3] rfl rfl
      ·
       refine qo0 1 [(16, .go (owns 2 0 2))] [3, 5, 7, 48, 50, 53] [(52, .agg #[.int .i64 now, .slice p n cap])] ?_
       refine od_ ?_
       exact wk (hmx15 () trivial) [3, 5, 7, 48, 50, 52, 53] [[_], [_], [_], _] [0, 1, 2, 3] rfl rfl
     refine any_cutX (V := Unit) (fun _ => True) 13 #[true, true, true, true, true, true, true, true, true, true, true, true, true, false, true, false, true, false, false, false, false, false, false, false, false, false, false, false] (fun _ => [(3, .pointer (some ⟨γ1 0, 0, none⟩)), (4, .pointer (some ⟨γ1 1, 0, none⟩)), (5, .pointer (some ⟨γ1 2, 0, none⟩)), (7, .bool true), (48, .bool false), (50, .agg #[.int .i64 now2, .slice p2 n2 cap2]), (52, .agg #[.int .i64 now, .slice p n cap])]) (fun _ => bx (γ1 2) (#[.int .i64 x1, .int .i64 x2]) 44 :: bx (γ1 1) (#[.int .i64 now2, .slice p2 n2 cap2]) 24 :: bx (γ1 0) (#[.int .i64 now, .slice p n cap]) 24 :: (Y667 ++ [])) ?_ (fun hmx8 => ?_)
     ·
      rintro _ _
      refine any_fork [13, 17] (by kernel_rfl) (by simp) (each_cons _ rfl ?_ (each_cons _ rfl ?_ (each_nil)))
      ·
       refine qo0 1 [(13, .go (owns 2 0 2))] [3, 4, 5, 7, 48, 50, 52] [(49, .agg #[.int .i64 now, .slice p n cap])] ?_
       refine od_ ?_
       exact wk (hmx12 () trivial) [3, 4, 5, 7, 48, 49, 50, 52] [[_], [_], [_], _] [0, 1, 2, 3] rfl rfl
      ·
       refine qo0 1 [(17, .go (owns 1 0 2))] [3, 5, 7, 48, 50, 52] [(53, .agg #[.int .i64 now2, .slice p2 n2 cap2])] ?_
       refine od_ ?_
       exact wk (hmx15 () trivial) [3, 5, 7, 48, 50, 52, 53] [[_], [_], [_], _] [0, 1, 2, 3] rfl rfl
     refine any_cutX (V := Unit) (fun _ => True) 13 #[true, true, true, true, true, true, true, true, true, true, true, true, true, true, false, false, false, true, false, false, false, false, false, false, false, false, false, false] (fun _ => [(3, .pointer (some ⟨γ1 0, 0, none⟩)), (4, .pointer (some ⟨γ1 1, 0, none⟩)), (5, .pointer (some ⟨γ1 2, 0, none⟩)), (7, .bool true), (48, .bool false), (49, .agg #[.int .i64 now, .slice p n cap]), (53, .agg #[.int .i64 now2, .slice p2 n2 cap2])]) (fun _ => bx (γ1 2) (#[.int .i64 x1, .int .i64 x2]) 44 :: bx (γ1 1) (#[.int .i64 now2, .slice p2 n2 cap2]) 24 :: bx (γ1 0) (#[.int .i64 now, .slice p n cap]) 24 :: (Y667 ++ [])) ?_ (fun hmx7 => ?_)
     ·
      rintro _ _
      refine any_fork [14, 16] (by kernel_rfl) (by simp) (each_cons _ rfl ?_ (each_cons _ rfl ?_ (each_nil)))
      ·
       refine qo0 1 [(14, .go (owns 1 0 2))] [3, 5, 7, 48, 49, 53] [(50, .agg #[.int .i64 now2, .slice p2 n2 cap2])] ?_
       refine od_ ?_
       exact wk (hmx13 () trivial) [3, 5, 7, 48, 49, 50, 53] [[_], [_], [_], _] [0, 1, 2, 3] rfl rfl
      ·
       refine qo0 1 [(16, .go (owns 2 0 2))] [3, 4, 5, 7, 48, 49, 53] [(52, .agg #[.int .i64 now, .slice p n cap])] ?_
       refine od_ ?_
       exact wk (hmx14 () trivial) [3, 4, 5, 7, 48, 49, 52, 53] [[_], [_], [_], _] [0, 1, 2, 3] rfl rfl
     refine any_cutX (V := Unit) (fun _ => True) 13 #[true, true, true, true, true, true, true, true, true, true, true, true, true, true, false, false, true, false, false, false, false, false, false, false, false, false, false, false] (fun _ => [(3, .pointer (some ⟨γ1 0, 0, none⟩)), (4, .pointer (some ⟨γ1 1, 0, none⟩)), (5, .pointer (some ⟨γ1 2, 0, none⟩)), (7, .bool true), (48, .bool false), (49, .agg #[.int .i64 now, .slice p n cap]), (52, .agg #[.int .i64 now, .slice p n cap])]) (fun _ => bx (γ1 2) (#[.int .i64 x1, .int .i64 x2]) 44 :: bx (γ1 1) (#[.int .i64 now2, .slice p2 n2 cap2]) 24 :: bx (γ1 0) (#[.int .i64 now, .slice p n cap]) 24 :: (Y667 ++ [])) ?_ (fun hmx6 => ?_)
     ·
      rintro _ _
      refine any_fork [14, 17] (by kernel_rfl) (by simp) (each_cons _ rfl ?_ (each_cons _ rfl ?_ (each_nil)))
      ·
       refine qo0 1 [(14, .go (owns 1 0 2))] [3, 4, 5, 7, 48, 49, 52] [(50, .agg #[.int .i64 now2, .slice p2 n2 cap2])] ?_
       refine od_ ?_
       exact wk (hmx12 () trivial) [3, 4, 5, 7, 48, 49, 50, 52] [[_], [_], [_], _] [0, 1, 2, 3] rfl rfl
      ·
       refine qo0 1 [(17, .go (owns 1 0 2))] [3, 4, 5, 7, 48, 49, 52] [(53, .agg #[.int .i64 now2, .slice p2 n2 cap2])] ?_
       refine od_ ?_
       exact wk (hmx14 () trivial) [3, 4, 5, 7, 48, 49, 52, 53] [[_], [_], [_], _] [0, 1, 2, 3] rfl rfl
     refine any_cutX (V := Unit) (fun _ => True) 13 #[true, true, true, true, true, true, true, true, true, true, true, true, true, true, true, false, false, false, false, false, false, false, false, false, false, false, false, false] (fun _ => [(3, .pointer (some ⟨γ1 0, 0, none⟩)), (4, .pointer (some ⟨γ1 1, 0, none⟩)), (5, .pointer (some ⟨γ1 2, 0, none⟩)), (7, .bool true), (48, .bool false), (49, .agg #[.int .i64 now, .slice p n cap]), (50, .agg #[.int .i64 now2, .slice p2 n2 cap2])]) (fun _ => bx (γ1 2) (#[.int .i64 x1, .int .i64 x2]) 44 :: bx (γ1 1) (#[.int .i64 now2, .slice p2 n2 cap2]) 24 :: bx (γ1 0) (#[.int .i64 now, .slice p n cap]) 24 :: (Y667 ++ [])) ?_ (fun hmx5 => ?_)
     ·
      rintro _ _
      refine any_fork [15, 16, 17] (by kernel_rfl) (by simp) (each_cons _ rfl ?_ (each_cons _ rfl ?_ (each_cons _ rfl ?_ (each_nil))))
      ·
       refine cD (.bool (sameW now ts now2 ts2)) Try.call20 (fun w hw => by have := same_t now p n cap ts now2 p2 n2 cap2 ts2 w (hts.kept hw.below) hn (by omega) (hts2.kept hw.below) hn2 (by omega); exact this) ?_
       refine od_ ?_
       exact wk (hmx11 () trivial) [3, 4, 5, 7, 48, 51] [[_], [_], [_], _] [0, 1, 2, 3] rfl rfl
      ·
       refine qo0 1 [(16, .go (owns 2 0 2))] [3, 4, 5, 7, 48, 49, 50] [(52, .agg #[.int .i64 now, .slice p n cap])] ?_
       refine od_ ?_
       exact wk (hmx12 () trivial) [3, 4, 5, 7, 48, 49, 50, 52] [[_], [_], [_], _] [0, 1, 2, 3] rfl rfl
      ·
       refine qo0 1 [(17, .go (owns 1 0 2))] [3, 5, 7, 48, 49, 50] [(53, .agg #[.int .i64 now2, .slice p2 n2 cap2])] ?_
       refine od_ ?_
       exact wk (hmx13 () trivial) [3, 5, 7, 48, 49, 50, 53] [[_], [_], [_], _] [0, 1, 2, 3] rfl rfl
     refine any_cutX (V := Unit) (fun _ => True) 14 #[true, true, true, true, true, true, true, true, true, true, true, true, true, false, false, false, false, true, false, false, false, false, false, false, false, false, false, false] (fun _ => [(3, .pointer (some ⟨γ1 0, 0, none⟩)), (4, .pointer (some ⟨γ1 1, 0, none⟩)), (5, .pointer (some ⟨γ1 2, 0, none⟩)), (7, .bool true), (48, .bool false), (53, .agg #[.int .i64 now2, .slice p2 n2 cap2])]) (fun _ => bx (γ1 2) (#[.int .i64 x1, .int .i64 x2]) 44 :: bx (γ1 1) (#[.int .i64 now2, .slice p2 n2 cap2]) 24 :: bx (γ1 0) (#[.int .i64 now, .slice p n cap]) 24 :: (Y667 ++ [])) ?_ (fun hmx4 => ?_)
     ·
      rintro _ _
      refine any_fork [13, 14, 16] (by kernel_rfl) (by simp) (each_cons _ rfl ?_ (each_cons _ rfl ?_ (each_cons _ rfl ?_ (each_nil))))
      ·
       refine qo0 1 [(13, .go (owns 2 0 2))] [3, 4, 5, 7, 48, 53] [(49, .agg #[.int .i64 now, .slice p n cap])] ?_
       refine od_ ?_
       exact wk (hmx7 () trivial) [3, 4, 5, 7, 48, 49, 53] [[_], [_], [_], _] [0, 1, 2, 3] rfl rfl
      ·
       refine qo0 1 [(14, .go (owns 1 0 2))] [3, 5, 7, 48, 53] [(50, .agg #[.int .i64 now2, .slice p2 n2 cap2])] ?_
       refine od_ ?_
       exact wk (hmx9 () trivial) [3, 5, 7, 48, 50, 53] [[_], [_], [_], _] [0, 1, 2, 3] rfl rfl
      ·
       refine qo0 1 [(16, .go (owns 2 0 2))] [3, 4, 5, 7, 48, 53] [(52, .agg #[.int .i64 now, .slice p n cap])] ?_
       refine od_ ?_
       exact wk (hmx10 () trivial) [3, 4, 5, 7, 48, 52, 53] [[_], [_], [_], _] [0, 1, 2, 3] rfl rfl
     refine any_cutX (V := Unit) (fun _ => True) 14 #[true, true, true, true, true, true, true, true, true, true, true, true, true, false, false, false, true, false, false, false, false, false, false, false, false, false, false, false] (fun _ => [(3, .pointer (some ⟨γ1 0, 0, none⟩)), (4, .pointer (some ⟨γ1 1, 0, none⟩)), (5, .pointer (some ⟨γ1 2, 0, none⟩)), (7, .bool true), (48, .bool false), (52, .agg #[.int .i64 now, .slice p n cap])]) (fun _ => bx (γ1 2) (#[.int .i64 x1, .int .i64 x2]) 44 :: bx (γ1 1) (#[.int .i64 now2, .slice p2 n2 cap2]) 24 :: bx (γ1 0) (#[.int .i64 now, .slice p n cap]) 24 :: (Y667 ++ [])) ?_ (fun hmx3 => ?_)
     ·
      rintro _ _
      refine any_fork [13, 14, 17] (by kernel_rfl) (by simp) (each_cons _ rfl ?_ (each_cons _ rfl ?_ (each_cons _ rfl ?_ (each_nil))))
      ·
       refine qo0 1 [(13, .go (owns 2 0 2))] [3, 4, 5, 7, 48, 52] [(49, .agg #[.int .i64 now, .slice p n cap])] ?_
       refine od_ ?_
       exact wk (hmx6 () trivial) [3, 4, 5, 7, 48, 49, 52] [[_], [_], [_], _] [0, 1, 2, 3] rfl rfl
      ·
       refine qo0 1 [(14, .go (owns 1 0 2))] [3, 4, 5, 7, 48, 52] [(50, .agg #[.int .i64 now2, .slice p2 n2 cap2])] ?_
       refine od_ ?_
       exact wk (hmx8 () trivial) [3, 4, 5, 7, 48, 50, 52] [[_], [_], [_], _] [0, 1, 2, 3] rfl rfl
      ·
       refine qo0 1 [(17, .go (owns 1 0 2))] [3, 4, 5, 7, 48, 52] [(53, .agg #[.int .i64 now2, .slice p2 n2 cap2])] ?_
       refine od_ ?_
       exact wk (hmx10 () trivial) [3, 4, 5, 7, 48, 52, 53] [[_], [_], [_], _] [0, 1, 2, 3] rfl rfl
     refine any_cutX (V := Unit) (fun _ => True) 14 #[true, true, true, true, true, true, true, true, true, true, true, true, true, false, true, false, false, false, false, false, false, false, false, false, false, false, false, false] (fun _ => [(3, .pointer (some ⟨γ1 0, 0, none⟩)), (4, .pointer (some ⟨γ1 1, 0, none⟩)), (5, .pointer (some ⟨γ1 2, 0, none⟩)), (7, .bool true), (48, .bool false), (50, .agg #[.int .i64 now2, .slice p2 n2 cap2])]) (fun _ => bx (γ1 2) (#[.int .i64 x1, .int .i64 x2]) 44 :: bx (γ1 1) (#[.int .i64 now2, .slice p2 n2 cap2]) 24 :: bx (γ1 0) (#[.int .i64 now, .slice p n cap]) 24 :: (Y667 ++ [])) ?_ (fun hmx2 => ?_)
     ·
      rintro _ _
      refine any_fork [13, 16, 17] (by kernel_rfl) (by simp) (each_cons _ rfl ?_ (each_cons _ rfl ?_ (each_cons _ rfl ?_ (each_nil))))
      ·
       refine qo0 1 [(13, .go (owns 2 0 2))] [3, 4, 5, 7, 48, 50] [(49, .agg #[.int .i64 now, .slice p n cap])] ?_
       refine od_ ?_
       exact wk (hmx5 () trivial) [3, 4, 5, 7, 48, 49, 50] [[_], [_], [_], _] [0, 1, 2, 3] rfl rfl
      ·
       refine qo0 1 [(16, .go (owns 2 0 2))] [3, 4, 5, 7, 48, 50] [(52, .agg #[.int .i64 now, .slice p n cap])] ?_
       refine od_ ?_
       exact wk (hmx8 () trivial) [3, 4, 5, 7, 48, 50, 52] [[_], [_], [_], _] [0, 1, 2, 3] rfl rfl
      ·
       refine qo0 1 [(17, .go (owns 1 0 2))] [3, 5, 7, 48, 50] [(53, .agg #[.int .i64 now2, .slice p2 n2 cap2])] ?_
       refine od_ ?_
       exact wk (hmx9 () trivial) [3, 5, 7, 48, 50, 53] [[_], [_], [_], _] [0, 1, 2, 3] rfl rfl
     refine any_cutX (V := Unit) (fun _ => True) 14 #[true, true, true, true, true, true, true, true, true, true, true, true, true, true, false, false, false, false, false, false, false, false, false, false, false, false, false, false] (fun _ => [(3, .pointer (some ⟨γ1 0, 0, none⟩)), (4, .pointer (some ⟨γ1 1, 0, none⟩)), (5, .pointer (some ⟨γ1 2, 0, none⟩)), (7, .bool true), (48, .bool false), (49, .agg #[.int .i64 now, .slice p n cap])]) (fun _ => bx (γ1 2) (#[.int .i64 x1, .int .i64 x2]) 44 :: bx (γ1 1) (#[.int .i64 now2, .slice p2 n2 cap2]) 24 :: bx (γ1 0) (#[.int .i64 now, .slice p n cap]) 24 :: (Y667 ++ [])) ?_ (fun hmx1 => ?_)
     ·
      rintro _ _
      refine any_fork [14, 16, 17] (by kernel_rfl) (by simp) (each_cons _ rfl ?_ (each_cons _ rfl ?_ (each_cons _ rfl ?_ (each_nil))))
      ·
       refine qo0 1 [(14, .go (owns 1 0 2))] [3, 4, 5, 7, 48, 49] [(50, .agg #[.int .i64 now2, .slice p2 n2 cap2])] ?_
       refine od_ ?_
       exact wk (hmx5 () trivial) [3, 4, 5, 7, 48, 49, 50] [[_], [_], [_], _] [0, 1, 2, 3] rfl rfl
      ·
       refine qo0 1 [(16, .go (owns 2 0 2))] [3, 4, 5, 7, 48, 49] [(52, .agg #[.int .i64 now, .slice p n cap])] ?_
       refine od_ ?_
       exact wk (hmx6 () trivial) [3, 4, 5, 7, 48, 49, 52] [[_], [_], [_], _] [0, 1, 2, 3] rfl rfl
      ·
       refine qo0 1 [(17, .go (owns 1 0 2))] [3, 4, 5, 7, 48, 49] [(53, .agg #[.int .i64 now2, .slice p2 n2 cap2])] ?_
       refine od_ ?_
       exact wk (hmx7 () trivial) [3, 4, 5, 7, 48, 49, 53] [[_], [_], [_], _] [0, 1, 2, 3] rfl rfl
     refine any_fork [13, 14, 16, 17] (by kernel_rfl) (by simp) (each_cons _ rfl ?_ (each_cons _ rfl ?_ (each_cons _ rfl ?_ (each_cons _ rfl ?_ (each_nil)))))
     ·
      refine qo0 1 [(13, .go (owns 2 0 2))] [3, 4, 5, 7, 48] [(49, .agg #[.int .i64 now, .slice p n cap])] ?_
      refine od_ ?_
      exact wk (hmx1 () trivial) [3, 4, 5, 7, 48, 49] [[_], [_], [_], _] [0, 1, 2, 3] rfl rfl
     ·
      refine qo0 1 [(14, .go (owns 1 0 2))] [3, 4, 5, 7, 48] [(50, .agg #[.int .i64 now2, .slice p2 n2 cap2])] ?_
      refine od_ ?_
      exact wk (hmx2 () trivial) [3, 4, 5, 7, 48, 50] [[_], [_], [_], _] [0, 1, 2, 3] rfl rfl
     ·
      refine qo0 1 [(16, .go (owns 2 0 2))] [3, 4, 5, 7, 48] [(52, .agg #[.int .i64 now, .slice p n cap])] ?_
      refine od_ ?_
      exact wk (hmx3 () trivial) [3, 4, 5, 7, 48, 52] [[_], [_], [_], _] [0, 1, 2, 3] rfl rfl
     ·
      refine qo0 1 [(17, .go (owns 1 0 2))] [3, 4, 5, 7, 48] [(53, .agg #[.int .i64 now2, .slice p2 n2 cap2])] ?_
      refine od_ ?_
      exact wk (hmx4 () trivial) [3, 4, 5, 7, 48, 53] [[_], [_], [_], _] [0, 1, 2, 3] rfl rfl
    rintro ⟨Y1153, cq1153, q1153⟩ hO1153
    refine any_nil (by kernel_rfl) ?_
    refine ds_ (f_ (at_skip (ds_ (sq_ (qa0 [] [3, 5, 7] [(9, .slice none 0 0)] (ds_ (sq_ (sq_ (qa0 [(1, .go (owns 2 1 1))] [3, 5, 7, 9] [(65, .slice p n cap), (66, .int .i64 ((n : Nat))), (67, .int .i64 0)] (ds_ (at_block ?_)))))))))))
    have hgw := wheel_iff.1 q14
    have hn0 := hgw.n0
    have hn1 := hgw.n1
    refine at_loop (α := Nat × List Ob × Option Addr × Nat × Nat) [3, 5, 7, 9, 65, 66, 67] (fun ⟨j, Yo, po, nu, co⟩ => [(3, .pointer (some ⟨γ1 0, 0, none⟩)), (5, .pointer (some ⟨γ1 2, 0, none⟩)), (7, .bool true), (9, .slice po nu co), (65, .slice p n cap), (66, .int .i64 ((n : Nat))), (67, .int .i64 ((j : Nat)))]) (fun ⟨j, Yo, po, nu, co⟩ => bx (γ1 2) (#[.int .i64 x1, .int .i64 x2]) 44 :: bx (γ1 1) (#[.int .i64 now2, .slice p2 n2 cap2]) 24 :: bx (γ1 0) (#[.int .i64 now, .slice p n cap]) 24 :: (Yo ++ (Y1153 ++ (Y667 ++ [])))) (fun ⟨j, Yo, po, nu, co⟩ => j ≤ n ∧ nu ≤ j ∧ SlO 3 Yo po nu co ((ts.take j).flatMap (slF now x1 x2))) (fun ⟨j, Yo, po, nu, co⟩ => n - j) (0, [], none, 0, 0) (by kernel_rfl) rfl ⟨Nat.zero_le _, Nat.le_refl _, by rw [List.take_zero]; exact SlO.nil⟩ ?_
    rintro ⟨j, Yo, po, nu, co⟩
    rintro ⟨hj, hnu, hO⟩
    refine sq_ ?_
    by_cases q1279 : ((j : Nat) : Int) < ((n : Nat) : Int)
    ·
     refine qa [(0, .yes)] [3, 5, 7, 9, 65, 66, 67] [(68, .bool true)] ([((j : Nat) : Int) < ((n : Nat) : Int)]) (al1 q1279) (ds_ (sq_ (t_ (at_skip (ds_ (sq_ (at_block (sq_ ?_))))))))
     obtain ⟨b1282, o1282, rfl⟩ := hts.pos (i := j) (by omega)
     obtain ⟨x1284, hx1284⟩ := get_some (l := ts) (m := j) (by omega)
     refine ma [(0, .at b1282 o1282 j), (1, .go (outs b1282 (o1282 + j * 2) [.int .i64 x1284.id, .int .i64 x1284.due])), (3, .go (owns 0 0 2))] [3, 5, 7, 9, 65, 66, 67] (fun γ1285 => [(11, .pointer (some ⟨γ1285 0, 0, none⟩))]) (fun γ1285 L => bx (γ1285 0) (#[.int .i64 x1284.id, .int .i64 x1284.due]) 33 :: L) (fun γ1285 => [(some ⟨b1282, o1282, none⟩ : Option Addr) = some ⟨b1282, o1282, none⟩, ((j : Nat)) = ((j : Nat) : Int), j < n] ++ (cellsP w b1282 (o1282 + j * 2) [.int .i64 x1284.id, .int .i64 x1284.due])) (fun γ1285 => (alA (al2 rfl (al2 rfl (al1 (by omega)))) (rd_pre (hts.get hx1284) _ rfl))) (fun γ1285 => ds_ (sq_ ?_))
     have htm := hgw.tm x1284 (List.mem_of_getElem? hx1284)
     refine ao_ (qo0 3 [(0, .go (owns 3 0 2)), (2, .go (owns 0 0 1))] [3, 5, 7, 9, 11, 65, 66, 67] [(72, .agg #[.int .i64 now, .slice (some ⟨b1282, o1282, none⟩) n cap]), (74, .int .i64 x1284.id)] (cD (.tuple #[.int .i64 ((placeV now x1284.due).1), .int .i64 ((placeV now x1284.due).2), .bool true]) Try.call21 (fun w hw => by have := wplace_t now (some ⟨b1282, o1282, none⟩) n cap ts x1284.id w (hts.kept hw.below) hn (by omega); rw [plO_some q14 (hgw.getd.2 ⟨List.mem_of_getElem? hx1284, rfl⟩)] at this; exact this) (qo0 7 [] [3, 5, 7, 9, 11, 65, 66, 67] [(12, .int .i64 ((placeV now x1284.due).1)), (13, .int .i64 ((placeV now x1284.due).2)), (14, .bool true)] (on_ (ds_ (sq_ (sq_ (qa0 [] [3, 5, 7, 9, 11, 12, 13, 14, 65, 66, 67] [(80, .bool false)] (ds_ (f_ (at_skip (ds_ (sq_ (ao_ (qo0 4 [(1, .go (owns 3 0 1)), (3, .go (owns 0 1 1))] [3, 5, 7, 9, 11, 12, 13, 14, 65, 66, 67] [(92, .int .i64 now), (94, .int .i64 x1284.due)] (cD (.tuple #[.int .i64 ((placeV now x1284.due).1), .int .i64 ((placeV now x1284.due).2)]) Try.call22 (fun w hw => rplace_t now x1284.due w (by omega) (by omega) (by omega) (by omega)) (qo0 5 [] [3, 5, 7, 9, 11, 12, 13, 14, 65, 66, 67] [(15, .int .i64 ((placeV now x1284.due).1)), (16, .int .i64 ((placeV now x1284.due).2))] (on_ (ds_ (sq_ (sq_ (qa [(2, .no), (6, .no)] [3, 5, 7, 9, 11, 15, 16, 65, 66, 67] [(109, .bool false)] ([¬ (((placeV now x1284.due).1 : Int) ≠ ((placeV now x1284.due).1 : Int))] ++ ([¬ (((placeV now x1284.due).2 : Int) ≠ ((placeV now x1284.due).2 : Int))])) (alA (al1 ((fun h => h rfl))) (al1 ((fun h => h rfl)))) (ds_ (f_ (at_skip (ds_ (sq_ ?_)))))))))))))))))))))))))))
     by_cases q1293 : ((placeV now x1284.due).1 : Int) = (x1 : Int)
     ·
      by_cases q1295 : ((placeV now x1284.due).2 : Int) = (x2 : Int)
      ·
       refine qa [(2, .go (owns 1 0 1)), (3, .yes), (7, .go (owns 1 1 1)), (8, .yes)] [3, 5, 7, 9, 11, 65, 66, 67] [(119, .bool true)] ([((placeV now x1284.due).1 : Int) = (x1 : Int)] ++ ([((placeV now x1284.due).2 : Int) = (x2 : Int)])) (alA (al1 q1293) (al1 q1295)) (ds_ (t_ (ao_ (mo0 4 [(2, .go (owns 0 0 1))] [3, 5, 7, 65, 66, 67] (fun γ1297 => [(120, .slice po nu co), (123, .slice (some ⟨γ1297 0, 0, none⟩) 1 1)]) (fun γ1297 L => bx (γ1297 0) (#[.int .i64 x1284.id]) 3 :: L) (fun γ1297 => ops_append (α := Int) [bx (γ1297 0) (#[.int .i64 x1284.id]) 3, bx (γ1285 0) (#[.int .i64 x1284.id, .int .i64 x1284.due]) 33, bx (γ1 2) (#[.int .i64 x1, .int .i64 x2]) 44, bx (γ1 1) (#[.int .i64 now2, .slice p2 n2 cap2]) 24, bx (γ1 0) (#[.int .i64 now, .slice (some ⟨b1282, o1282, none⟩) n cap]) 24] Yo ((Y1153 ++ (Y667 ++ []))) (.refl _) rfl (by kernel_rfl) (by kernel_rfl) (p := po) (n := nu) (cap := co) (m := 1) (yv := .slice (some ⟨γ1297 0, 0, none⟩) 1 1) (by kernel_rfl) (by kernel_rfl) (T := 3) (by_ := 8) (by kernel_rfl) (((ts.take j).flatMap (slF now x1 x2))) ([x1284.id]) hO (fun w hw => src_svn Try.underlying45 (sv_row (hw.row 0 rfl) (by rfl)) (by rfl)) (by rfl) (by have hmx : maxLen = 9223372036854775807 := rfl; omega) (by have hmx : maxLen = 9223372036854775807 := rfl; omega) (fun Y1298 p1298 cap1298 hO1298 => qo0 1 [] [3, 5, 7, 65, 66, 67] [(9, .slice p1298 (nu + 1) cap1298)] (on_ (done_block (ds_ (qa [(0, .fit)] [3, 5, 7, 9, 65, 66] [(67, .int .i64 ((j + 1 : Nat)))] ([Fit .i64 ((j + 1 : Nat))]) (al1 (fit64 (by omega) (by omega))) (Done.pick [[bx (γ1297 0) (#[.int .i64 x1284.id]) 3], [bx (γ1285 0) (#[.int .i64 x1284.id, .int .i64 x1284.due]) 33], [bx (γ1 2) (#[.int .i64 x1, .int .i64 x2]) 44], [bx (γ1 1) (#[.int .i64 now2, .slice p2 n2 cap2]) 24], [bx (γ1 0) (#[.int .i64 now, .slice (some ⟨b1282, o1282, none⟩) n cap]) 24], Y1298, Y1153, Y667] [2, 3, 4, 5, 6, 7] [0, 1] (bx (γ1 2) (#[.int .i64 x1, .int .i64 x2]) 44 :: bx (γ1 1) (#[.int .i64 now2, .slice p2 n2 cap2]) 24 :: bx (γ1 0) (#[.int .i64 now, .slice (some ⟨b1282, o1282, none⟩) n cap]) 24 :: (Y1298 ++ (Y1153 ++ (Y667 ++ [])))) (by kernel_rfl) rfl rfl ?_)))))))))))
       exact dr [3, 5, 7, 9, 65, 66, 67] (j + 1, Y1298, p1298, (nu + 1), cap1298) ⟨by omega, by omega, by rw [gath_onT hx1284 (slF_yes q1293 q1295)]; exact hO1298⟩
      ·
       refine qa [(2, .go (owns 1 0 1)), (3, .yes), (7, .go (owns 1 1 1)), (8, .no)] [3, 5, 7, 9, 11, 65, 66, 67] [(119, .bool false)] ([((placeV now x1284.due).1 : Int) = (x1 : Int)] ++ ([¬ (((placeV now x1284.due).2 : Int) = (x2 : Int))])) (alA (al1 q1293) (al1 q1295)) (ds_ (f_ (at_skip (done_block (ds_ (qa [(0, .fit)] [3, 5, 7, 9, 65, 66] [(67, .int .i64 ((j + 1 : Nat)))] ([Fit .i64 ((j + 1 : Nat))]) (al1 (fit64 (by omega) (by omega))) (Done.pick [[bx (γ1285 0) (#[.int .i64 x1284.id, .int .i64 x1284.due]) 33], [bx (γ1 2) (#[.int .i64 x1, .int .i64 x2]) 44], [bx (γ1 1) (#[.int .i64 now2, .slice p2 n2 cap2]) 24], [bx (γ1 0) (#[.int .i64 now, .slice (some ⟨b1282, o1282, none⟩) n cap]) 24], Yo, Y1153, Y667] [1, 2, 3, 4, 5, 6] [0] (bx (γ1 2) (#[.int .i64 x1, .int .i64 x2]) 44 :: bx (γ1 1) (#[.int .i64 now2, .slice p2 n2 cap2]) 24 :: bx (γ1 0) (#[.int .i64 now, .slice (some ⟨b1282, o1282, none⟩) n cap]) 24 :: (Yo ++ (Y1153 ++ (Y667 ++ [])))) (by kernel_rfl) rfl rfl ?_)))))))
       exact dr [3, 5, 7, 9, 65, 66, 67] (j + 1, Yo, po, nu, co) ⟨by omega, by omega, by rw [gath_onT hx1284 (slF_no2 q1295), List.append_nil]; exact hO⟩
     ·
      refine qa [(2, .go (owns 1 0 1)), (3, .no)] [3, 5, 7, 9, 11, 65, 66, 67] [(119, .bool false)] ([¬ (((placeV now x1284.due).1 : Int) = (x1 : Int))]) (al1 q1293) (ds_ (f_ (at_skip (done_block (ds_ (qa [(0, .fit)] [3, 5, 7, 9, 65, 66] [(67, .int .i64 ((j + 1 : Nat)))] ([Fit .i64 ((j + 1 : Nat))]) (al1 (fit64 (by omega) (by omega))) (Done.pick [[bx (γ1285 0) (#[.int .i64 x1284.id, .int .i64 x1284.due]) 33], [bx (γ1 2) (#[.int .i64 x1, .int .i64 x2]) 44], [bx (γ1 1) (#[.int .i64 now2, .slice p2 n2 cap2]) 24], [bx (γ1 0) (#[.int .i64 now, .slice (some ⟨b1282, o1282, none⟩) n cap]) 24], Yo, Y1153, Y667] [1, 2, 3, 4, 5, 6] [0] (bx (γ1 2) (#[.int .i64 x1, .int .i64 x2]) 44 :: bx (γ1 1) (#[.int .i64 now2, .slice p2 n2 cap2]) 24 :: bx (γ1 0) (#[.int .i64 now, .slice (some ⟨b1282, o1282, none⟩) n cap]) 24 :: (Yo ++ (Y1153 ++ (Y667 ++ [])))) (by kernel_rfl) rfl rfl ?_)))))))
      exact dr [3, 5, 7, 9, 65, 66, 67] (j + 1, Yo, po, nu, co) ⟨by omega, by omega, by rw [gath_onT hx1284 (slF_no1 q1293), List.append_nil]; exact hO⟩
    ·
     refine qa [(0, .no)] [3, 5, 7, 9, 65, 66, 67] [(68, .bool false)] ([¬ (((j : Nat) : Int) < ((n : Nat) : Int))]) (al1 q1279) (ds_ (sq_ (f_ (at_leave _ rfl (ds_ (sq_ ?_))))))
     rw [List.take_of_length_le (by omega)] at hO
     change SlO _ Yo po nu co (slotV now ts x1 x2) at hO
     refine ao_ (qo0 5 [(0, .go (owns 2 0 2)), (2, .go (owns 0 0 1)), (4, .go (owns 0 1 1))] [9] [(126, .agg #[.int .i64 now, .slice p n cap]), (128, .int .i64 x1), (130, .int .i64 x2)] (cP (fun v L' => ∃ q_ m_ c_ Y_, v = .slice q_ m_ c_ ∧ L' = List.take 3 (bx (γ1 2) (#[.int .i64 x1, .int .i64 x2]) 44 :: bx (γ1 1) (#[.int .i64 now2, .slice p2 n2 cap2]) 24 :: bx (γ1 0) (#[.int .i64 now, .slice p n cap]) 24 :: (Yo ++ (Y1153 ++ (Y667 ++ [])))) ++ (Y_ ++ List.drop 3 (bx (γ1 2) (#[.int .i64 x1, .int .i64 x2]) 44 :: bx (γ1 1) (#[.int .i64 now2, .slice p2 n2 cap2]) 24 :: bx (γ1 0) (#[.int .i64 now, .slice p n cap]) 24 :: (Yo ++ (Y1153 ++ (Y667 ++ []))))) ∧ SlO 3 Y_ q_ m_ c_ (slotV now ts x1 x2)) Try.call23 (fun w hw => by have := slot_t now p n cap ts x1 x2 w (hts.kept hw.below) hn (by omega); rw [if_pos q14] at this; exact this.mono fun e w' ⟨q_, m_, c_, Y_, he, hO, hm, hb, hY⟩ => ⟨_, _, he, ⟨q_, m_, c_, Y_, rfl, rfl, hO⟩, hw.join hb hY 3⟩) ?_))
     rintro v1307 L1307 ⟨q1307, m1307, cq1307, Y1307, rfl, rfl, hO1307⟩
     have hm1307 := hO1307.len
     have hnO := hO.len
     refine qo0 1 [] [9] [(17, .slice q1307 m1307 cq1307)] (on_ (ds_ (sq_ (sq_ ?_))))
     by_cases q1310 : ((m1307 : Nat) : Int) ≠ ((nu : Nat) : Int)
     ·
      refine qa [(4, .yes)] [9, 17] [(136, .bool true)] ([((m1307 : Nat) : Int) ≠ ((nu : Nat) : Int)]) (al1 q1310) (ds_ (t_ (sq_ (qa0 [] [] [(6, .bool false)] (ds_ (rt ([]) (.bool false) ?_))))))
      exfalso; first | omega | (simp only [List.length_nil] at *; omega)
     ·
      refine qa [(4, .no)] [9, 17] [(136, .bool false)] ([¬ (((m1307 : Nat) : Int) ≠ ((nu : Nat) : Int))]) (al1 q1310) (ds_ (f_ (at_skip (ds_ (sq_ (sq_ (qa0 [] [9, 17] [(138, .int .i64 ((m1307 : Nat))), (139, .int .i64 0)] (ds_ (at_block (at_loop (α := Nat) [9, 17, 138, 139] (fun i => [(9, .slice po nu co), (17, .slice q1307 m1307 cq1307), (138, .int .i64 ((m1307 : Nat))), (139, .int .i64 ((i : Nat)))]) (fun i => bx (γ1 2) (#[.int .i64 x1, .int .i64 x2]) 44 :: bx (γ1 1) (#[.int .i64 now2, .slice p2 n2 cap2]) 24 :: bx (γ1 0) (#[.int .i64 now, .slice p n cap]) 24 :: (Y1307 ++ (Yo ++ (Y1153 ++ (Y667 ++ []))))) (fun i => i ≤ m1307) (fun i => m1307 - i) 0 (by kernel_rfl) rfl (Nat.zero_le _) ?_))))))))))
      rintro i
      rintro hi
      refine sq_ ?_
      by_cases q1316 : ((i : Nat) : Int) < ((m1307 : Nat) : Int)
      ·
       refine qa [(0, .yes)] [9, 17, 138, 139] [(140, .bool true)] ([((i : Nat) : Int) < ((m1307 : Nat) : Int)]) (al1 q1316) (ds_ (sq_ (t_ (at_skip (ds_ (sq_ (at_block (sq_ (qa0 [] [9, 17, 138, 139] [(18, .int .i64 ((i : Nat)))] (ds_ (sq_ ?_)))))))))))
       have hln1320 := hO1307.len
       obtain ⟨g1320, cs1320, rfl, rfl, hOw1320⟩ := hO1307.rowOf (i := i) (by omega)
       obtain ⟨x1322, hx1322⟩ := get_some (l := (slotV now ts x1 x2)) (m := i) (by omega)
       have hln1324 := hO.len
       obtain ⟨g1324, cs1324, rfl, rfl, hOw1324⟩ := hO.rowOf (i := i) (by omega)
       refine cq [(2, .at g1320 0 i), (3, .go (ownps 3 (0 + i * 1) [.int .i64 x1322])), (6, .at g1324 0 i), (7, .go (ownps 4 (0 + i * 1) [.int .i64 x1322])), (8, .no)] [9, 17, 138, 139] [(150, .bool false)] ([(some ⟨g1320, 0, none⟩ : Option Addr) = some ⟨g1320, 0, none⟩, ((i : Nat)) = ((i : Nat) : Int), i < m1307] ++ (acellsP cs1320 (0 + i * 1) [.int .i64 x1322] ++ ([(some ⟨g1324, 0, none⟩ : Option Addr) = some ⟨g1324, 0, none⟩, ((i : Nat)) = ((i : Nat) : Int), i < nu] ++ (acellsP cs1324 (0 + i * 1) [.int .i64 x1322] ++ ([¬ ((x1322 : Int) ≠ (x1322 : Int))]))))) rfl (by kernel_rfl) (by kernel_rfl) (by kernel_rfl) (alA (al2 rfl (al2 rfl (al1 (by omega)))) (alA (rda_pre ((hOw1320.rdx hO1307.len hx1322)) _ rfl) (alA (al2 rfl (al2 rfl (al1 (by omega)))) (alA (rda_pre ((hOw1324.rdx hO.len hx1322)) _ rfl) (al1 ((fun h => h rfl))))))) (ds_ (f_ (at_skip (done_block (ds_ (qa [(0, .fit)] [9, 17, 138] [(139, .int .i64 ((i + 1 : Nat)))] ([Fit .i64 ((i + 1 : Nat))]) (al1 (fit64 (by omega) (by omega))) ?_))))))
       exact done_round [9, 17, 138, 139] (i + 1) (by kernel_rfl) rfl (by omega) (by first | omega | (simp only; omega))
      ·
       refine qa [(0, .no)] [9, 17, 138, 139] [(140, .bool false)] ([¬ (((i : Nat) : Int) < ((m1307 : Nat) : Int))]) (al1 q1316) (ds_ (sq_ (f_ (at_leave _ rfl (ds_ (sq_ (qa0 [] [] [(6, .bool true)] (ds_ (rt ([]) (.bool true) ?_)))))))))
       exact fun w' hw => ⟨rfl, hw.below⟩
end Go.Proofs.Ytjfebdhflkndmaa

/-! The walker: what a row's inputs are: slices and structs, opened into lists. -/
namespace Go.Proofs.Ytjfebdhflkndmaa
open Go Go.RowKit

section
variable {H : Type} {enc : TypeId × Value → H} {P : Program} {w : World} {base : Nat} {spare : Nat → Bool} {held : Bool}
theorem spot_none {a : Addr} (h : a.spot = none) : a = ⟨a.block, a.off, none⟩ := by
  cases a
  simp at h
  simp [h]
theorem trod_sv {α : Type} [Enc α] {t e : TypeId} {fuel : Nat} {cs : List Value} {x : DataW H × List MemPlace} {Good : α → Prop} (ht : P.underlying t = some (.slice e)) (hc : P.cellsOf e = Enc.k α)
    (hopen : ∀ (fuel : Nat) (cs : List Value) (x : DataW H × List MemPlace), DataW.trod enc P w base spare held fuel e cs = some x → ∃ a : α, cs = Enc.enc a ∧ Good a) (h : DataW.trod enc P w base spare held fuel t cs = some x) :
    ∃ (p : Option Addr) (n cap : Nat) (l : List α), cs = [.slice p n cap] ∧ Sv w p l ∧ n = l.length ∧ n ≤ cap ∧ cap ≤ maxLen ∧ ∀ y ∈ l, Good y := by
  rcases Deep.open_slice ht h with ⟨hcs, _⟩ | ⟨a, len, cap, m, n', D, Pl, hcs, _, hle, hmx, hm, _, hi⟩
  · exact ⟨none, 0, 0, [], hcs, Sv.nil, rfl, Nat.le_refl _, Nat.zero_le _, fun y hy => by cases hy⟩
  · have key : ∀ i, i < len → ∃ y : α, w.cells? base (a.add (i * Enc.k α)) (Enc.k α) = some (Enc.enc y) ∧ Good y := fun i hin => by
      have him : i < m := by rw [hm]; split <;> omega
      obtain ⟨cs', h1, h2⟩ := hi i him
      obtain ⟨y, rfl, hy⟩ := hopen _ _ _ h2
      rw [hc] at h1
      exact ⟨y, h1, hy⟩
    rcases Nat.eq_zero_or_pos len with h0 | h0
    · subst h0
      exact ⟨some a, 0, cap, [], hcs, Sv.nil, rfl, hle, hmx, fun y hy => by cases hy⟩
    · obtain ⟨y0, hy0, _⟩ := key 0 h0
      haveI : Inhabited α := ⟨y0⟩
      obtain ⟨f, hf⟩ := Deep.choose_lt key
      obtain ⟨_, _, hcell⟩ := World.cells?_some hy0
      have h00 := hcell 0 Enc.pos
      have hlen0 : 0 < (Enc.enc y0).length := by rw [Enc.len]; exact Enc.pos
      rw [List.getElem?_eq_getElem hlen0, Nat.zero_mul, show (a.add 0).add 0 = a by simp [Addr.add]] at h00
      have hsp := spot_none (World.cell?_spot h00)
      refine ⟨some a, len, cap, (List.range len).map f, hcs, ⟨fun _ => ⟨a.block, a.off, by rw [← hsp]⟩, fun b o hbo i hil => ?_⟩, by simp, hle, hmx, fun y hy => ?_⟩
      · have hil' : i < len := by simpa using hil
        obtain ⟨_, _, hc2⟩ := World.cells?_some (hf i hil').1
        have ha : a = ⟨b, o, none⟩ := by simpa using hbo
        subst ha
        intro j v hj
        have hjk : j < Enc.k α := by rw [← Enc.len (f i)]; have := (List.getElem?_eq_some_iff.1 hj).1; simpa using this
        have h3 := hc2 j hjk
        rw [Deep.add_add] at h3
        have h4 : (Enc.enc (f i))[j]? = some v := by simpa using hj
        rw [h4] at h3
        have h5 : (⟨b, o, none⟩ : Addr).add (i * Enc.k α + j) = ⟨b, o + i * Enc.k α + j, none⟩ := by
          unfold Addr.add; split <;> simp_all <;> omega
        rw [h5] at h3
        exact h3
      · obtain ⟨i, hir, rfl⟩ := List.mem_map.1 hy
        exact (hf i (List.mem_range.1 hir)).2
theorem list2' {α : Type} {cs : List α} (h : cs.length = 2) : ∃ c0 c1, cs = [c0, c1] := by
  match cs, h with
  | [a, b], _ => exact ⟨a, b, rfl⟩
end
end Go.Proofs.Ytjfebdhflkndmaa

/-! Chapter 15: what the rows' inputs are. -/
namespace Go.Proofs.Ytjfebdhflkndmaa
open Go Go.RowKit Go.ChangeShapes Go.WideShapes

section
variable {H : Type} {enc : TypeId × Value → H} {w : World} {base : Nat} {spare : Nat → Bool} {held : Bool}
theorem cIntT : Try.prog.cellsOf 3 = 1 := by kernel_rfl
theorem cI64T : Try.prog.cellsOf 2 = 1 := by kernel_rfl
theorem cWheel : Try.prog.cellsOf 24 = 2 := by kernel_rfl
theorem cTims : Try.prog.cellsOf 22 = 1 := by kernel_rfl
theorem timer_open_cells : Try.prog.cellsOf 33 = 2 := by kernel_rfl
theorem timer_open_list {α : Type} {cs : List α} (h : cs.length = 2) : ∃ c0 c1, cs = [c0, c1] := by
  match cs, h with
  | [c0, c1], _ => exact ⟨c0, c1, rfl⟩
theorem timer_open {fuel : Nat} {cs : List Value} {x : DataW H × List MemPlace} (h : DataW.trod enc Try.prog w base spare held fuel 33 cs = some x) : ∃ a : Tim, cs = Enc.enc a ∧ True := by
  obtain ⟨xs, n, _, rfl, hl, hlen, hf⟩ := DataW.trod_struct Try.underlying33 h
  rw [timer_open_cells] at hl
  obtain ⟨c0, c1, rfl⟩ := timer_open_list hl
  obtain ⟨y0, y1, rfl⟩ := timer_open_list hlen
  have h0 : DataW.trod enc Try.prog w base spare held n 3 (([c0, c1].drop 0).take (Try.prog.cellsOf 3)) = some y0 := hf 0 _ rfl
  have h1 : DataW.trod enc Try.prog w base spare held n 2 (([c0, c1].drop 1).take (Try.prog.cellsOf 2)) = some y1 := hf 1 _ rfl
  clear hf hl hlen h
  rw [cIntT] at h0
  rw [cI64T] at h1
  simp only [List.drop_zero, List.take_succ_cons, List.take_zero, List.drop_succ_cons] at h0 h1
  obtain ⟨v0, e0, _, _⟩ := DataW.trod_int Try.underlying3 h0
  obtain ⟨v1, e1, _, _⟩ := DataW.trod_int Try.underlying2 h1
  simp only [List.cons.injEq, and_true] at e0 e1
  subst e0; subst e1
  exact ⟨⟨v0, v1⟩, rfl, trivial⟩
set_option maxRecDepth 100000 in
theorem wheel_open {v : Value} {d : DataW H} {pl : List MemPlace} (hv : Value.okWide Try.prog w .any base 24 v) (h : DataW.Trod enc Try.prog w 0 spare held 24 v d pl) :
    ∃ (now : Int) (p : Option Addr) (n cap : Nat) (ts : List Tim), v = .agg #[.int .i64 now, .slice p n cap] ∧ Sv w p ts ∧ n = ts.length := by
  obtain ⟨cs, rfl, hsz⟩ := okWide_struct Try.underlying24 hv
  obtain ⟨fuel, hf⟩ := h
  obtain ⟨xs, n, _, _, hl, hlen, hf⟩ := DataW.trod_struct Try.underlying24 hf
  obtain ⟨y0, y1, rfl⟩ := list2' hlen
  have h0 : DataW.trod enc Try.prog w 0 spare held n 2 ((((Value.agg cs).cells.toList).drop 0).take (Try.prog.cellsOf 2)) = some y0 := hf 0 _ rfl
  have h1 : DataW.trod enc Try.prog w 0 spare held n 22 ((((Value.agg cs).cells.toList).drop 1).take (Try.prog.cellsOf 22)) = some y1 := hf 1 _ rfl
  rw [cWheel] at hl
  obtain ⟨c0, c1, hc0⟩ := list2' hl
  rw [hc0, cI64T] at h0
  rw [hc0, cTims] at h1
  simp only [List.drop_zero, List.take_succ_cons, List.take_zero] at h0
  obtain ⟨a, ea, _, _⟩ := DataW.trod_int Try.underlying2 h0
  obtain ⟨q, m, capv, l2, he2, hs2, hm, hle2, hmx2, hw⟩ := trod_sv (Good := fun _ => True) Try.underlying22 timer_open_cells (fun _ _ _ h => timer_open h) h1
  simp only [List.drop_zero, List.take_succ_cons, List.take_zero, List.drop_succ_cons, List.cons.injEq, and_true] at ea he2
  subst ea; subst he2
  refine ⟨a, q, m, capv, l2, ?_, hs2, hm⟩
  congr 1
  exact Array.toList_inj.1 (by simpa [Value.cells] using hc0)
set_option maxRecDepth 100000 in
theorem two_open {v : Value} {d : DataW H} {pl : List MemPlace} (hv : Value.okWide Try.prog w .any base 44 v) (h : DataW.Trod enc Try.prog w 0 spare held 44 v d pl) : ∃ a b : Int, v = .agg #[.int .i64 a, .int .i64 b] := by
  have hv' := hv
  simp only [Value.okWide, Try.underlying44] at hv'
  obtain ⟨cs, rfl, h2, _⟩ := hv'
  obtain ⟨fuel, hf⟩ := h
  obtain ⟨xs, n, _, _, hl, hlen, hf⟩ := DataW.trod_array Try.underlying44 hf
  obtain ⟨y0, y1, rfl⟩ := list2' hlen
  have h0 : DataW.trod enc Try.prog w 0 spare held n 3 ((((Value.agg cs).cells.toList).drop (0 * Try.prog.cellsOf 3)).take (Try.prog.cellsOf 3)) = some y0 := hf 0 (by decide)
  have h1 : DataW.trod enc Try.prog w 0 spare held n 3 ((((Value.agg cs).cells.toList).drop (1 * Try.prog.cellsOf 3)).take (Try.prog.cellsOf 3)) = some y1 := hf 1 (by decide)
  rw [show Try.prog.cellsOf 44 = 2 from by kernel_rfl] at hl
  obtain ⟨c0, c1, hc0⟩ := list2' hl
  rw [hc0, cIntT] at h0 h1
  simp only [Nat.zero_mul, Nat.one_mul, List.drop_zero, List.take_succ_cons, List.take_zero, List.drop_succ_cons] at h0 h1
  obtain ⟨a, ea, _, _⟩ := DataW.trod_int Try.underlying3 h0
  obtain ⟨b, eb, _, _⟩ := DataW.trod_int Try.underlying3 h1
  simp only [List.cons.injEq, and_true] at ea eb
  subst ea; subst eb
  refine ⟨a, b, ?_⟩
  congr 1
  exact Array.toList_inj.1 (by simpa [Value.cells] using hc0)
end
end Go.Proofs.Ytjfebdhflkndmaa
