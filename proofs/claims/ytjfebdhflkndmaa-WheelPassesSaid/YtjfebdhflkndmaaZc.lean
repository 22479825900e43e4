/- Texts of this proof, one behind the other. -/
import Derived.Test.YtjfebdhflkndmaaZb
import Derived.Test.YtjfebdhflkndmaaZa
import Derived.ProofKit
import Derived.Carry
import Derived.Deep.Slices
import Derived.Lib.SmallJoins
import Derived.Test.YtjfebdhflkndmaaProg
/-! The statement WheelPasses, walked. -/
namespace Go.Proofs.Ytjfebdhflkndmaa
open Go Go.RowKit

set_option maxRecDepth 100000 in
theorem passes_law (now : Int) (p : Option Addr) (n cap : Nat) (ts : List Tim) (to : Int) (w : World)
 (hts : Sv w p ts) (hn : n = ts.length)
 : Calls Try.prog 6 #[.agg #[.int .i64 now, .slice p n cap], .int .i64 to] w fun e w' => e = .returned (.bool true) ∧ Below w.heap.size w w' := by
 refine enter (Hs.start w) Try.func6 rfl Try.ntmps6 rfl (sq_ (ma0 [] [1] (fun γ1 => [(2, .pointer (some ⟨γ1 0, 0, none⟩))]) (fun γ1 L => bx (γ1 0) (#[.int .i64 now, .slice p n cap]) 24 :: L) (fun γ1 => ds_ (sq_ (sq_ (ao_ (cD (.bool true) Try.call8 (fun w hw => wakes_t w) (qo0 1 [] [1, 2] [(26, .bool false)] (on_ (ds_ (f_ (at_skip (ds_ (sq_ (sq_ ?_)))))))))))))))
 by_cases q5 : ((n : Nat) : Int) > (100 : Int)
 ·
  refine qa [(1, .go (owns 0 1 1)), (3, .yes)] [1, 2] [(30, .bool true)] ([((n : Nat) : Int) > (100 : Int)]) (al1 q5) (ds_ (t_ (sq_ (qa0 [] [] [(4, .bool true)] (ds_ (rt ([]) (.bool true) ?_))))))
  exact fun w' hw => ⟨rfl, hw.below⟩
 ·
  refine qa [(1, .go (owns 0 1 1)), (3, .no)] [1, 2] [(30, .bool false)] ([¬ (((n : Nat) : Int) > (100 : Int))]) (al1 q5) (ds_ (f_ (at_skip (ds_ (sq_ (ao_ (qo0 1 [(0, .go (owns 0 0 2))] [1, 2] [(31, .agg #[.int .i64 now, .slice p n cap])] (cP (fun v L' => ∃ q_ c_ Y_, v = .agg #[.int .i64 now, .slice q_ n c_] ∧ L' = List.take 1 ([bx (γ1 0) (#[.int .i64 now, .slice p n cap]) 24]) ++ (Y_ ++ List.drop 1 ([bx (γ1 0) (#[.int .i64 now, .slice p n cap]) 24])) ∧ SlO 33 Y_ q_ n c_ ts) Try.call12 (fun w hw => (copied_t now p n cap ts w (hts.kept hw.below) hn (by omega)).mono fun e w' ⟨q_, c_, Y_, he, hO, hb, hY⟩ => ⟨_, _, he, ⟨q_, c_, Y_, rfl, rfl, hO⟩, hw.join hb hY 1⟩) ?_))))))))
  rintro v10 L10 ⟨q10, cq10, Y10, rfl, rfl, hO10⟩
  refine mo0 2 [(3, .go (owns 0 0 2))] [1, 2] (fun γ11 => [(5, .pointer (some ⟨γ11 0, 0, none⟩))]) (fun γ11 L => bx (γ11 0) (#[.int .i64 now, .slice q10 n cq10]) 24 :: L) (fun γ11 => on_ (ds_ (sq_ (ao_ (qo0 2 [(0, .go (owns 0 0 2))] [1, 2, 5] [(34, .agg #[.int .i64 now, .slice q10 n cq10]), (35, .int .i64 to)] ?_)))))
  rcases q13 : wheelB now ts with _ | _
  ·
   refine cP (fun v L' => ∃ q_ m_ c_ Y_ q2_ m2_ c2_ X_, v = .tuple #[.agg #[.int .i64 0, .slice q_ m_ c_], .slice q2_ m2_ c2_, .int .i64 250] ∧ L' = List.take 2 (bx (γ11 0) (#[.int .i64 now, .slice q10 n cq10]) 24 :: bx (γ1 0) (#[.int .i64 now, .slice p n cap]) 24 :: (Y10 ++ [])) ++ (Y_ ++ (X_ ++ List.drop 2 (bx (γ11 0) (#[.int .i64 now, .slice q10 n cq10]) 24 :: bx (γ1 0) (#[.int .i64 now, .slice p n cap]) 24 :: (Y10 ++ [])))) ∧ SlO 33 Y_ q_ m_ c_ ([] : List Tim) ∧ SlO 33 X_ q2_ m2_ c2_ ([] : List Tim)) Try.call11 (fun w hw => by have := pass_t now q10 n cq10 ts to w (hO10.atN (A := [_, _]) hw) hO10.len (by omega); rw [passW_no (show passE now ts to ≠ 0 from by rw [passE_bad q13]; decide), passD_no (show passE now ts to ≠ 0 from by rw [passE_bad q13]; decide), passE_bad q13] at this; exact this.mono fun e w' ⟨q_, m_, c_, Y_, q2_, m2_, c2_, X_, he, h1, h2, hb, hY⟩ => ⟨_, _, he, ⟨q_, m_, c_, Y_, q2_, m2_, c2_, X_, rfl, rfl, h1, h2⟩, hw.joinT hb hY 2⟩) ?_
   rintro v14 L14 ⟨q14, m14, c14, Y14, p14, k14, d14, Yx14, rfl, rfl, hO14, hP14⟩
   have hm14 := hO14.len
   have hn14 := hP14.len
   simp only [List.length_cons, List.length_nil] at hm14
   simp only [List.length_cons, List.length_nil] at hn14
   refine mo0 8 [(8, .go (owns 0 0 2))] [1, 2, 5] (fun γ15 => [(6, .pointer (some ⟨γ15 0, 0, none⟩)), (7, .slice p14 k14 d14), (8, .int .i64 250)]) (fun γ15 L => bx (γ15 0) (#[.int .i64 0, .slice q14 m14 c14]) 24 :: L) (fun γ15 => on_ (ds_ (sq_ (ao_ (qo0 2 [(0, .go (owns 1 0 2))] [1, 2, 5, 6, 7, 8] [(41, .agg #[.int .i64 now, .slice q10 n cq10]), (42, .int .i64 to)] (cD (.tuple #[.int .i64 0, .int .i64 250]) Try.call24 (fun w hw => by have := moves_t now q10 n cq10 ts to w (hO10.at ((hw.tailN 3).sub ((List.sublist_append_right Yx14 _).trans (List.sublist_append_right Y14 _)))) hO10.len (by omega); rw [passE_bad q13, if_neg (by decide)] at this; exact this) (qo0 5 [] [1, 2, 5, 6, 7, 8] [(9, .int .i64 0), (10, .int .i64 250)] (on_ (ds_ (sq_ (ao_ (qo0 1 [(0, .go (owns 1 0 2))] [1, 2, 5, 6, 7, 8, 9, 10] [(47, .agg #[.int .i64 now, .slice q10 n cq10])] (cD (.tuple #[.int .i64 0, .bool false]) Try.call9 (fun w hw => by have := next_t now q10 n cq10 ts w (hO10.at ((hw.tailN 3).sub ((List.sublist_append_right Yx14 _).trans (List.sublist_append_right Y14 _)))) hO10.len (by omega); rw [nextV_bad q13] at this; exact this) (qo0 5 [] [1, 2, 5, 6, 7, 8, 9, 10] [(11, .int .i64 0), (12, .bool false)] (on_ (ds_ (sq_ (sq_ (ao_ (qo0 2 [(0, .go (owns 1 0 2)), (1, .go (owns 2 0 2))] [1, 2, 6, 7, 8, 9, 10, 11, 12] [(51, .agg #[.int .i64 now, .slice q10 n cq10]), (52, .agg #[.int .i64 now, .slice p n cap])] (cD (.bool true) Try.call16 (fun w hw => by have := rsame_t now q10 n cq10 ts now p n cap ts w (hO10.at ((hw.tailN 3).sub ((List.sublist_append_right Yx14 _).trans (List.sublist_append_right Y14 _)))) hO10.len (by omega) (hts.kept hw.below) hn (by omega); rw [sameW_refl] at this; exact this) (qo0 1 [] [1, 2, 6, 7, 8, 9, 10, 11, 12] [(54, .bool false)] (on_ (ds_ (f_ (at_skip (ds_ (sq_ (sq_ (ao_ (qo0 1 [(0, .go (owns 2 0 2))] [1, 2, 6, 7, 8, 9, 10, 11, 12] [(55, .agg #[.int .i64 now, .slice p n cap])] (cD (.bool false) Try.call17 (fun w hw => by have := rright_t now p n cap ts w (hts.kept hw.below) hn (by omega); rw [q13] at this; exact this) (qo0 1 [] [1, 2, 6, 7, 8, 9, 10, 11, 12] [(57, .bool true)] (on_ (ds_ (t_ (sq_ (ao_ (qo0 14 [] [6, 7, 12] [(71, .bool true)] ?_)))))))))))))))))))))))))))))))))))))))
   by_cases q26 : ((m14 : Nat) : Int) = (0 : Int)
   ·
    by_cases q28 : ((k14 : Nat) : Int) = (0 : Int)
    ·
     refine qo 14 [(20, .go (owns 0 1 1)), (22, .yes), (27, .yes)] [] [(82, .bool true), (85, .bool true)] ([((m14 : Nat) : Int) = (0 : Int)] ++ ([((k14 : Nat) : Int) = (0 : Int)])) (alA (al1 q26) (al1 q28)) (qo0 2 [] [] [(4, .bool true)] (on_ (ds_ (rt ([]) (.bool true) ?_))))
     exact fun w' hw => ⟨rfl, hw.below⟩
    ·
     refine qo 14 [(20, .go (owns 0 1 1)), (22, .yes), (27, .no)] [] [(82, .bool true), (85, .bool false)] ([((m14 : Nat) : Int) = (0 : Int)] ++ ([¬ (((k14 : Nat) : Int) = (0 : Int))])) (alA (al1 q26) (al1 q28)) (qo0 2 [] [] [(4, .bool false)] (on_ (ds_ (rt ([]) (.bool false) ?_))))
     exfalso; first | omega | (simp only [List.length_nil] at *; omega)
   ·
    refine qo 14 [(20, .go (owns 0 1 1)), (22, .no)] [] [(82, .bool false), (85, undef)] ([¬ (((m14 : Nat) : Int) = (0 : Int))]) (al1 q26) (qo0 2 [] [] [(4, .bool false)] (on_ (ds_ (rt ([]) (.bool false) ?_))))
    exfalso; first | omega | (simp only [List.length_nil] at *; omega)
  ·
   rcases q35 : decide (to < now ∨ 1125899906842624 < to) with _ | _
   ·
    refine cP (fun v L' => ∃ q_ m_ c_ Y_ q2_ m2_ c2_ X_, v = .tuple #[.agg #[.int .i64 to, .slice q_ m_ c_], .slice q2_ m2_ c2_, .int .i64 0] ∧ L' = List.take 2 (bx (γ11 0) (#[.int .i64 now, .slice q10 n cq10]) 24 :: bx (γ1 0) (#[.int .i64 now, .slice p n cap]) 24 :: (Y10 ++ [])) ++ (Y_ ++ (X_ ++ List.drop 2 (bx (γ11 0) (#[.int .i64 now, .slice q10 n cq10]) 24 :: bx (γ1 0) (#[.int .i64 now, .slice p n cap]) 24 :: (Y10 ++ [])))) ∧ SlO 33 Y_ q_ m_ c_ (leL ts to) ∧ SlO 33 X_ q2_ m2_ c2_ (sortT (duL ts to))) Try.call11 (fun w hw => by have := pass_t now q10 n cq10 ts to w (hO10.atN (A := [_, _]) hw) hO10.len (by omega); rw [passW_ok (passE_ok q13 (of_decide_eq_false q35)), passD_ok (passE_ok q13 (of_decide_eq_false q35))] at this; exact this.mono fun e w' ⟨q_, m_, c_, Y_, q2_, m2_, c2_, X_, he, h1, h2, hb, hY⟩ => ⟨_, _, he, ⟨q_, m_, c_, Y_, q2_, m2_, c2_, X_, rfl, rfl, h1, h2⟩, hw.joinT hb hY 2⟩) ?_
    rintro v36 L36 ⟨q36, m36, c36, Y36, p36, k36, d36, Yx36, rfl, rfl, hO36, hP36⟩
    have hm36 := hO36.len
    have hn36 := hP36.len
    have hav := of_decide_eq_false q35
    have hll := leL_len (ts := ts) (to := to)
    have hdl := duL_len (ts := ts) (to := to)
    have hsl := sortT_len (duL ts to)
    refine mo0 8 [(8, .go (owns 0 0 2))] [1, 2, 5] (fun γ37 => [(6, .pointer (some ⟨γ37 0, 0, none⟩)), (7, .slice p36 k36 d36), (8, .int .i64 0)]) (fun γ37 L => bx (γ37 0) (#[.int .i64 to, .slice q36 m36 c36]) 24 :: L) (fun γ37 => on_ (ds_ (sq_ (ao_ (qo0 2 [(0, .go (owns 1 0 2))] [1, 2, 5, 6, 7, 8] [(41, .agg #[.int .i64 now, .slice q10 n cq10]), (42, .int .i64 to)] (cD (.tuple #[.int .i64 (movV now to ts), .int .i64 0]) Try.call24 (fun w hw => by have := moves_t now q10 n cq10 ts to w (hO10.at ((hw.tailN 3).sub ((List.sublist_append_right Yx36 _).trans (List.sublist_append_right Y36 _)))) hO10.len (by omega); rw [passE_ok q13 (of_decide_eq_false q35), if_pos rfl] at this; exact this) (qo0 5 [] [1, 2, 5, 6, 7, 8] [(9, .int .i64 (movV now to ts)), (10, .int .i64 0)] (on_ (ds_ (sq_ (ao_ (qo0 1 [(0, .go (owns 1 0 2))] [1, 2, 5, 6, 7, 8, 9, 10] [(47, .agg #[.int .i64 now, .slice q10 n cq10])] ?_))))))))))))
    rcases q41 : decide (ts = []) with _ | _
    ·
     refine cD (.tuple #[.int .i64 (leastV ts), .bool true]) Try.call9 (fun w hw => by have := next_t now q10 n cq10 ts w (hO10.at ((hw.tailN 3).sub ((List.sublist_append_right Yx36 _).trans (List.sublist_append_right Y36 _)))) hO10.len (by omega); rw [nextV_okd q13 (of_decide_eq_false q41)] at this; exact this) (qo0 5 [] [1, 2, 5, 6, 7, 8, 9, 10] [(11, .int .i64 (leastV ts)), (12, .bool true)] (on_ (ds_ (sq_ (sq_ (ao_ (qo0 2 [(0, .go (owns 1 0 2)), (1, .go (owns 2 0 2))] [1, 2, 6, 7, 8, 9, 10, 11, 12] [(51, .agg #[.int .i64 now, .slice q10 n cq10]), (52, .agg #[.int .i64 now, .slice p n cap])] (cD (.bool true) Try.call16 (fun w hw => by have := rsame_t now q10 n cq10 ts now p n cap ts w (hO10.at ((hw.tailN 3).sub ((List.sublist_append_right Yx36 _).trans (List.sublist_append_right Y36 _)))) hO10.len (by omega) (hts.kept hw.below) hn (by omega); rw [sameW_refl] at this; exact this) (qo0 1 [] [1, 2, 6, 7, 8, 9, 10, 11, 12] [(54, .bool false)] (on_ (ds_ (f_ (at_skip (ds_ (sq_ (sq_ (ao_ (qo0 1 [(0, .go (owns 2 0 2))] [1, 2, 6, 7, 8, 9, 10, 11, 12] [(55, .agg #[.int .i64 now, .slice p n cap])] (cD (.bool true) Try.call17 (fun w hw => by have := rright_t now p n cap ts w (hts.kept hw.below) hn (by omega); rw [q13] at this; exact this) (qo0 1 [] [1, 2, 6, 7, 8, 9, 10, 11, 12] [(57, .bool false)] (on_ (ds_ (f_ (at_skip (ds_ (sq_ (qa0 [] [1, 2, 6, 7, 8, 9, 10, 11, 12] [(13, .int .i64 0)] (ds_ (sq_ (sq_ (qa0 [(1, .go (owns 2 1 1))] [1, 2, 6, 7, 8, 9, 10, 11, 12, 13] [(88, .slice p n cap), (89, .int .i64 ((n : Nat))), (90, .int .i64 0)] (ds_ (at_block (at_loop (α := Nat × Int) [1, 2, 6, 7, 8, 9, 10, 11, 12, 13, 88, 89, 90] (fun ⟨j, c⟩ => [(1, .int .i64 to), (2, .pointer (some ⟨γ1 0, 0, none⟩)), (6, .pointer (some ⟨γ37 0, 0, none⟩)), (7, .slice p36 k36 d36), (8, .int .i64 0), (9, .int .i64 (movV now to ts)), (10, .int .i64 0), (11, .int .i64 (leastV ts)), (12, .bool true), (13, .int .i64 c), (88, .slice p n cap), (89, .int .i64 ((n : Nat))), (90, .int .i64 ((j : Nat)))]) (fun ⟨j, c⟩ => bx (γ37 0) (#[.int .i64 to, .slice q36 m36 c36]) 24 :: bx (γ11 0) (#[.int .i64 now, .slice q10 n cq10]) 24 :: bx (γ1 0) (#[.int .i64 now, .slice p n cap]) 24 :: (Y36 ++ (Yx36 ++ (Y10 ++ [])))) (fun ⟨j, c⟩ => j ≤ n ∧ c = (ts.take j).foldl leastS 0) (fun ⟨j, c⟩ => n - j) (0, 0) (by kernel_rfl) rfl ⟨Nat.zero_le _, rfl⟩ ?_))))))))))))))))))))))))))))))))))
     rintro ⟨j, c⟩
     rintro ⟨hj, hc⟩
     refine sq_ ?_
     by_cases q50 : ((j : Nat) : Int) < ((n : Nat) : Int)
     ·
      refine qa [(0, .yes)] [1, 2, 6, 7, 8, 9, 10, 11, 12, 13, 88, 89, 90] [(91, .bool true)] ([((j : Nat) : Int) < ((n : Nat) : Int)]) (al1 q50) (ds_ (sq_ (t_ (at_skip (ds_ (sq_ (at_block (sq_ ?_))))))))
      obtain ⟨b53, o53, rfl⟩ := hts.pos (i := j) (by omega)
      obtain ⟨x55, hx55⟩ := get_some (l := ts) (m := j) (by omega)
      refine ma [(0, .at b53 o53 j), (1, .go (outs b53 (o53 + j * 2) [.int .i64 x55.id, .int .i64 x55.due])), (3, .go (owns 0 0 2))] [1, 2, 6, 7, 8, 9, 10, 11, 12, 13, 88, 89, 90] (fun γ56 => [(15, .pointer (some ⟨γ56 0, 0, none⟩))]) (fun γ56 L => bx (γ56 0) (#[.int .i64 x55.id, .int .i64 x55.due]) 33 :: L) (fun γ56 => [(some ⟨b53, o53, none⟩ : Option Addr) = some ⟨b53, o53, none⟩, ((j : Nat)) = ((j : Nat) : Int), j < n] ++ (cellsP w b53 (o53 + j * 2) [.int .i64 x55.id, .int .i64 x55.due])) (fun γ56 => (alA (al2 rfl (al2 rfl (al1 (by omega)))) (rd_pre (hts.get hx55) _ rfl))) (fun γ56 => ds_ (sq_ ?_))
      by_cases q58 : (c : Int) = (0 : Int)
      ·
       refine qa [(1, .yes)] [1, 2, 6, 7, 8, 9, 10, 11, 12, 13, 15, 88, 89, 90] [(101, .bool true)] ([(c : Int) = (0 : Int)]) (al1 q58) (ds_ (t_ (qa0 [(1, .go (owns 0 1 1))] [1, 2, 6, 7, 8, 9, 10, 11, 12, 88, 89, 90] [(13, .int .i64 x55.due)] (done_block (ds_ (qa [(0, .fit)] [1, 2, 6, 7, 8, 9, 10, 11, 12, 13, 88, 89] [(90, .int .i64 ((j + 1 : Nat)))] ([Fit .i64 ((j + 1 : Nat))]) (al1 (fit64 (by omega) (by omega))) (Done.drop (L' := bx (γ37 0) (#[.int .i64 to, .slice q36 m36 c36]) 24 :: bx (γ11 0) (#[.int .i64 now, .slice q10 n cq10]) 24 :: bx (γ1 0) (#[.int .i64 now, .slice (some ⟨b53, o53, none⟩) n cap]) 24 :: (Y36 ++ (Yx36 ++ (Y10 ++ [])))) ?_ (List.Sublist.cons _ (List.Sublist.cons_cons _ (List.Sublist.cons_cons _ (List.Sublist.cons_cons _ (List.Sublist.refl _))))))))))))
       exact dr [1, 2, 6, 7, 8, 9, 10, 11, 12, 13, 88, 89, 90] (j + 1, x55.due) ⟨by omega, by rw [least_on hx55, ← hc, least_yes (.inl q58)]⟩
      ·
       by_cases q63 : (x55.due : Int) < (c : Int)
       ·
        refine qa [(1, .no), (4, .go (owns 0 1 1)), (6, .yes)] [1, 2, 6, 7, 8, 9, 10, 11, 12, 13, 15, 88, 89, 90] [(101, .bool true)] ([¬ ((c : Int) = (0 : Int))] ++ ([(x55.due : Int) < (c : Int)])) (alA (al1 q58) (al1 q63)) (ds_ (t_ (qa0 [(1, .go (owns 0 1 1))] [1, 2, 6, 7, 8, 9, 10, 11, 12, 88, 89, 90] [(13, .int .i64 x55.due)] (done_block (ds_ (qa [(0, .fit)] [1, 2, 6, 7, 8, 9, 10, 11, 12, 13, 88, 89] [(90, .int .i64 ((j + 1 : Nat)))] ([Fit .i64 ((j + 1 : Nat))]) (al1 (fit64 (by omega) (by omega))) (Done.drop (L' := bx (γ37 0) (#[.int .i64 to, .slice q36 m36 c36]) 24 :: bx (γ11 0) (#[.int .i64 now, .slice q10 n cq10]) 24 :: bx (γ1 0) (#[.int .i64 now, .slice (some ⟨b53, o53, none⟩) n cap]) 24 :: (Y36 ++ (Yx36 ++ (Y10 ++ [])))) ?_ (List.Sublist.cons _ (List.Sublist.cons_cons _ (List.Sublist.cons_cons _ (List.Sublist.cons_cons _ (List.Sublist.refl _))))))))))))
        exact dr [1, 2, 6, 7, 8, 9, 10, 11, 12, 13, 88, 89, 90] (j + 1, x55.due) ⟨by omega, by rw [least_on hx55, ← hc, least_yes (.inr q63)]⟩
       ·
        refine qa [(1, .no), (4, .go (owns 0 1 1)), (6, .no)] [1, 2, 6, 7, 8, 9, 10, 11, 12, 13, 15, 88, 89, 90] [(101, .bool false)] ([¬ ((c : Int) = (0 : Int))] ++ ([¬ ((x55.due : Int) < (c : Int))])) (alA (al1 q58) (al1 q63)) (ds_ (f_ (at_skip (done_block (ds_ (qa [(0, .fit)] [1, 2, 6, 7, 8, 9, 10, 11, 12, 13, 88, 89] [(90, .int .i64 ((j + 1 : Nat)))] ([Fit .i64 ((j + 1 : Nat))]) (al1 (fit64 (by omega) (by omega))) (Done.drop (L' := bx (γ37 0) (#[.int .i64 to, .slice q36 m36 c36]) 24 :: bx (γ11 0) (#[.int .i64 now, .slice q10 n cq10]) 24 :: bx (γ1 0) (#[.int .i64 now, .slice (some ⟨b53, o53, none⟩) n cap]) 24 :: (Y36 ++ (Yx36 ++ (Y10 ++ [])))) ?_ (List.Sublist.cons _ (List.Sublist.cons_cons _ (List.Sublist.cons_cons _ (List.Sublist.cons_cons _ (List.Sublist.refl _))))))))))))
        exact dr [1, 2, 6, 7, 8, 9, 10, 11, 12, 13, 88, 89, 90] (j + 1, c) ⟨by omega, by rw [least_on hx55, ← hc, least_no (fun h => h.elim q58 q63)]⟩
     ·
      refine qa [(0, .no)] [1, 2, 6, 7, 8, 9, 10, 11, 12, 13, 88, 89, 90] [(91, .bool false)] ([¬ (((j : Nat) : Int) < ((n : Nat) : Int))]) (al1 q50) (ds_ (sq_ (f_ (at_leave _ rfl (ds_ (sq_ (sq_ ?_)))))))
      rw [List.take_of_length_le (by omega)] at hc
      have hcl : c = leastV ts := hc
      have hlp := least_pos (due_pos q13)
      have hl1 := hlp.2 (of_decide_eq_false q41)
      refine qa [(2, .no), (6, .yes), (7, .eqs false)] [1, 2, 6, 7, 8, 9, 10] [(113, .bool false)] ([¬ ((leastV ts : Int) ≠ (c : Int))] ++ ([(c : Int) > (0 : Int)] ++ ([EqRun Try.prog .neq 4 (.tmp 109) (.tmp 111) (.bool true) (.bool true) false]))) (alA (al1 ((by omega))) (alA (al1 ((by omega))) (al1 (bool_ne true true)))) (ds_ (f_ (at_skip (ds_ (sq_ (sq_ ?_))))))
      by_cases q72 : (to : Int) < (now : Int)
      ·
       refine qa [(2, .go (owns 2 0 1)), (3, .yes)] [1, 2, 6, 7, 8, 9, 10] [(121, .bool true)] ([(to : Int) < (now : Int)]) (al1 q72) (ds_ (t_ (sq_ (ao_ (qo0 14 [] [7] [(132, .bool false), (135, undef)] (qo0 8 [] [] [(4, .bool false)] (on_ (ds_ (rt ([]) (.bool false) ?_)))))))))
       exfalso; first | omega | (simp only [List.length_nil] at *; omega)
      ·
       by_cases q77 : (to : Int) > (1125899906842624 : Int)
       ·
        refine qa [(2, .go (owns 2 0 1)), (3, .no), (6, .yes)] [1, 2, 6, 7, 8, 9, 10] [(121, .bool true)] ([¬ ((to : Int) < (now : Int))] ++ ([(to : Int) > (1125899906842624 : Int)])) (alA (al1 q72) (al1 q77)) (ds_ (t_ (sq_ (ao_ (qo0 14 [] [7] [(132, .bool false), (135, undef)] (qo0 8 [] [] [(4, .bool false)] (on_ (ds_ (rt ([]) (.bool false) ?_)))))))))
        exfalso; first | omega | (simp only [List.length_nil] at *; omega)
       ·
        refine qa [(2, .go (owns 2 0 1)), (3, .no), (6, .no)] [1, 2, 6, 7, 8, 9, 10] [(121, .bool false)] ([¬ ((to : Int) < (now : Int))] ++ ([¬ ((to : Int) > (1125899906842624 : Int))])) (alA (al1 q72) (al1 q77)) (ds_ (f_ (at_skip (ds_ (sq_ (ao_ (qo0 2 [(0, .go (owns 2 0 2))] [1, 2, 6, 7, 8, 9, 10] [(144, .agg #[.int .i64 now, .slice p n cap]), (145, .int .i64 to)] (cP (fun v L' => ∃ q_ c_ Y_ q2_ c2_ X_, v = .tuple #[.agg #[.int .i64 to, .slice q_ (leL ts to).length c_], .slice q2_ (rdueL ts to).length c2_] ∧ L' = List.take 3 (bx (γ37 0) (#[.int .i64 to, .slice q36 m36 c36]) 24 :: bx (γ11 0) (#[.int .i64 now, .slice q10 n cq10]) 24 :: bx (γ1 0) (#[.int .i64 now, .slice p n cap]) 24 :: (Y36 ++ (Yx36 ++ (Y10 ++ [])))) ++ (Y_ ++ (X_ ++ List.drop 3 (bx (γ37 0) (#[.int .i64 to, .slice q36 m36 c36]) 24 :: bx (γ11 0) (#[.int .i64 now, .slice q10 n cq10]) 24 :: bx (γ1 0) (#[.int .i64 now, .slice p n cap]) 24 :: (Y36 ++ (Yx36 ++ (Y10 ++ [])))))) ∧ SlO 33 Y_ q_ (leL ts to).length c_ (leL ts to) ∧ SlO 33 X_ q2_ (rdueL ts to).length c2_ (rdueL ts to)) Try.call25 (fun w hw => (rpass_t now p n cap ts to w (hts.kept hw.below) hn (by omega)).mono fun e w' ⟨q_, c_, Y_, q2_, c2_, X_, he, h1, h2, hb, hY⟩ => ⟨_, _, he, ⟨q_, c_, Y_, q2_, c2_, X_, rfl, rfl, h1, h2⟩, hw.joinT hb hY 3⟩) ?_))))))))
        rintro v83 L83 ⟨q83, c83, Y83, p83, d83, Yx83, rfl, rfl, hO83, hP83⟩
        have hrd := congrArg List.length (rdue_is (to := to) (wheel_iff.1 q13).rs)
        refine mo0 6 [(7, .go (owns 0 0 2))] [1, 2, 6, 7, 8, 9, 10] (fun γ84 => [(16, .pointer (some ⟨γ84 0, 0, none⟩)), (17, .slice p83 ((rdueL ts to).length) d83)]) (fun γ84 L => bx (γ84 0) (#[.int .i64 to, .slice q83 ((leL ts to).length) c83]) 24 :: L) (fun γ84 => on_ (ds_ (sq_ (qa0 [] [1, 2, 6, 7, 8, 9, 10, 16, 17] [(18, .int .i64 0)] (ds_ (sq_ (sq_ (qa0 [(1, .go (owns 0 1 1))] [1, 2, 6, 7, 8, 9, 10, 16, 17, 18] [(150, .slice q83 ((leL ts to).length) c83), (151, .int .i64 (((leL ts to).length : Nat))), (152, .int .i64 0)] (ds_ (at_block ?_))))))))))
        have hgw := wheel_iff.1 q13
        have hn0 := hgw.n0
        have hn1 := hgw.n1
        refine at_loop (α := Nat × Int) [1, 2, 6, 7, 8, 9, 10, 16, 17, 18, 150, 151, 152] (fun ⟨i, mv⟩ => [(1, .int .i64 to), (2, .pointer (some ⟨γ1 0, 0, none⟩)), (6, .pointer (some ⟨γ37 0, 0, none⟩)), (7, .slice p36 k36 d36), (8, .int .i64 0), (9, .int .i64 (movV now to ts)), (10, .int .i64 0), (16, .pointer (some ⟨γ84 0, 0, none⟩)), (17, .slice p83 ((rdueL ts to).length) d83), (18, .int .i64 mv), (150, .slice q83 ((leL ts to).length) c83), (151, .int .i64 (((leL ts to).length : Nat))), (152, .int .i64 ((i : Nat)))]) (fun ⟨i, mv⟩ => bx (γ84 0) (#[.int .i64 to, .slice q83 ((leL ts to).length) c83]) 24 :: bx (γ37 0) (#[.int .i64 to, .slice q36 m36 c36]) 24 :: bx (γ11 0) (#[.int .i64 now, .slice q10 n cq10]) 24 :: bx (γ1 0) (#[.int .i64 now, .slice p n cap]) 24 :: (Y83 ++ (Yx83 ++ (Y36 ++ (Yx36 ++ (Y10 ++ [])))))) (fun ⟨i, mv⟩ => i ≤ (leL ts to).length ∧ mv = mvL now to ((leL ts to).take i) ∧ -8 * (i : Int) ≤ mv ∧ mv ≤ 8 * (i : Int)) (fun ⟨i, mv⟩ => (leL ts to).length - i) (0, 0) (by kernel_rfl) rfl ⟨Nat.zero_le _, by simp [mvL], by omega, by omega⟩ ?_
        rintro ⟨i, mv⟩
        rintro ⟨hi, hmv, hm0, hm1⟩
        refine sq_ ?_
        by_cases q88 : ((i : Nat) : Int) < (((leL ts to).length : Nat) : Int)
        ·
         refine qa [(0, .yes)] [1, 2, 6, 7, 8, 9, 10, 16, 17, 18, 150, 151, 152] [(153, .bool true)] ([((i : Nat) : Int) < (((leL ts to).length : Nat) : Int)]) (al1 q88) (ds_ (sq_ (t_ (at_skip (ds_ (sq_ (at_block (sq_ ?_))))))))
         have hln91 := hO83.len
         obtain ⟨g91, cs91, rfl, rfl, hOw91⟩ := hO83.rowOf (i := i) (by omega)
         obtain ⟨x93, hx93⟩ := get_some (l := (leL ts to)) (m := i) (by omega)
         refine ma [(0, .at g91 0 i), (1, .go (ownps 4 (0 + i * 2) [.int .i64 x93.id, .int .i64 x93.due])), (3, .go (owns 0 0 2))] [1, 2, 6, 7, 8, 9, 10, 16, 17, 18, 150, 151, 152] (fun γ94 => [(20, .pointer (some ⟨γ94 0, 0, none⟩))]) (fun γ94 L => bx (γ94 0) (#[.int .i64 x93.id, .int .i64 x93.due]) 33 :: L) (fun γ94 => [(some ⟨g91, 0, none⟩ : Option Addr) = some ⟨g91, 0, none⟩, ((i : Nat)) = ((i : Nat) : Int), i < (leL ts to).length] ++ (acellsP cs91 (0 + i * 2) [.int .i64 x93.id, .int .i64 x93.due])) (fun γ94 => (alA (al2 rfl (al2 rfl (al1 (by omega)))) (rda_pre ((hOw91.rdx hO83.len hx93)) _ rfl))) (fun γ94 => ds_ (sq_ ?_))
         have htm := hgw.tm x93 (mem_leL.1 (List.mem_of_getElem? hx93)).1
         have hpb1 := place_bnd (a := now) (b := x93.due)
         have hpb2 := place_bnd (a := to) (b := x93.due)
         refine ao_ (qo0 4 [(1, .go (owns 4 0 1)), (3, .go (owns 0 1 1))] [1, 2, 6, 7, 8, 9, 10, 16, 17, 18, 20, 150, 151, 152] [(158, .int .i64 now), (160, .int .i64 x93.due)] (cD (.tuple #[.int .i64 ((placeV now x93.due).1), .int .i64 ((placeV now x93.due).2)]) Try.call22 (fun w hw => rplace_t now x93.due w (by omega) (by omega) (by omega) (by omega)) (qo0 5 [] [1, 2, 6, 7, 8, 9, 10, 16, 17, 18, 20, 150, 151, 152] [(21, .int .i64 ((placeV now x93.due).1))] (on_ (ds_ (sq_ (ao_ (qo0 3 [(2, .go (owns 0 1 1))] [1, 2, 6, 7, 8, 9, 10, 16, 17, 18, 21, 150, 151, 152] [(165, .int .i64 to), (167, .int .i64 x93.due)] (cD (.tuple #[.int .i64 ((placeV to x93.due).1), .int .i64 ((placeV to x93.due).2)]) Try.call22 (fun w hw => rplace_t to x93.due w (by omega) (by omega) (by omega) (by omega)) (qo0 5 [] [1, 2, 6, 7, 8, 9, 10, 16, 17, 18, 21, 150, 151, 152] [(23, .int .i64 ((placeV to x93.due).1))] (on_ (ds_ (qa [(3, .fit), (4, .fit)] [1, 2, 6, 7, 8, 9, 10, 16, 17, 150, 151, 152] [(18, .int .i64 (mv + (((placeV now x93.due).1) - ((placeV to x93.due).1))))] ([Fit .i64 (((placeV now x93.due).1) - ((placeV to x93.due).1))] ++ ([Fit .i64 (mv + (((placeV now x93.due).1) - ((placeV to x93.due).1)))])) (alA (al1 (fit64 (by omega) (by omega))) (al1 (fit64 (by omega) (by omega)))) (done_block (ds_ (qa [(0, .fit)] [1, 2, 6, 7, 8, 9, 10, 16, 17, 18, 150, 151] [(152, .int .i64 ((i + 1 : Nat)))] ([Fit .i64 ((i + 1 : Nat))]) (al1 (fit64 (by omega) (by omega))) (Done.pick [[bx (γ94 0) (#[.int .i64 x93.id, .int .i64 x93.due]) 33], [bx (γ84 0) (#[.int .i64 to, .slice (some ⟨g91, 0, none⟩) ((leL ts to).length) c83]) 24], [bx (γ37 0) (#[.int .i64 to, .slice q36 m36 c36]) 24], [bx (γ11 0) (#[.int .i64 now, .slice q10 n cq10]) 24], [bx (γ1 0) (#[.int .i64 now, .slice p n cap]) 24], [bx g91 cs91 33], Yx83, Y36, Yx36, Y10] [1, 2, 3, 4, 5, 6, 7, 8, 9] [0] (bx (γ84 0) (#[.int .i64 to, .slice (some ⟨g91, 0, none⟩) ((leL ts to).length) c83]) 24 :: bx (γ37 0) (#[.int .i64 to, .slice q36 m36 c36]) 24 :: bx (γ11 0) (#[.int .i64 now, .slice q10 n cq10]) 24 :: bx (γ1 0) (#[.int .i64 now, .slice p n cap]) 24 :: ([bx g91 cs91 33] ++ (Yx83 ++ (Y36 ++ (Yx36 ++ (Y10 ++ [])))))) (by kernel_rfl) rfl rfl ?_)))))))))))))))))
         exact dr [1, 2, 6, 7, 8, 9, 10, 16, 17, 18, 150, 151, 152] (i + 1, mv + (((placeV now x93.due).1) - ((placeV to x93.due).1))) ⟨by omega, by rw [mvL_on hx93, ← hmv], by omega, by omega⟩
        ·
         refine qa [(0, .no)] [1, 2, 6, 7, 8, 9, 10, 16, 17, 18, 150, 151, 152] [(153, .bool false)] ([¬ (((i : Nat) : Int) < (((leL ts to).length : Nat) : Int))]) (al1 q88) (ds_ (sq_ (f_ (at_leave _ rfl (ds_ (sq_ ?_))))))
         rw [List.take_of_length_le (by omega)] at hmv
         have hme := mvL_is (now := now) (to := to) (ts := ts)
         refine ao_ (qo0 9 [(7, .go (owns 1 0 2)), (8, .go (owns 0 0 2))] [7, 9, 17, 18] [(183, .bool true), (184, .agg #[.int .i64 to, .slice q36 m36 c36]), (185, .agg #[.int .i64 to, .slice q83 ((leL ts to).length) c83])] (cD (.bool true) Try.call16 (fun w hw => by have := rsame_t to q36 m36 c36 ((leL ts to)) to q83 ((leL ts to).length) c83 ((leL ts to)) w (hO36.at ((hw.tailN 4).sub ((List.sublist_append_right Yx83 _).trans (List.sublist_append_right Y83 _)))) hO36.len (by omega) (hO83.atN (A := [_, _, _, _]) hw) hO83.len (by omega); rw [sameW_refl] at this; exact this) (qo0 4 [] [9, 18] [(188, .bool true), (189, .slice p36 k36 d36), (190, .slice p83 ((rdueL ts to).length) d83)] (cD (.bool true) Try.call26 (fun w hw => by have e_ : decide (sortT (duL ts to) = rdueL ts to) = true := decide_eq_true (rdue_is (wheel_iff.1 q13).rs).symm; have := stimers_t p36 k36 d36 ((sortT (duL ts to))) p83 ((rdueL ts to).length) d83 ((rdueL ts to)) w (hP36.at ((hw.tailN 4).sub (((List.sublist_append_right Y36 _).trans (List.sublist_append_right Yx83 _)).trans (List.sublist_append_right Y83 _)))) hP36.len (by omega) (hP83.atN (A := (_ :: _ :: _ :: _ :: Y83)) hw) hP83.len (by omega); rw [e_] at this; exact this) (qo 7 [(19, .yes)] [] [(4, .bool true)] ([(movV now to ts : Int) = (mv : Int)]) (al1 ((by omega))) (on_ (ds_ (rt ([]) (.bool true) ?_))))))))
         exact fun w' hw => ⟨rfl, hw.below⟩
    ·
     refine cD (.tuple #[.int .i64 0, .bool false]) Try.call9 (fun w hw => by have := next_t now q10 n cq10 ts w (hO10.at ((hw.tailN 3).sub ((List.sublist_append_right Yx36 _).trans (List.sublist_append_right Y36 _)))) hO10.len (by omega); rw [nextV_nil (by rw [of_decide_eq_true q41]; rfl)] at this; exact this) (qo0 5 [] [1, 2, 5, 6, 7, 8, 9, 10] [(11, .int .i64 0), (12, .bool false)] (on_ (ds_ (sq_ (sq_ (ao_ (qo0 2 [(0, .go (owns 1 0 2)), (1, .go (owns 2 0 2))] [1, 2, 6, 7, 8, 9, 10, 11, 12] [(51, .agg #[.int .i64 now, .slice q10 n cq10]), (52, .agg #[.int .i64 now, .slice p n cap])] (cD (.bool true) Try.call16 (fun w hw => by have := rsame_t now q10 n cq10 ts now p n cap ts w (hO10.at ((hw.tailN 3).sub ((List.sublist_append_right Yx36 _).trans (List.sublist_append_right Y36 _)))) hO10.len (by omega) (hts.kept hw.below) hn (by omega); rw [sameW_refl] at this; exact this) (qo0 1 [] [1, 2, 6, 7, 8, 9, 10, 11, 12] [(54, .bool false)] (on_ (ds_ (f_ (at_skip (ds_ (sq_ (sq_ (ao_ (qo0 1 [(0, .go (owns 2 0 2))] [1, 2, 6, 7, 8, 9, 10, 11, 12] [(55, .agg #[.int .i64 now, .slice p n cap])] (cD (.bool true) Try.call17 (fun w hw => by have := rright_t now p n cap ts w (hts.kept hw.below) hn (by omega); rw [q13] at this; exact this) (qo0 1 [] [1, 2, 6, 7, 8, 9, 10, 11, 12] [(57, .bool false)] (on_ (ds_ (f_ (at_skip (ds_ (sq_ (qa0 [] [1, 2, 6, 7, 8, 9, 10, 11, 12] [(13, .int .i64 0)] (ds_ (sq_ (sq_ (qa0 [(1, .go (owns 2 1 1))] [1, 2, 6, 7, 8, 9, 10, 11, 12, 13] [(88, .slice p n cap), (89, .int .i64 ((n : Nat))), (90, .int .i64 0)] (ds_ (at_block (at_loop (α := Nat × Int) [1, 2, 6, 7, 8, 9, 10, 11, 12, 13, 88, 89, 90] (fun ⟨j, c⟩ => [(1, .int .i64 to), (2, .pointer (some ⟨γ1 0, 0, none⟩)), (6, .pointer (some ⟨γ37 0, 0, none⟩)), (7, .slice p36 k36 d36), (8, .int .i64 0), (9, .int .i64 (movV now to ts)), (10, .int .i64 0), (11, .int .i64 0), (12, .bool false), (13, .int .i64 c), (88, .slice p n cap), (89, .int .i64 ((n : Nat))), (90, .int .i64 ((j : Nat)))]) (fun ⟨j, c⟩ => bx (γ37 0) (#[.int .i64 to, .slice q36 m36 c36]) 24 :: bx (γ11 0) (#[.int .i64 now, .slice q10 n cq10]) 24 :: bx (γ1 0) (#[.int .i64 now, .slice p n cap]) 24 :: (Y36 ++ (Yx36 ++ (Y10 ++ [])))) (fun ⟨j, c⟩ => j ≤ n ∧ c = (ts.take j).foldl leastS 0) (fun ⟨j, c⟩ => n - j) (0, 0) (by kernel_rfl) rfl ⟨Nat.zero_le _, rfl⟩ ?_))))))))))))))))))))))))))))))))))
     rintro ⟨j, c⟩
     rintro ⟨hj, hc⟩
     refine sq_ ?_
     by_cases q113 : ((j : Nat) : Int) < ((n : Nat) : Int)
     ·
      refine qa [(0, .yes)] [1, 2, 6, 7, 8, 9, 10, 11, 12, 13, 88, 89, 90] [(91, .bool true)] ([((j : Nat) : Int) < ((n : Nat) : Int)]) (al1 q113) (ds_ (sq_ (t_ (at_skip (ds_ (sq_ (at_block (sq_ ?_))))))))
      obtain ⟨b116, o116, rfl⟩ := hts.pos (i := j) (by omega)
      obtain ⟨x118, hx118⟩ := get_some (l := ts) (m := j) (by omega)
      refine ma [(0, .at b116 o116 j), (1, .go (outs b116 (o116 + j * 2) [.int .i64 x118.id, .int .i64 x118.due])), (3, .go (owns 0 0 2))] [1, 2, 6, 7, 8, 9, 10, 11, 12, 13, 88, 89, 90] (fun γ119 => [(15, .pointer (some ⟨γ119 0, 0, none⟩))]) (fun γ119 L => bx (γ119 0) (#[.int .i64 x118.id, .int .i64 x118.due]) 33 :: L) (fun γ119 => [(some ⟨b116, o116, none⟩ : Option Addr) = some ⟨b116, o116, none⟩, ((j : Nat)) = ((j : Nat) : Int), j < n] ++ (cellsP w b116 (o116 + j * 2) [.int .i64 x118.id, .int .i64 x118.due])) (fun γ119 => (alA (al2 rfl (al2 rfl (al1 (by omega)))) (rd_pre (hts.get hx118) _ rfl))) (fun γ119 => ds_ (sq_ ?_))
      by_cases q121 : (c : Int) = (0 : Int)
      ·
       refine qa [(1, .yes)] [1, 2, 6, 7, 8, 9, 10, 11, 12, 13, 15, 88, 89, 90] [(101, .bool true)] ([(c : Int) = (0 : Int)]) (al1 q121) (ds_ (t_ (qa0 [(1, .go (owns 0 1 1))] [1, 2, 6, 7, 8, 9, 10, 11, 12, 88, 89, 90] [(13, .int .i64 x118.due)] (done_block (ds_ (qa [(0, .fit)] [1, 2, 6, 7, 8, 9, 10, 11, 12, 13, 88, 89] [(90, .int .i64 ((j + 1 : Nat)))] ([Fit .i64 ((j + 1 : Nat))]) (al1 (fit64 (by omega) (by omega))) (Done.drop (L' := bx (γ37 0) (#[.int .i64 to, .slice q36 m36 c36]) 24 :: bx (γ11 0) (#[.int .i64 now, .slice q10 n cq10]) 24 :: bx (γ1 0) (#[.int .i64 now, .slice (some ⟨b116, o116, none⟩) n cap]) 24 :: (Y36 ++ (Yx36 ++ (Y10 ++ [])))) ?_ (List.Sublist.cons _ (List.Sublist.cons_cons _ (List.Sublist.cons_cons _ (List.Sublist.cons_cons _ (List.Sublist.refl _))))))))))))
       exact dr [1, 2, 6, 7, 8, 9, 10, 11, 12, 13, 88, 89, 90] (j + 1, x118.due) ⟨by omega, by rw [least_on hx118, ← hc, least_yes (.inl q121)]⟩
      ·
       by_cases q126 : (x118.due : Int) < (c : Int)
       ·
        refine qa [(1, .no), (4, .go (owns 0 1 1)), (6, .yes)] [1, 2, 6, 7, 8, 9, 10, 11, 12, 13, 15, 88, 89, 90] [(101, .bool true)] ([¬ ((c : Int) = (0 : Int))] ++ ([(x118.due : Int) < (c : Int)])) (alA (al1 q121) (al1 q126)) (ds_ (t_ (qa0 [(1, .go (owns 0 1 1))] [1, 2, 6, 7, 8, 9, 10, 11, 12, 88, 89, 90] [(13, .int .i64 x118.due)] (done_block (ds_ (qa [(0, .fit)] [1, 2, 6, 7, 8, 9, 10, 11, 12, 13, 88, 89] [(90, .int .i64 ((j + 1 : Nat)))] ([Fit .i64 ((j + 1 : Nat))]) (al1 (fit64 (by omega) (by omega))) (Done.drop (L' := bx (γ37 0) (#[.int .i64 to, .slice q36 m36 c36]) 24 :: bx (γ11 0) (#[.int .i64 now, .slice q10 n cq10]) 24 :: bx (γ1 0) (#[.int .i64 now, .slice (some ⟨b116, o116, none⟩) n cap]) 24 :: (Y36 ++ (Yx36 ++ (Y10 ++ [])))) ?_ (List.Sublist.cons _ (List.Sublist.cons_cons _ (List.Sublist.cons_cons _ (List.Sublist.cons_cons _ (List.Sublist.refl _))))))))))))
        exact dr [1, 2, 6, 7, 8, 9, 10, 11, 12, 13, 88, 89, 90] (j + 1, x118.due) ⟨by omega, by rw [least_on hx118, ← hc, least_yes (.inr q126)]⟩
       ·
        refine qa [(1, .no), (4, .go (owns 0 1 1)), (6, .no)] [1, 2, 6, 7, 8, 9, 10, 11, 12, 13, 15, 88, 89, 90] [(101, .bool false)] ([¬ ((c : Int) = (0 : Int))] ++ ([¬ ((x118.due : Int) < (c : Int))])) (alA (al1 q121) (al1 q126)) (ds_ (f_ (at_skip (done_block (ds_ (qa [(0, .fit)] [1, 2, 6, 7, 8, 9, 10, 11, 12, 13, 88, 89] [(90, .int .i64 ((j + 1 : Nat)))] ([Fit .i64 ((j + 1 : Nat))]) (al1 (fit64 (by omega) (by omega))) (Done.drop (L' := bx (γ37 0) (#[.int .i64 to, .slice q36 m36 c36]) 24 :: bx (γ11 0) (#[.int .i64 now, .slice q10 n cq10]) 24 :: bx (γ1 0) (#[.int .i64 now, .slice (some ⟨b116, o116, none⟩) n cap]) 24 :: (Y36 ++ (Yx36 ++ (Y10 ++ [])))) ?_ (List.Sublist.cons _ (List.Sublist.cons_cons _ (List.Sublist.cons_cons _ (List.Sublist.cons_cons _ (List.Sublist.refl _))))))))))))
        exact dr [1, 2, 6, 7, 8, 9, 10, 11, 12, 13, 88, 89, 90] (j + 1, c) ⟨by omega, by rw [least_on hx118, ← hc, least_no (fun h => h.elim q121 q126)]⟩
     ·
      refine qa [(0, .no)] [1, 2, 6, 7, 8, 9, 10, 11, 12, 13, 88, 89, 90] [(91, .bool false)] ([¬ (((j : Nat) : Int) < ((n : Nat) : Int))]) (al1 q113) (ds_ (sq_ (f_ (at_leave _ rfl (ds_ (sq_ (sq_ ?_)))))))
      rw [List.take_of_length_le (by omega)] at hc
      have hcl : c = leastV ts := hc
      have hlp := least_pos (due_pos q13)
      have hl0 : leastV ts = 0 := by rw [of_decide_eq_true q41]; rfl
      refine qa [(2, .no), (6, .no), (7, .eqs false)] [1, 2, 6, 7, 8, 9, 10] [(113, .bool false)] ([¬ ((0 : Int) ≠ (c : Int))] ++ ([¬ ((c : Int) > (0 : Int))] ++ ([EqRun Try.prog .neq 4 (.tmp 109) (.tmp 111) (.bool false) (.bool false) false]))) (alA (al1 ((by omega))) (alA (al1 ((by omega))) (al1 (bool_ne false false)))) (ds_ (f_ (at_skip (ds_ (sq_ (sq_ ?_))))))
      by_cases q135 : (to : Int) < (now : Int)
      ·
       refine qa [(2, .go (owns 2 0 1)), (3, .yes)] [1, 2, 6, 7, 8, 9, 10] [(121, .bool true)] ([(to : Int) < (now : Int)]) (al1 q135) (ds_ (t_ (sq_ (ao_ (qo0 14 [] [7] [(132, .bool false), (135, undef)] (qo0 8 [] [] [(4, .bool false)] (on_ (ds_ (rt ([]) (.bool false) ?_)))))))))
       exfalso; first | omega | (simp only [List.length_nil] at *; omega)
      ·
       by_cases q140 : (to : Int) > (1125899906842624 : Int)
       ·
        refine qa [(2, .go (owns 2 0 1)), (3, .no), (6, .yes)] [1, 2, 6, 7, 8, 9, 10] [(121, .bool true)] ([¬ ((to : Int) < (now : Int))] ++ ([(to : Int) > (1125899906842624 : Int)])) (alA (al1 q135) (al1 q140)) (ds_ (t_ (sq_ (ao_ (qo0 14 [] [7] [(132, .bool false), (135, undef)] (qo0 8 [] [] [(4, .bool false)] (on_ (ds_ (rt ([]) (.bool false) ?_)))))))))
        exfalso; first | omega | (simp only [List.length_nil] at *; omega)
       ·
        refine qa [(2, .go (owns 2 0 1)), (3, .no), (6, .no)] [1, 2, 6, 7, 8, 9, 10] [(121, .bool false)] ([¬ ((to : Int) < (now : Int))] ++ ([¬ ((to : Int) > (1125899906842624 : Int))])) (alA (al1 q135) (al1 q140)) (ds_ (f_ (at_skip (ds_ (sq_ (ao_ (qo0 2 [(0, .go (owns 2 0 2))] [1, 2, 6, 7, 8, 9, 10] [(144, .agg #[.int .i64 now, .slice p n cap]), (145, .int .i64 to)] (cP (fun v L' => ∃ q_ c_ Y_ q2_ c2_ X_, v = .tuple #[.agg #[.int .i64 to, .slice q_ (leL ts to).length c_], .slice q2_ (rdueL ts to).length c2_] ∧ L' = List.take 3 (bx (γ37 0) (#[.int .i64 to, .slice q36 m36 c36]) 24 :: bx (γ11 0) (#[.int .i64 now, .slice q10 n cq10]) 24 :: bx (γ1 0) (#[.int .i64 now, .slice p n cap]) 24 :: (Y36 ++ (Yx36 ++ (Y10 ++ [])))) ++ (Y_ ++ (X_ ++ List.drop 3 (bx (γ37 0) (#[.int .i64 to, .slice q36 m36 c36]) 24 :: bx (γ11 0) (#[.int .i64 now, .slice q10 n cq10]) 24 :: bx (γ1 0) (#[.int .i64 now, .slice p n cap]) 24 :: (Y36 ++ (Yx36 ++ (Y10 ++ [])))))) ∧ SlO 33 Y_ q_ (leL ts to).length c_ (leL ts to) ∧ SlO 33 X_ q2_ (rdueL ts to).length c2_ (rdueL ts to)) Try.call25 (fun w hw => (rpass_t now p n cap ts to w (hts.kept hw.below) hn (by omega)).mono fun e w' ⟨q_, c_, Y_, q2_, c2_, X_, he, h1, h2, hb, hY⟩ => ⟨_, _, he, ⟨q_, c_, Y_, q2_, c2_, X_, rfl, rfl, h1, h2⟩, hw.joinT hb hY 3⟩) ?_))))))))
        rintro v146 L146 ⟨q146, c146, Y146, p146, d146, Yx146, rfl, rfl, hO146, hP146⟩
        have hrd := congrArg List.length (rdue_is (to := to) (wheel_iff.1 q13).rs)
        refine mo0 6 [(7, .go (owns 0 0 2))] [1, 2, 6, 7, 8, 9, 10] (fun γ147 => [(16, .pointer (some ⟨γ147 0, 0, none⟩)), (17, .slice p146 ((rdueL ts to).length) d146)]) (fun γ147 L => bx (γ147 0) (#[.int .i64 to, .slice q146 ((leL ts to).length) c146]) 24 :: L) (fun γ147 => on_ (ds_ (sq_ (qa0 [] [1, 2, 6, 7, 8, 9, 10, 16, 17] [(18, .int .i64 0)] (ds_ (sq_ (sq_ (qa0 [(1, .go (owns 0 1 1))] [1, 2, 6, 7, 8, 9, 10, 16, 17, 18] [(150, .slice q146 ((leL ts to).length) c146), (151, .int .i64 (((leL ts to).length : Nat))), (152, .int .i64 0)] (ds_ (at_block ?_))))))))))
        have hgw := wheel_iff.1 q13
        have hn0 := hgw.n0
        have hn1 := hgw.n1
        refine at_loop (α := Nat × Int) [1, 2, 6, 7, 8, 9, 10, 16, 17, 18, 150, 151, 152] (fun ⟨i, mv⟩ => [(1, .int .i64 to), (2, .pointer (some ⟨γ1 0, 0, none⟩)), (6, .pointer (some ⟨γ37 0, 0, none⟩)), (7, .slice p36 k36 d36), (8, .int .i64 0), (9, .int .i64 (movV now to ts)), (10, .int .i64 0), (16, .pointer (some ⟨γ147 0, 0, none⟩)), (17, .slice p146 ((rdueL ts to).length) d146), (18, .int .i64 mv), (150, .slice q146 ((leL ts to).length) c146), (151, .int .i64 (((leL ts to).length : Nat))), (152, .int .i64 ((i : Nat)))]) (fun ⟨i, mv⟩ => bx (γ147 0) (#[.int .i64 to, .slice q146 ((leL ts to).length) c146]) 24 :: bx (γ37 0) (#[.int .i64 to, .slice q36 m36 c36]) 24 :: bx (γ11 0) (#[.int .i64 now, .slice q10 n cq10]) 24 :: bx (γ1 0) (#[.int .i64 now, .slice p n cap]) 24 :: (Y146 ++ (Yx146 ++ (Y36 ++ (Yx36 ++ (Y10 ++ [])))))) (fun ⟨i, mv⟩ => i ≤ (leL ts to).length ∧ mv = mvL now to ((leL ts to).take i) ∧ -8 * (i : Int) ≤ mv ∧ mv ≤ 8 * (i : Int)) (fun ⟨i, mv⟩ => (leL ts to).length - i) (0, 0) (by kernel_rfl) rfl ⟨Nat.zero_le _, by simp [mvL], by omega, by omega⟩ ?_
        rintro ⟨i, mv⟩
        rintro ⟨hi, hmv, hm0, hm1⟩
        refine sq_ ?_
        by_cases q151 : ((i : Nat) : Int) < (((leL ts to).length : Nat) : Int)
        ·
         refine qa [(0, .yes)] [1, 2, 6, 7, 8, 9, 10, 16, 17, 18, 150, 151, 152] [(153, .bool true)] ([((i : Nat) : Int) < (((leL ts to).length : Nat) : Int)]) (al1 q151) (ds_ (sq_ (t_ (at_skip (ds_ (sq_ (at_block (sq_ ?_))))))))
         have hln154 := hO146.len
         obtain ⟨g154, cs154, rfl, rfl, hOw154⟩ := hO146.rowOf (i := i) (by omega)
         obtain ⟨x156, hx156⟩ := get_some (l := (leL ts to)) (m := i) (by omega)
         refine ma [(0, .at g154 0 i), (1, .go (ownps 4 (0 + i * 2) [.int .i64 x156.id, .int .i64 x156.due])), (3, .go (owns 0 0 2))] [1, 2, 6, 7, 8, 9, 10, 16, 17, 18, 150, 151, 152] (fun γ157 => [(20, .pointer (some ⟨γ157 0, 0, none⟩))]) (fun γ157 L => bx (γ157 0) (#[.int .i64 x156.id, .int .i64 x156.due]) 33 :: L) (fun γ157 => [(some ⟨g154, 0, none⟩ : Option Addr) = some ⟨g154, 0, none⟩, ((i : Nat)) = ((i : Nat) : Int), i < (leL ts to).length] ++ (acellsP cs154 (0 + i * 2) [.int .i64 x156.id, .int .i64 x156.due])) (fun γ157 => (alA (al2 rfl (al2 rfl (al1 (by omega)))) (rda_pre ((hOw154.rdx hO146.len hx156)) _ rfl))) (fun γ157 => ds_ (sq_ ?_))
         have htm := hgw.tm x156 (mem_leL.1 (List.mem_of_getElem? hx156)).1
         have hpb1 := place_bnd (a := now) (b := x156.due)
         have hpb2 := place_bnd (a := to) (b := x156.due)
         refine ao_ (qo0 4 [(1, .go (owns 4 0 1)), (3, .go (owns 0 1 1))] [1, 2, 6, 7, 8, 9, 10, 16, 17, 18, 20, 150, 151, 152] [(158, .int .i64 now), (160, .int .i64 x156.due)] (cD (.tuple #[.int .i64 ((placeV now x156.due).1), .int .i64 ((placeV now x156.due).2)]) Try.call22 (fun w hw => rplace_t now x156.due w (by omega) (by omega) (by omega) (by omega)) (qo0 5 [] [1, 2, 6, 7, 8, 9, 10, 16, 17, 18, 20, 150, 151, 152] [(21, .int .i64 ((placeV now x156.due).1))] (on_ (ds_ (sq_ (ao_ (qo0 3 [(2, .go (owns 0 1 1))] [1, 2, 6, 7, 8, 9, 10, 16, 17, 18, 21, 150, 151, 152] [(165, .int .i64 to), (167, .int .i64 x156.due)] (cD (.tuple #[.int .i64 ((placeV to x156.due).1), .int .i64 ((placeV to x156.due).2)]) Try.call22 (fun w hw => rplace_t to x156.due w (by omega) (by omega) (by omega) (by omega)) (qo0 5 [] [1, 2, 6, 7, 8, 9, 10, 16, 17, 18, 21, 150, 151, 152] [(23, .int .i64 ((placeV to x156.due).1))] (on_ (ds_ (qa [(3, .fit), (4, .fit)] [1, 2, 6, 7, 8, 9, 10, 16, 17, 150, 151, 152] [(18, .int .i64 (mv + (((placeV now x156.due).1) - ((placeV to x156.due).1))))] ([Fit .i64 (((placeV now x156.due).1) - ((placeV to x156.due).1))] ++ ([Fit .i64 (mv + (((placeV now x156.due).1) - ((placeV to x156.due).1)))])) (alA (al1 (fit64 (by omega) (by omega))) (al1 (fit64 (by omega) (by omega)))) (done_block (ds_ (qa [(0, .fit)] [1, 2, 6, 7, 8, 9, 10, 16, 17, 18, 150, 151] [(152, .int .i64 ((i + 1 : Nat)))] ([Fit .i64 ((i + 1 : Nat))]) (al1 (fit64 (by omega) (by omega))) (Done.pick [[bx (γ157 0) (#[.int .i64 x156.id, .int .i64 x156.due]) 33], [bx (γ147 0) (#[.int .i64 to, .slice (some ⟨g154, 0, none⟩) ((leL ts to).length) c146]) 24], [bx (γ37 0) (#[.int .i64 to, .slice q36 m36 c36]) 24], [bx (γ11 0) (#[.int .i64 now, .slice q10 n cq10]) 24], [bx (γ1 0) (#[.int .i64 now, .slice p n cap]) 24], [bx g154 cs154 33], Yx146, Y36, Yx36, Y10] [1, 2, 3, 4, 5, 6, 7, 8, 9] [0] (bx (γ147 0) (#[.int .i64 to, .slice (some ⟨g154, 0, none⟩) ((leL ts to).length) c146]) 24 :: bx (γ37 0) (#[.int .i64 to, .slice q36 m36 c36]) 24 :: bx (γ11 0) (#[.int .i64 now, .slice q10 n cq10]) 24 :: bx (γ1 0) (#[.int .i64 now, .slice p n cap]) 24 :: ([bx g154 cs154 33] ++ (Yx146 ++ (Y36 ++ (Yx36 ++ (Y10 ++ [])))))) (by kernel_rfl) rfl rfl ?_)))))))))))))))))
         exact dr [1, 2, 6, 7, 8, 9, 10, 16, 17, 18, 150, 151, 152] (i + 1, mv + (((placeV now x156.due).1) - ((placeV to x156.due).1))) ⟨by omega, by rw [mvL_on hx156, ← hmv], by omega, by omega⟩
        ·
         refine qa [(0, .no)] [1, 2, 6, 7, 8, 9, 10, 16, 17, 18, 150, 151, 152] [(153, .bool false)] ([¬ (((i : Nat) : Int) < (((leL ts to).length : Nat) : Int))]) (al1 q151) (ds_ (sq_ (f_ (at_leave _ rfl (ds_ (sq_ ?_))))))
         rw [List.take_of_length_le (by omega)] at hmv
         have hme := mvL_is (now := now) (to := to) (ts := ts)
         refine ao_ (qo0 9 [(7, .go (owns 1 0 2)), (8, .go (owns 0 0 2))] [7, 9, 17, 18] [(183, .bool true), (184, .agg #[.int .i64 to, .slice q36 m36 c36]), (185, .agg #[.int .i64 to, .slice q146 ((leL ts to).length) c146])] (cD (.bool true) Try.call16 (fun w hw => by have := rsame_t to q36 m36 c36 ((leL ts to)) to q146 ((leL ts to).length) c146 ((leL ts to)) w (hO36.at ((hw.tailN 4).sub ((List.sublist_append_right Yx146 _).trans (List.sublist_append_right Y146 _)))) hO36.len (by omega) (hO146.atN (A := [_, _, _, _]) hw) hO146.len (by omega); rw [sameW_refl] at this; exact this) (qo0 4 [] [9, 18] [(188, .bool true), (189, .slice p36 k36 d36), (190, .slice p146 ((rdueL ts to).length) d146)] (cD (.bool true) Try.call26 (fun w hw => by have e_ : decide (sortT (duL ts to) = rdueL ts to) = true := decide_eq_true (rdue_is (wheel_iff.1 q13).rs).symm; have := stimers_t p36 k36 d36 ((sortT (duL ts to))) p146 ((rdueL ts to).length) d146 ((rdueL ts to)) w (hP36.at ((hw.tailN 4).sub (((List.sublist_append_right Y36 _).trans (List.sublist_append_right Yx146 _)).trans (List.sublist_append_right Y146 _)))) hP36.len (by omega) (hP146.atN (A := (_ :: _ :: _ :: _ :: Y146)) hw) hP146.len (by omega); rw [e_] at this; exact this) (qo 7 [(19, .yes)] [] [(4, .bool true)] ([(movV now to ts : Int) = (mv : Int)]) (al1 ((by omega))) (on_ (ds_ (rt ([]) (.bool true) ?_))))))))
         exact fun w' hw => ⟨rfl, hw.below⟩
   ·
    refine cP (fun v L' => ∃ q_ m_ c_ Y_ q2_ m2_ c2_ X_, v = .tuple #[.agg #[.int .i64 0, .slice q_ m_ c_], .slice q2_ m2_ c2_, .int .i64 2] ∧ L' = List.take 2 (bx (γ11 0) (#[.int .i64 now, .slice q10 n cq10]) 24 :: bx (γ1 0) (#[.int .i64 now, .slice p n cap]) 24 :: (Y10 ++ [])) ++ (Y_ ++ (X_ ++ List.drop 2 (bx (γ11 0) (#[.int .i64 now, .slice q10 n cq10]) 24 :: bx (γ1 0) (#[.int .i64 now, .slice p n cap]) 24 :: (Y10 ++ [])))) ∧ SlO 33 Y_ q_ m_ c_ ([] : List Tim) ∧ SlO 33 X_ q2_ m2_ c2_ ([] : List Tim)) Try.call11 (fun w hw => by have := pass_t now q10 n cq10 ts to w (hO10.atN (A := [_, _]) hw) hO10.len (by omega); rw [passW_no (show passE now ts to ≠ 0 from by rw [passE_arg q13 (of_decide_eq_true q35)]; decide), passD_no (show passE now ts to ≠ 0 from by rw [passE_arg q13 (of_decide_eq_true q35)]; decide), passE_arg q13 (of_decide_eq_true q35)] at this; exact this.mono fun e w' ⟨q_, m_, c_, Y_, q2_, m2_, c2_, X_, he, h1, h2, hb, hY⟩ => ⟨_, _, he, ⟨q_, m_, c_, Y_, q2_, m2_, c2_, X_, rfl, rfl, h1, h2⟩, hw.joinT hb hY 2⟩) ?_
    rintro v168 L168 ⟨q168, m168, c168, Y168, p168, k168, d168, Yx168, rfl, rfl, hO168, hP168⟩
    have hm168 := hO168.len
    have hn168 := hP168.len
    have hav := of_decide_eq_true q35
    simp only [List.length_cons, List.length_nil] at hm168
    simp only [List.length_cons, List.length_nil] at hn168
    refine mo0 8 [(8, .go (owns 0 0 2))] [1, 2, 5] (fun γ169 => [(6, .pointer (some ⟨γ169 0, 0, none⟩)), (7, .slice p168 k168 d168), (8, .int .i64 2)]) (fun γ169 L => bx (γ169 0) (#[.int .i64 0, .slice q168 m168 c168]) 24 :: L) (fun γ169 => on_ (ds_ (sq_ (ao_ (qo0 2 [(0, .go (owns 1 0 2))] [1, 2, 5, 6, 7, 8] [(41, .agg #[.int .i64 now, .slice q10 n cq10]), (42, .int .i64 to)] (cD (.tuple #[.int .i64 0, .int .i64 2]) Try.call24 (fun w hw => by have := moves_t now q10 n cq10 ts to w (hO10.at ((hw.tailN 3).sub ((List.sublist_append_right Yx168 _).trans (List.sublist_append_right Y168 _)))) hO10.len (by omega); rw [passE_arg q13 (of_decide_eq_true q35), if_neg (by decide)] at this; exact this) (qo0 5 [] [1, 2, 5, 6, 7, 8] [(9, .int .i64 0), (10, .int .i64 2)] (on_ (ds_ (sq_ (ao_ (qo0 1 [(0, .go (owns 1 0 2))] [1, 2, 5, 6, 7, 8, 9, 10] [(47, .agg #[.int .i64 now, .slice q10 n cq10])] ?_))))))))))))
    rcases q173 : decide (ts = []) with _ | _
    ·
     refine cD (.tuple #[.int .i64 (leastV ts), .bool true]) Try.call9 (fun w hw => by have := next_t now q10 n cq10 ts w (hO10.at ((hw.tailN 3).sub ((List.sublist_append_right Yx168 _).trans (List.sublist_append_right Y168 _)))) hO10.len (by omega); rw [nextV_okd q13 (of_decide_eq_false q173)] at this; exact this) (qo0 5 [] [1, 2, 5, 6, 7, 8, 9, 10] [(11, .int .i64 (leastV ts)), (12, .bool true)] (on_ (ds_ (sq_ (sq_ (ao_ (qo0 2 [(0, .go (owns 1 0 2)), (1, .go (owns 2 0 2))] [1, 2, 6, 7, 8, 9, 10, 11, 12] [(51, .agg #[.int .i64 now, .slice q10 n cq10]), (52, .agg #[.int .i64 now, .slice p n cap])] (cD (.bool true) Try.call16 (fun w hw => by have := rsame_t now q10 n cq10 ts now p n cap ts w (hO10.at ((hw.tailN 3).sub ((List.sublist_append_right Yx168 _).trans (List.sublist_append_right Y168 _)))) hO10.len (by omega) (hts.kept hw.below) hn (by omega); rw [sameW_refl] at this; exact this) (qo0 1 [] [1, 2, 6, 7, 8, 9, 10, 11, 12] [(54, .bool false)] (on_ (ds_ (f_ (at_skip (ds_ (sq_ (sq_ (ao_ (qo0 1 [(0, .go (owns 2 0 2))] [1, 2, 6, 7, 8, 9, 10, 11, 12] [(55, .agg #[.int .i64 now, .slice p n cap])] (cD (.bool true) Try.call17 (fun w hw => by have := rright_t now p n cap ts w (hts.kept hw.below) hn (by omega); rw [q13] at this; exact this) (qo0 1 [] [1, 2, 6, 7, 8, 9, 10, 11, 12] [(57, .bool false)] (on_ (ds_ (f_ (at_skip (ds_ (sq_ (qa0 [] [1, 2, 6, 7, 8, 9, 10, 11, 12] [(13, .int .i64 0)] (ds_ (sq_ (sq_ (qa0 [(1, .go (owns 2 1 1))] [1, 2, 6, 7, 8, 9, 10, 11, 12, 13] [(88, .slice p n cap), (89, .int .i64 ((n : Nat))), (90, .int .i64 0)] (ds_ (at_block (at_loop (α := Nat × Int) [1, 2, 6, 7, 8, 9, 10, 11, 12, 13, 88, 89, 90] (fun ⟨j, c⟩ => [(1, .int .i64 to), (2, .pointer (some ⟨γ1 0, 0, none⟩)), (6, .pointer (some ⟨γ169 0, 0, none⟩)), (7, .slice p168 k168 d168), (8, .int .i64 2), (9, .int .i64 0), (10, .int .i64 2), (11, .int .i64 (leastV ts)), (12, .bool true), (13, .int .i64 c), (88, .slice p n cap), (89, .int .i64 ((n : Nat))), (90, .int .i64 ((j : Nat)))]) (fun ⟨j, c⟩ => bx (γ169 0) (#[.int .i64 0, .slice q168 m168 c168]) 24 :: bx (γ11 0) (#[.int .i64 now, .slice q10 n cq10]) 24 :: bx (γ1 0) (#[.int .i64 now, .slice p n cap]) 24 :: (Y168 ++ (Yx168 ++ (Y10 ++ [])))) (fun ⟨j, c⟩ => j ≤ n ∧ c = (ts.take j).foldl leastS 0) (fun ⟨j, c⟩ => n - j) (0, 0) (by kernel_rfl) rfl ⟨Nat.zero_le _, rfl⟩ ?_))))))))))))))))))))))))))))))))))
     rintro ⟨j, c⟩
     rintro ⟨hj, hc⟩
     refine sq_ ?_
     by_cases q182 : ((j : Nat) : Int) < ((n : Nat) : Int)
     ·
      refine qa [(0, .yes)] [1, 2, 6, 7, 8, 9, 10, 11, 12, 13, 88, 89, 90] [(91, .bool true)] ([((j : Nat) : Int) < ((n : Nat) : Int)]) (al1 q182) (ds_ (sq_ (t_ (at_skip (ds_ (sq_ (at_block (sq_ ?_))))))))
      obtain ⟨b185, o185, rfl⟩ := hts.pos (i := j) (by omega)
      obtain ⟨x187, hx187⟩ := get_some (l := ts) (m := j) (by omega)
      refine ma [(0, .at b185 o185 j), (1, .go (outs b185 (o185 + j * 2) [.int .i64 x187.id, .int .i64 x187.due])), (3, .go (owns 0 0 2))] [1, 2, 6, 7, 8, 9, 10, 11, 12, 13, 88, 89, 90] (fun γ188 => [(15, .pointer (some ⟨γ188 0, 0, none⟩))]) (fun γ188 L => bx (γ188 0) (#[.int .i64 x187.id, .int .i64 x187.due]) 33 :: L) (fun γ188 => [(some ⟨b185, o185, none⟩ : Option Addr) = some ⟨b185, o185, none⟩, ((j : Nat)) = ((j : Nat) : Int), j < n] ++ (cellsP w b185 (o185 + j * 2) [.int .i64 x187.id, .int .i64 x187.due])) (fun γ188 => (alA (al2 rfl (al2 rfl (al1 (by omega)))) (rd_pre (hts.get hx187) _ rfl))) (fun γ188 => ds_ (sq_ ?_))
      by_cases q190 : (c : Int) = (0 : Int)
      ·
       refine qa [(1, .yes)] [1, 2, 6, 7, 8, 9, 10, 11, 12, 13, 15, 88, 89, 90] [(101, .bool true)] ([(c : Int) = (0 : Int)]) (al1 q190) (ds_ (t_ (qa0 [(1, .go (owns 0 1 1))] [1, 2, 6, 7, 8, 9, 10, 11, 12, 88, 89, 90] [(13, .int .i64 x187.due)] (done_block (ds_ (qa [(0, .fit)] [1, 2, 6, 7, 8, 9, 10, 11, 12, 13, 88, 89] [(90, .int .i64 ((j + 1 : Nat)))] ([Fit .i64 ((j + 1 : Nat))]) (al1 (fit64 (by omega) (by omega))) (Done.drop (L' := bx (γ169 0) (#[.int .i64 0, .slice q168 m168 c168]) 24 :: bx (γ11 0) (#[.int .i64 now, .slice q10 n cq10]) 24 :: bx (γ1 0) (#[.int .i64 now, .slice (some ⟨b185, o185, none⟩) n cap]) 24 :: (Y168 ++ (Yx168 ++ (Y10 ++ [])))) ?_ (List.Sublist.cons _ (List.Sublist.cons_cons _ (List.Sublist.cons_cons _ (List.Sublist.cons_cons _ (List.Sublist.refl _))))))))))))
       exact dr [1, 2, 6, 7, 8, 9, 10, 11, 12, 13, 88, 89, 90] (j + 1, x187.due) ⟨by omega, by rw [least_on hx187, ← hc, least_yes (.inl q190)]⟩
      ·
       by_cases q195 : (x187.due : Int) < (c : Int)
       ·
        refine qa [(1, .no), (4, .go (owns 0 1 1)), (6, .yes)] [1, 2, 6, 7, 8, 9, 10, 11, 12, 13, 15, 88, 89, 90] [(101, .bool true)] ([¬ ((c : Int) = (0 : Int))] ++ ([(x187.due : Int) < (c : Int)])) (alA (al1 q190) (al1 q195)) (ds_ (t_ (qa0 [(1, .go (owns 0 1 1))] [1, 2, 6, 7, 8, 9, 10, 11, 12, 88, 89, 90] [(13, .int .i64 x187.due)] (done_block (ds_ (qa [(0, .fit)] [1, 2, 6, 7, 8, 9, 10, 11, 12, 13, 88, 89] [(90, .int .i64 ((j + 1 : Nat)))] ([Fit .i64 ((j + 1 : Nat))]) (al1 (fit64 (by omega) (by omega))) (Done.drop (L' := bx (γ169 0) (#[.int .i64 0, .slice q168 m168 c168]) 24 :: bx (γ11 0) (#[.int .i64 now, .slice q10 n cq10]) 24 :: bx (γ1 0) (#[.int .i64 now, .slice (some ⟨b185, o185, none⟩) n cap]) 24 :: (Y168 ++ (Yx168 ++ (Y10 ++ [])))) ?_ (List.Sublist.cons _ (List.Sublist.cons_cons _ (List.Sublist.cons_cons _ (List.Sublist.cons_cons _ (List.Sublist.refl _))))))))))))
        exact dr [1, 2, 6, 7, 8, 9, 10, 11, 12, 13, 88, 89, 90] (j + 1, x187.due) ⟨by omega, by rw [least_on hx187, ← hc, least_yes (.inr q195)]⟩
       ·
        refine qa [(1, .no), (4, .go (owns 0 1 1)), (6, .no)] [1, 2, 6, 7, 8, 9, 10, 11, 12, 13, 15, 88, 89, 90] [(101, .bool false)] ([¬ ((c : Int) = (0 : Int))] ++ ([¬ ((x187.due : Int) < (c : Int))])) (alA (al1 q190) (al1 q195)) (ds_ (f_ (at_skip (done_block (ds_ (qa [(0, .fit)] [1, 2, 6, 7, 8, 9, 10, 11, 12, 13, 88, 89] [(90, .int .i64 ((j + 1 : Nat)))] ([Fit .i64 ((j + 1 : Nat))]) (al1 (fit64 (by omega) (by omega))) (Done.drop (L' := bx (γ169 0) (#[.int .i64 0, .slice q168 m168 c168]) 24 :: bx (γ11 0) (#[.int .i64 now, .slice q10 n cq10]) 24 :: bx (γ1 0) (#[.int .i64 now, .slice (some ⟨b185, o185, none⟩) n cap]) 24 :: (Y168 ++ (Yx168 ++ (Y10 ++ [])))) ?_ (List.Sublist.cons _ (List.Sublist.cons_cons _ (List.Sublist.cons_cons _ (List.Sublist.cons_cons _ (List.Sublist.refl _))))))))))))
        exact dr [1, 2, 6, 7, 8, 9, 10, 11, 12, 13, 88, 89, 90] (j + 1, c) ⟨by omega, by rw [least_on hx187, ← hc, least_no (fun h => h.elim q190 q195)]⟩
     ·
      refine qa [(0, .no)] [1, 2, 6, 7, 8, 9, 10, 11, 12, 13, 88, 89, 90] [(91, .bool false)] ([¬ (((j : Nat) : Int) < ((n : Nat) : Int))]) (al1 q182) (ds_ (sq_ (f_ (at_leave _ rfl (ds_ (sq_ (sq_ ?_)))))))
      rw [List.take_of_length_le (by omega)] at hc
      have hcl : c = leastV ts := hc
      have hlp := least_pos (due_pos q13)
      have hl1 := hlp.2 (of_decide_eq_false q173)
      refine qa [(2, .no), (6, .yes), (7, .eqs false)] [1, 2, 6, 7, 8, 9, 10] [(113, .bool false)] ([¬ ((leastV ts : Int) ≠ (c : Int))] ++ ([(c : Int) > (0 : Int)] ++ ([EqRun Try.prog .neq 4 (.tmp 109) (.tmp 111) (.bool true) (.bool true) false]))) (alA (al1 ((by omega))) (alA (al1 ((by omega))) (al1 (bool_ne true true)))) (ds_ (f_ (at_skip (ds_ (sq_ (sq_ ?_))))))
      by_cases q204 : (to : Int) < (now : Int)
      ·
       refine qa [(2, .go (owns 2 0 1)), (3, .yes)] [1, 2, 6, 7, 8, 9, 10] [(121, .bool true)] ([(to : Int) < (now : Int)]) (al1 q204) (ds_ (t_ (sq_ (ao_ (qo0 14 [(12, .go (owns 0 1 1))] [7] [(132, .bool true), (135, .int .i64 ((m168 : Nat)))] ?_)))))
       by_cases q208 : ((m168 : Nat) : Int) = (0 : Int)
       ·
        by_cases q210 : ((k168 : Nat) : Int) = (0 : Int)
        ·
         refine qo 8 [(14, .yes), (19, .yes)] [] [(4, .bool true)] ([((m168 : Nat) : Int) = (0 : Int)] ++ ([((k168 : Nat) : Int) = (0 : Int)])) (alA (al1 q208) (al1 q210)) (on_ (ds_ (rt ([]) (.bool true) ?_)))
         exact fun w' hw => ⟨rfl, hw.below⟩
        ·
         refine qo 8 [(14, .yes), (19, .no)] [] [(4, .bool false)] ([((m168 : Nat) : Int) = (0 : Int)] ++ ([¬ (((k168 : Nat) : Int) = (0 : Int))])) (alA (al1 q208) (al1 q210)) (on_ (ds_ (rt ([]) (.bool false) ?_)))
         exfalso; first | omega | (simp only [List.length_nil] at *; omega)
       ·
        refine qo 8 [(14, .no)] [] [(4, .bool false)] ([¬ (((m168 : Nat) : Int) = (0 : Int))]) (al1 q208) (on_ (ds_ (rt ([]) (.bool false) ?_)))
        exfalso; first | omega | (simp only [List.length_nil] at *; omega)
      ·
       by_cases q215 : (to : Int) > (1125899906842624 : Int)
       ·
        refine qa [(2, .go (owns 2 0 1)), (3, .no), (6, .yes)] [1, 2, 6, 7, 8, 9, 10] [(121, .bool true)] ([¬ ((to : Int) < (now : Int))] ++ ([(to : Int) > (1125899906842624 : Int)])) (alA (al1 q204) (al1 q215)) (ds_ (t_ (sq_ (ao_ (qo0 14 [(12, .go (owns 0 1 1))] [7] [(132, .bool true), (135, .int .i64 ((m168 : Nat)))] ?_)))))
        by_cases q219 : ((m168 : Nat) : Int) = (0 : Int)
        ·
         by_cases q221 : ((k168 : Nat) : Int) = (0 : Int)
         ·
          refine qo 8 [(14, .yes), (19, .yes)] [] [(4, .bool true)] ([((m168 : Nat) : Int) = (0 : Int)] ++ ([((k168 : Nat) : Int) = (0 : Int)])) (alA (al1 q219) (al1 q221)) (on_ (ds_ (rt ([]) (.bool true) ?_)))
          exact fun w' hw => ⟨rfl, hw.below⟩
         ·
          refine qo 8 [(14, .yes), (19, .no)] [] [(4, .bool false)] ([((m168 : Nat) : Int) = (0 : Int)] ++ ([¬ (((k168 : Nat) : Int) = (0 : Int))])) (alA (al1 q219) (al1 q221)) (on_ (ds_ (rt ([]) (.bool false) ?_)))
          exfalso; first | omega | (simp only [List.length_nil] at *; omega)
        ·
         refine qo 8 [(14, .no)] [] [(4, .bool false)] ([¬ (((m168 : Nat) : Int) = (0 : Int))]) (al1 q219) (on_ (ds_ (rt ([]) (.bool false) ?_)))
         exfalso; first | omega | (simp only [List.length_nil] at *; omega)
       ·
        refine qa [(2, .go (owns 2 0 1)), (3, .no), (6, .no)] [1, 2, 6, 7, 8, 9, 10] [(121, .bool false)] ([¬ ((to : Int) < (now : Int))] ++ ([¬ ((to : Int) > (1125899906842624 : Int))])) (alA (al1 q204) (al1 q215)) (ds_ (f_ (at_skip (ds_ (sq_ (ao_ (qo0 2 [(0, .go (owns 2 0 2))] [1, 2, 6, 7, 8, 9, 10] [(144, .agg #[.int .i64 now, .slice p n cap]), (145, .int .i64 to)] (cP (fun v L' => ∃ q_ c_ Y_ q2_ c2_ X_, v = .tuple #[.agg #[.int .i64 to, .slice q_ (leL ts to).length c_], .slice q2_ (rdueL ts to).length c2_] ∧ L' = List.take 3 (bx (γ169 0) (#[.int .i64 0, .slice q168 m168 c168]) 24 :: bx (γ11 0) (#[.int .i64 now, .slice q10 n cq10]) 24 :: bx (γ1 0) (#[.int .i64 now, .slice p n cap]) 24 :: (Y168 ++ (Yx168 ++ (Y10 ++ [])))) ++ (Y_ ++ (X_ ++ List.drop 3 (bx (γ169 0) (#[.int .i64 0, .slice q168 m168 c168]) 24 :: bx (γ11 0) (#[.int .i64 now, .slice q10 n cq10]) 24 :: bx (γ1 0) (#[.int .i64 now, .slice p n cap]) 24 :: (Y168 ++ (Yx168 ++ (Y10 ++ [])))))) ∧ SlO 33 Y_ q_ (leL ts to).length c_ (leL ts to) ∧ SlO 33 X_ q2_ (rdueL ts to).length c2_ (rdueL ts to)) Try.call25 (fun w hw => (rpass_t now p n cap ts to w (hts.kept hw.below) hn (by omega)).mono fun e w' ⟨q_, c_, Y_, q2_, c2_, X_, he, h1, h2, hb, hY⟩ => ⟨_, _, he, ⟨q_, c_, Y_, q2_, c2_, X_, rfl, rfl, h1, h2⟩, hw.joinT hb hY 3⟩) ?_))))))))
        rintro v227 L227 ⟨q227, c227, Y227, p227, d227, Yx227, rfl, rfl, hO227, hP227⟩
        have hrd := congrArg List.length (rdue_is (to := to) (wheel_iff.1 q13).rs)
        refine mo0 6 [(7, .go (owns 0 0 2))] [1, 2, 6, 7, 8, 9, 10] (fun γ228 => [(16, .pointer (some ⟨γ228 0, 0, none⟩)), (17, .slice p227 ((rdueL ts to).length) d227)]) (fun γ228 L => bx (γ228 0) (#[.int .i64 to, .slice q227 ((leL ts to).length) c227]) 24 :: L) (fun γ228 => on_ (ds_ (sq_ (qa0 [] [1, 2, 6, 7, 8, 9, 10, 16, 17] [(18, .int .i64 0)] (ds_ (sq_ (sq_ (qa0 [(1, .go (owns 0 1 1))] [1, 2, 6, 7, 8, 9, 10, 16, 17, 18] [(150, .slice q227 ((leL ts to).length) c227), (151, .int .i64 (((leL ts to).length : Nat))), (152, .int .i64 0)] (ds_ (at_block ?_))))))))))
        have hgw := wheel_iff.1 q13
        have hn0 := hgw.n0
        have hn1 := hgw.n1
        refine at_loop (α := Nat × Int) [1, 2, 6, 7, 8, 9, 10, 16, 17, 18, 150, 151, 152] (fun ⟨i, mv⟩ => [(1, .int .i64 to), (2, .pointer (some ⟨γ1 0, 0, none⟩)), (6, .pointer (some ⟨γ169 0, 0, none⟩)), (7, .slice p168 k168 d168), (8, .int .i64 2), (9, .int .i64 0), (10, .int .i64 2), (16, .pointer (some ⟨γ228 0, 0, none⟩)), (17, .slice p227 ((rdueL ts to).length) d227), (18, .int .i64 mv), (150, .slice q227 ((leL ts to).length) c227), (151, .int .i64 (((leL ts to).length : Nat))), (152, .int .i64 ((i : Nat)))]) (fun ⟨i, mv⟩ => bx (γ228 0) (#[.int .i64 to, .slice q227 ((leL ts to).length) c227]) 24 :: bx (γ169 0) (#[.int .i64 0, .slice q168 m168 c168]) 24 :: bx (γ11 0) (#[.int .i64 now, .slice q10 n cq10]) 24 :: bx (γ1 0) (#[.int .i64 now, .slice p n cap]) 24 :: (Y227 ++ (Yx227 ++ (Y168 ++ (Yx168 ++ (Y10 ++ [])))))) (fun ⟨i, mv⟩ => i ≤ (leL ts to).length ∧ mv = mvL now to ((leL ts to).take i) ∧ -8 * (i : Int) ≤ mv ∧ mv ≤ 8 * (i : Int)) (fun ⟨i, mv⟩ => (leL ts to).length - i) (0, 0) (by kernel_rfl) rfl ⟨Nat.zero_le _, by simp [mvL], by omega, by omega⟩ ?_
        rintro ⟨i, mv⟩
        rintro ⟨hi, hmv, hm0, hm1⟩
        refine sq_ ?_
        by_cases q232 : ((i : Nat) : Int) < (((leL ts to).length : Nat) : Int)
        ·
         refine qa [(0, .yes)] [1, 2, 6, 7, 8, 9, 10, 16, 17, 18, 150, 151, 152] [(153, .bool true)] ([((i : Nat) : Int) < (((leL ts to).length : Nat) : Int)]) (al1 q232) (ds_ (sq_ (t_ (at_skip (ds_ (sq_ (at_block (sq_ ?_))))))))
         have hln235 := hO227.len
         obtain ⟨g235, cs235, rfl, rfl, hOw235⟩ := hO227.rowOf (i := i) (by omega)
         obtain ⟨x237, hx237⟩ := get_some (l := (leL ts to)) (m := i) (by omega)
         refine ma [(0, .at g235 0 i), (1, .go (ownps 4 (0 + i * 2) [.int .i64 x237.id, .int .i64 x237.due])), (3, .go (owns 0 0 2))] [1, 2, 6, 7, 8, 9, 10, 16, 17, 18, 150, 151, 152] (fun γ238 => [(20, .pointer (some ⟨γ238 0, 0, none⟩))]) (fun γ238 L => bx (γ238 0) (#[.int .i64 x237.id, .int .i64 x237.due]) 33 :: L) (fun γ238 => [(some ⟨g235, 0, none⟩ : Option Addr) = some ⟨g235, 0, none⟩, ((i : Nat)) = ((i : Nat) : Int), i < (leL ts to).length] ++ (acellsP cs235 (0 + i * 2) [.int .i64 x237.id, .int .i64 x237.due])) (fun γ238 => (alA (al2 rfl (al2 rfl (al1 (by omega)))) (rda_pre ((hOw235.rdx hO227.len hx237)) _ rfl))) (fun γ238 => ds_ (sq_ ?_))
         have htm := hgw.tm x237 (mem_leL.1 (List.mem_of_getElem? hx237)).1
         have hpb1 := place_bnd (a := now) (b := x237.due)
         have hpb2 := place_bnd (a := to) (b := x237.due)
         refine ao_ (qo0 4 [(1, .go (owns 4 0 1)), (3, .go (owns 0 1 1))] [1, 2, 6, 7, 8, 9, 10, 16, 17, 18, 20, 150, 151, 152] [(158, .int .i64 now), (160, .int .i64 x237.due)] (cD (.tuple #[.int .i64 ((placeV now x237.due).1), .int .i64 ((placeV now x237.due).2)]) Try.call22 (fun w hw => rplace_t now x237.due w (by omega) (by omega) (by omega) (by omega)) (qo0 5 [] [1, 2, 6, 7, 8, 9, 10, 16, 17, 18, 20, 150, 151, 152] [(21, .int .i64 ((placeV now x237.due).1))] (on_ (ds_ (sq_ (ao_ (qo0 3 [(2, .go (owns 0 1 1))] [1, 2, 6, 7, 8, 9, 10, 16, 17, 18, 21, 150, 151, 152] [(165, .int .i64 to), (167, .int .i64 x237.due)] (cD (.tuple #[.int .i64 ((placeV to x237.due).1), .int .i64 ((placeV to x237.due).2)]) Try.call22 (fun w hw => rplace_t to x237.due w (by omega) (by omega) (by omega) (by omega)) (qo0 5 [] [1, 2, 6, 7, 8, 9, 10, 16, 17, 18, 21, 150, 151, 152] [(23, .int .i64 ((placeV to x237.due).1))] (on_ (ds_ (qa [(3, .fit), (4, .fit)] [1, 2, 6, 7, 8, 9, 10, 16, 17, 150, 151, 152] [(18, .int .i64 (mv + (((placeV now x237.due).1) - ((placeV to x237.due).1))))] ([Fit .i64 (((placeV now x237.due).1) - ((placeV to x237.due).1))] ++ ([Fit .i64 (mv + (((placeV now x237.due).1) - ((placeV to x237.due).1)))])) (alA (al1 (fit64 (by omega) (by omega))) (al1 (fit64 (by omega) (by omega)))) (done_block (ds_ (qa [(0, .fit)] [1, 2, 6, 7, 8, 9, 10, 16, 17, 18, 150, 151] [(152, .int .i64 ((i + 1 : Nat)))] ([Fit .i64 ((i + 1 : Nat))]) (al1 (fit64 (by omega) (by omega))) (Done.pick [[bx (γ238 0) (#[.int .i64 x237.id, .int .i64 x237.due]) 33], [bx (γ228 0) (#[.int .i64 to, .slice (some ⟨g235, 0, none⟩) ((leL ts to).length) c227]) 24], [bx (γ169 0) (#[.int .i64 0, .slice q168 m168 c168]) 24], [bx (γ11 0) (#[.int .i64 now, .slice q10 n cq10]) 24], [bx (γ1 0) (#[.int .i64 now, .slice p n cap]) 24], [bx g235 cs235 33], Yx227, Y168, Yx168, Y10] [1, 2, 3, 4, 5, 6, 7, 8, 9] [0] (bx (γ228 0) (#[.int .i64 to, .slice (some ⟨g235, 0, none⟩) ((leL ts to).length) c227]) 24 :: bx (γ169 0) (#[.int .i64 0, .slice q168 m168 c168]) 24 :: bx (γ11 0) (#[.int .i64 now, .slice q10 n cq10]) 24 :: bx (γ1 0) (#[.int .i64 now, .slice p n cap]) 24 :: ([bx g235 cs235 33] ++ (Yx227 ++ (Y168 ++ (Yx168 ++ (Y10 ++ [])))))) (by kernel_rfl) rfl rfl ?_)))))))))))))))))
         exact dr [1, 2, 6, 7, 8, 9, 10, 16, 17, 18, 150, 151, 152] (i + 1, mv + (((placeV now x237.due).1) - ((placeV to x237.due).1))) ⟨by omega, by rw [mvL_on hx237, ← hmv], by omega, by omega⟩
        ·
         refine qa [(0, .no)] [1, 2, 6, 7, 8, 9, 10, 16, 17, 18, 150, 151, 152] [(153, .bool false)] ([¬ (((i : Nat) : Int) < (((leL ts to).length : Nat) : Int))]) (al1 q232) (ds_ (sq_ (f_ (at_leave _ rfl (ds_ (sq_ ?_))))))
         rw [List.take_of_length_le (by omega)] at hmv
         have hme := mvL_is (now := now) (to := to) (ts := ts)
         refine ao_ (qo0 14 [] [9, 18] [(188, .bool false), (189, undef), (190, undef)] (qo0 8 [] [] [(4, .bool false)] (on_ (ds_ (rt ([]) (.bool false) ?_)))))
         exfalso; first | omega | (simp only [List.length_nil] at *; omega)
    ·
     refine cD (.tuple #[.int .i64 0, .bool false]) Try.call9 (fun w hw => by have := next_t now q10 n cq10 ts w (hO10.at ((hw.tailN 3).sub ((List.sublist_append_right Yx168 _).trans (List.sublist_append_right Y168 _)))) hO10.len (by omega); rw [nextV_nil (by rw [of_decide_eq_true q173]; rfl)] at this; exact this) (qo0 5 [] [1, 2, 5, 6, 7, 8, 9, 10] [(11, .int .i64 0), (12, .bool false)] (on_ (ds_ (sq_ (sq_ (ao_ (qo0 2 [(0, .go (owns 1 0 2)), (1, .go (owns 2 0 2))] [1, 2, 6, 7, 8, 9, 10, 11, 12] [(51, .agg #[.int .i64 now, .slice q10 n cq10]), (52, .agg #[.int .i64 now, .slice p n cap])] (cD (.bool true) Try.call16 (fun w hw => by have := rsame_t now q10 n cq10 ts now p n cap ts w (hO10.at ((hw.tailN 3).sub ((List.sublist_append_right Yx168 _).trans (List.sublist_append_right Y168 _)))) hO10.len (by omega) (hts.kept hw.below) hn (by omega); rw [sameW_refl] at this; exact this) (qo0 1 [] [1, 2, 6, 7, 8, 9, 10, 11, 12] [(54, .bool false)] (on_ (ds_ (f_ (at_skip (ds_ (sq_ (sq_ (ao_ (qo0 1 [(0, .go (owns 2 0 2))] [1, 2, 6, 7, 8, 9, 10, 11, 12] [(55, .agg #[.int .i64 now, .slice p n cap])] (cD (.bool true) Try.call17 (fun w hw => by have := rright_t now p n cap ts w (hts.kept hw.below) hn (by omega); rw [q13] at this; exact this) (qo0 1 [] [1, 2, 6, 7, 8, 9, 10, 11, 12] [(57, .bool false)] (on_ (ds_ (f_ (at_skip (ds_ (sq_ (qa0 [] [1, 2, 6, 7, 8, 9, 10, 11, 12] [(13, .int .i64 0)] (ds_ (sq_ (sq_ (qa0 [(1, .go (owns 2 1 1))] [1, 2, 6, 7, 8, 9, 10, 11, 12, 13] [(88, .slice p n cap), (89, .int .i64 ((n : Nat))), (90, .int .i64 0)] (ds_ (at_block (at_loop (α := Nat × Int) [1, 2, 6, 7, 8, 9, 10, 11, 12, 13, 88, 89, 90] (fun ⟨j, c⟩ => [(1, .int .i64 to), (2, .pointer (some ⟨γ1 0, 0, none⟩)), (6, .pointer (some ⟨γ169 0, 0, none⟩)), (7, .slice p168 k168 d168), (8, .int .i64 2), (9, .int .i64 0), (10, .int .i64 2), (11, .int .i64 0), (12, .bool false), (13, .int .i64 c), (88, .slice p n cap), (89, .int .i64 ((n : Nat))), (90, .int .i64 ((j : Nat)))]) (fun ⟨j, c⟩ => bx (γ169 0) (#[.int .i64 0, .slice q168 m168 c168]) 24 :: bx (γ11 0) (#[.int .i64 now, .slice q10 n cq10]) 24 :: bx (γ1 0) (#[.int .i64 now, .slice p n cap]) 24 :: (Y168 ++ (Yx168 ++ (Y10 ++ [])))) (fun ⟨j, c⟩ => j ≤ n ∧ c = (ts.take j).foldl leastS 0) (fun ⟨j, c⟩ => n - j) (0, 0) (by kernel_rfl) rfl ⟨Nat.zero_le _, rfl⟩ ?_))))))))))))))))))))))))))))))))))
     rintro ⟨j, c⟩
     rintro ⟨hj, hc⟩
     refine sq_ ?_
     by_cases q256 : ((j : Nat) : Int) < ((n : Nat) : Int)
     ·
      refine qa [(0, .yes)] [1, 2, 6, 7, 8, 9, 10, 11, 12, 13, 88, 89, 90] [(91, .bool true)] ([((j : Nat) : Int) < ((n : Nat) : Int)]) (al1 q256) (ds_ (sq_ (t_ (at_skip (ds_ (sq_ (at_block (sq_ ?_))))))))
      obtain ⟨b259, o259, rfl⟩ := hts.pos (i := j) (by omega)
      obtain ⟨x261, hx261⟩ := get_some (l := ts) (m := j) (by omega)
      refine ma [(0, .at b259 o259 j), (1, .go (outs b259 (o259 + j * 2) [.int .i64 x261.id, .int .i64 x261.due])), (3, .go (owns 0 0 2))] [1, 2, 6, 7, 8, 9, 10, 11, 12, 13, 88, 89, 90] (fun γ262 => [(15, .pointer (some ⟨γ262 0, 0, none⟩))]) (fun γ262 L => bx (γ262 0) (#[.int .i64 x261.id, .int .i64 x261.due]) 33 :: L) (fun γ262 => [(some ⟨b259, o259, none⟩ : Option Addr) = some ⟨b259, o259, none⟩, ((j : Nat)) = ((j : Nat) : Int), j < n] ++ (cellsP w b259 (o259 + j * 2) [.int .i64 x261.id, .int .i64 x261.due])) (fun γ262 => (alA (al2 rfl (al2 rfl (al1 (by omega)))) (rd_pre (hts.get hx261) _ rfl))) (fun γ262 => ds_ (sq_ ?_))
      by_cases q264 : (c : Int) = (0 : Int)
      ·
       refine qa [(1, .yes)] [1, 2, 6, 7, 8, 9, 10, 11, 12, 13, 15, 88, 89, 90] [(101, .bool true)] ([(c : Int) = (0 : Int)]) (al1 q264) (ds_ (t_ (qa0 [(1, .go (owns 0 1 1))] [1, 2, 6, 7, 8, 9, 10, 11, 12, 88, 89, 90] [(13, .int .i64 x261.due)] (done_block (ds_ (qa [(0, .fit)] [1, 2, 6, 7, 8, 9, 10, 11, 12, 13, 88, 89] [(90, .int .i64 ((j + 1 : Nat)))] ([Fit .i64 ((j + 1 : Nat))]) (al1 (fit64 (by omega) (by omega))) (Done.drop (L' := bx (γ169 0) (#[.int .i64 0, .slice q168 m168 c168]) 24 :: bx (γ11 0) (#[.int .i64 now, .slice q10 n cq10]) 24 :: bx (γ1 0) (#[.int .i64 now, .slice (some ⟨b259, o259, none⟩) n cap]) 24 :: (Y168 ++ (Yx168 ++ (Y10 ++ [])))) ?_ (List.Sublist.cons _ (List.Sublist.cons_cons _ (List.Sublist.cons_cons _ (List.Sublist.cons_cons _ (List.Sublist.refl _))))))))))))
       exact dr [1, 2, 6, 7, 8, 9, 10, 11, 12, 13, 88, 89, 90] (j + 1, x261.due) ⟨by omega, by rw [least_on hx261, ← hc, least_yes (.inl q264)]⟩
      ·
       by_cases q269 : (x261.due : Int) < (c : Int)
       ·
        refine qa [(1, .no), (4, .go (owns 0 1 1)), (6, .yes)] [1, 2, 6, 7, 8, 9, 10, 11, 12, 13, 15, 88, 89, 90] [(101, .bool true)] ([¬ ((c : Int) = (0 : Int))] ++ ([(x261.due : Int) < (c : Int)])) (alA (al1 q264) (al1 q269)) (ds_ (t_ (qa0 [(1, .go (owns 0 1 1))] [1, 2, 6, 7, 8, 9, 10, 11, 12, 88, 89, 90] [(13, .int .i64 x261.due)] (done_block (ds_ (qa [(0, .fit)] [1, 2, 6, 7, 8, 9, 10, 11, 12, 13, 88, 89] [(90, .int .i64 ((j + 1 : Nat)))] ([Fit .i64 ((j + 1 : Nat))]) (al1 (fit64 (by omega) (by omega))) (Done.drop (L' := bx (γ169 0) (#[.int .i64 0, .slice q168 m168 c168]) 24 :: bx (γ11 0) (#[.int .i64 now, .slice q10 n cq10]) 24 :: bx (γ1 0) (#[.int .i64 now, .slice (some ⟨b259, o259, none⟩) n cap]) 24 :: (Y168 ++ (Yx168 ++ (Y10 ++ [])))) ?_ (List.Sublist.cons _ (List.Sublist.cons_cons _ (List.Sublist.cons_cons _ (List.Sublist.cons_cons _ (List.Sublist.refl _))))))))))))
        exact dr [1, 2, 6, 7, 8, 9, 10, 11, 12, 13, 88, 89, 90] (j + 1, x261.due) ⟨by omega, by rw [least_on hx261, ← hc, least_yes (.inr q269)]⟩
       ·
        refine qa [(1, .no), (4, .go (owns 0 1 1)), (6, .no)] [1, 2, 6, 7, 8, 9, 10, 11, 12, 13, 15, 88, 89, 90] [(101, .bool false)] ([¬ ((c : Int) = (0 : Int))] ++ ([¬ ((x261.due : Int) < (c : Int))])) (alA (al1 q264) (al1 q269)) (ds_ (f_ (at_skip (done_block (ds_ (qa [(0, .fit)] [1, 2, 6, 7, 8, 9, 10, 11, 12, 13, 88, 89] [(90, .int .i64 ((j + 1 : Nat)))] ([Fit .i64 ((j + 1 : Nat))]) (al1 (fit64 (by omega) (by omega))) (Done.drop (L' := bx (γ169 0) (#[.int .i64 0, .slice q168 m168 c168]) 24 :: bx (γ11 0) (#[.int .i64 now, .slice q10 n cq10]) 24 :: bx (γ1 0) (#[.int .i64 now, .slice (some ⟨b259, o259, none⟩) n cap]) 24 :: (Y168 ++ (Yx168 ++ (Y10 ++ [])))) ?_ (List.Sublist.cons _ (List.Sublist.cons_cons _ (List.Sublist.cons_cons _ (List.Sublist.cons_cons _ (List.Sublist.refl _))))))))))))
        exact dr [1, 2, 6, 7, 8, 9, 10, 11, 12, 13, 88, 89, 90] (j + 1, c) ⟨by omega, by rw [least_on hx261, ← hc, least_no (fun h => h.elim q264 q269)]⟩
     ·
      refine qa [(0, .no)] [1, 2, 6, 7, 8, 9, 10, 11, 12, 13, 88, 89, 90] [(91, .bool false)] ([¬ (((j : Nat) : Int) < ((n : Nat) : Int))]) (al1 q256) (ds_ (sq_ (f_ (at_leave _ rfl (ds_ (sq_ (sq_ ?_)))))))
      rw [List.take_of_length_le (by omega)] at hc
      have hcl : c = leastV ts := hc
      have hlp := least_pos (due_pos q13)
      have hl0 : leastV ts = 0 := by rw [of_decide_eq_true q173]; rfl
      refine qa [(2, .no), (6, .no), (7, .eqs false)] [1, 2, 6, 7, 8, 9, 10] [(113, .bool false)] ([¬ ((0 : Int) ≠ (c : Int))] ++ ([¬ ((c : Int) > (0 : Int))] ++ ([EqRun Try.prog .neq 4 (.tmp 109) (.tmp 111) (.bool false) (.bool false) false]))) (alA (al1 ((by omega))) (alA (al1 ((by omega))) (al1 (bool_ne false false)))) (ds_ (f_ (at_skip (ds_ (sq_ (sq_ ?_))))))
      by_cases q278 : (to : Int) < (now : Int)
      ·
       refine qa [(2, .go (owns 2 0 1)), (3, .yes)] [1, 2, 6, 7, 8, 9, 10] [(121, .bool true)] ([(to : Int) < (now : Int)]) (al1 q278) (ds_ (t_ (sq_ (ao_ (qo0 14 [(12, .go (owns 0 1 1))] [7] [(132, .bool true), (135, .int .i64 ((m168 : Nat)))] ?_)))))
       by_cases q282 : ((m168 : Nat) : Int) = (0 : Int)
       ·
        by_cases q284 : ((k168 : Nat) : Int) = (0 : Int)
        ·
         refine qo 8 [(14, .yes), (19, .yes)] [] [(4, .bool true)] ([((m168 : Nat) : Int) = (0 : Int)] ++ ([((k168 : Nat) : Int) = (0 : Int)])) (alA (al1 q282) (al1 q284)) (on_ (ds_ (rt ([]) (.bool true) ?_)))
         exact fun w' hw => ⟨rfl, hw.below⟩
        ·
         refine qo 8 [(14, .yes), (19, .no)] [] [(4, .bool false)] ([((m168 : Nat) : Int) = (0 : Int)] ++ ([¬ (((k168 : Nat) : Int) = (0 : Int))])) (alA (al1 q282) (al1 q284)) (on_ (ds_ (rt ([]) (.bool false) ?_)))
         exfalso; first | omega | (simp only [List.length_nil] at *; omega)
       ·
        refine qo 8 [(14, .no)] [] [(4, .bool false)] ([¬ (((m168 : Nat) : Int) = (0 : Int))]) (al1 q282) (on_ (ds_ (rt ([]) (.bool false) ?_)))
        exfalso; first | omega | (simp only [List.length_nil] at *; omega)
      ·
       by_cases q289 : (to : Int) > (1125899906842624 : Int)
       ·
        refine qa [(2, .go (owns 2 0 1)), (3, .no), (6, .yes)] [1, 2, 6, 7, 8, 9, 10] [(121, .bool true)] ([¬ ((to : Int) < (now : Int))] ++ ([(to : Int) > (1125899906842624 : Int)])) (alA (al1 q278) (al1 q289)) (ds_ (t_ (sq_ (ao_ (qo0 14 [(12, .go (owns 0 1 1))] [7] [(132, .bool true), (135, .int .i64 ((m168 : Nat)))] ?_)))))
        by_cases q293 : ((m168 : Nat) : Int) = (0 : Int)
        ·
         by_cases q295 : ((k168 : Nat) : Int) = (0 : Int)
         ·
          refine qo 8 [(14, .yes), (19, .yes)] [] [(4, .bool true)] ([((m168 : Nat) : Int) = (0 : Int)] ++ ([((k168 : Nat) : Int) = (0 : Int)])) (alA (al1 q293) (al1 q295)) (on_ (ds_ (rt ([]) (.bool true) ?_)))
          exact fun w' hw => ⟨rfl, hw.below⟩
         ·
          refine qo 8 [(14, .yes), (19, .no)] [] [(4, .bool false)] ([((m168 : Nat) : Int) = (0 : Int)] ++ ([¬ (((k168 : Nat) : Int) = (0 : Int))])) (alA (al1 q293) (al1 q295)) (on_ (ds_ (rt ([]) (.bool false) ?_)))
          exfalso; first | omega | (simp only [List.length_nil] at *; omega)
        ·
         refine qo 8 [(14, .no)] [] [(4, .bool false)] ([¬ (((m168 : Nat) : Int) = (0 : Int))]) (al1 q293) (on_ (ds_ (rt ([]) (.bool false) ?_)))
         exfalso; first | omega | (simp only [List.length_nil] at *; omega)
       ·
        refine qa [(2, .go (owns 2 0 1)), (3, .no), (6, .no)] [1, 2, 6, 7, 8, 9, 10] [(121, .bool false)] ([¬ ((to : Int) < (now : Int))] ++ ([¬ ((to : Int) > (1125899906842624 : Int))])) (alA (al1 q278) (al1 q289)) (ds_ (f_ (at_skip (ds_ (sq_ (ao_ (qo0 2 [(0, .go (owns 2 0 2))] [1, 2, 6, 7, 8, 9, 10] [(144, .agg #[.int .i64 now, .slice p n cap]), (145, .int .i64 to)] (cP (fun v L' => ∃ q_ c_ Y_ q2_ c2_ X_, v = .tuple #[.agg #[.int .i64 to, .slice q_ (leL ts to).length c_], .slice q2_ (rdueL ts to).length c2_] ∧ L' = List.take 3 (bx (γ169 0) (#[.int .i64 0, .slice q168 m168 c168]) 24 :: bx (γ11 0) (#[.int .i64 now, .slice q10 n cq10]) 24 :: bx (γ1 0) (#[.int .i64 now, .slice p n cap]) 24 :: (Y168 ++ (Yx168 ++ (Y10 ++ [])))) ++ (Y_ ++ (X_ ++ List.drop 3 (bx (γ169 0) (#[.int .i64 0, .slice q168 m168 c168]) 24 :: bx (γ11 0) (#[.int .i64 now, .slice q10 n cq10]) 24 :: bx (γ1 0) (#[.int .i64 now, .slice p n cap]) 24 :: (Y168 ++ (Yx168 ++ (Y10 ++ [])))))) ∧ SlO 33 Y_ q_ (leL ts to).length c_ (leL ts to) ∧ SlO 33 X_ q2_ (rdueL ts to).length c2_ (rdueL ts to)) Try.call25 (fun w hw => (rpass_t now p n cap ts to w (hts.kept hw.below) hn (by omega)).mono fun e w' ⟨q_, c_, Y_, q2_, c2_, X_, he, h1, h2, hb, hY⟩ => ⟨_, _, he, ⟨q_, c_, Y_, q2_, c2_, X_, rfl, rfl, h1, h2⟩, hw.joinT hb hY 3⟩) ?_))))))))
        rintro v301 L301 ⟨q301, c301, Y301, p301, d301, Yx301, rfl, rfl, hO301, hP301⟩
        have hrd := congrArg List.length (rdue_is (to := to) (wheel_iff.1 q13).rs)
        refine mo0 6 [(7, .go (owns 0 0 2))] [1, 2, 6, 7, 8, 9, 10] (fun γ302 => [(16, .pointer (some ⟨γ302 0, 0, none⟩)), (17, .slice p301 ((rdueL ts to).length) d301)]) (fun γ302 L => bx (γ302 0) (#[.int .i64 to, .slice q301 ((leL ts to).length) c301]) 24 :: L) (fun γ302 => on_ (ds_ (sq_ (qa0 [] [1, 2, 6, 7, 8, 9, 10, 16, 17] [(18, .int .i64 0)] (ds_ (sq_ (sq_ (qa0 [(1, .go (owns 0 1 1))] [1, 2, 6, 7, 8, 9, 10, 16, 17, 18] [(150, .slice q301 ((leL ts to).length) c301), (151, .int .i64 (((leL ts to).length : Nat))), (152, .int .i64 0)] (ds_ (at_block ?_))))))))))
        have hgw := wheel_iff.1 q13
        have hn0 := hgw.n0
        have hn1 := hgw.n1
        refine at_loop (α := Nat × Int) [1, 2, 6, 7, 8, 9, 10, 16, 17, 18, 150, 151, 152] (fun ⟨i, mv⟩ => [(1, .int .i64 to), (2, .pointer (some ⟨γ1 0, 0, none⟩)), (6, .pointer (some ⟨γ169 0, 0, none⟩)), (7, .slice p168 k168 d168), (8, .int .i64 2), (9, .int .i64 0), (10, .int .i64 2), (16, .pointer (some ⟨γ302 0, 0, none⟩)), (17, .slice p301 ((rdueL ts to).length) d301), (18, .int .i64 mv), (150, .slice q301 ((leL ts to).length) c301), (151, .int .i64 (((leL ts to).length : Nat))), (152, .int .i64 ((i : Nat)))]) (fun ⟨i, mv⟩ => bx (γ302 0) (#[.int .i64 to, .slice q301 ((leL ts to).length) c301]) 24 :: bx (γ169 0) (#[.int .i64 0, .slice q168 m168 c168]) 24 :: bx (γ11 0) (#[.int .i64 now, .slice q10 n cq10]) 24 :: bx (γ1 0) (#[.int .i64 now, .slice p n cap]) 24 :: (Y301 ++ (Yx301 ++ (Y168 ++ (Yx168 ++ (Y10 ++ [])))))) (fun ⟨i, mv⟩ => i ≤ (leL ts to).length ∧ mv = mvL now to ((leL ts to).take i) ∧ -8 * (i : Int) ≤ mv ∧ mv ≤ 8 * (i : Int)) (fun ⟨i, mv⟩ => (leL ts to).length - i) (0, 0) (by kernel_rfl) rfl ⟨Nat.zero_le _, by simp [mvL], by omega, by omega⟩ ?_
        rintro ⟨i, mv⟩
        rintro ⟨hi, hmv, hm0, hm1⟩
        refine sq_ ?_
        by_cases q306 : ((i : Nat) : Int) < (((leL ts to).length : Nat) : Int)
        ·
         refine qa [(0, .yes)] [1, 2, 6, 7, 8, 9, 10, 16, 17, 18, 150, 151, 152] [(153, .bool true)] ([((i : Nat) : Int) < (((leL ts to).length : Nat) : Int)]) (al1 q306) (ds_ (sq_ (t_ (at_skip (ds_ (sq_ (at_block (sq_ ?_))))))))
         have hln309 := hO301.len
         obtain ⟨g309, cs309, rfl, rfl, hOw309⟩ := hO301.rowOf (i := i) (by omega)
         obtain ⟨x311, hx311⟩ := get_some (l := (leL ts to)) (m := i) (by omega)
         refine ma [(0, .at g309 0 i), (1, .go (ownps 4 (0 + i * 2) [.int .i64 x311.id, .int .i64 x311.due])), (3, .go (owns 0 0 2))] [1, 2, 6, 7, 8, 9, 10, 16, 17, 18, 150, 151, 152] (fun γ312 => [(20, .pointer (some ⟨γ312 0, 0, none⟩))]) (fun γ312 L => bx (γ312 0) (#[.int .i64 x311.id, .int .i64 x311.due]) 33 :: L) (fun γ312 => [(some ⟨g309, 0, none⟩ : Option Addr) = some ⟨g309, 0, none⟩, ((i : Nat)) = ((i : Nat) : Int), i < (leL ts to).length] ++ (acellsP cs309 (0 + i * 2) [.int .i64 x311.id, .int .i64 x311.due])) (fun γ312 => (alA (al2 rfl (al2 rfl (al1 (by omega)))) (rda_pre ((hOw309.rdx hO301.len hx311)) _ rfl))) (fun γ312 => ds_ (sq_ ?_))
         have htm := hgw.tm x311 (mem_leL.1 (List.mem_of_getElem? hx311)).1
         have hpb1 := place_bnd (a := now) (b := x311.due)
         have hpb2 := place_bnd (a := to) (b := x311.due)
         refine ao_ (qo0 4 [(1, .go (owns 4 0 1)), (3, .go (owns 0 1 1))] [1, 2, 6, 7, 8, 9, 10, 16, 17, 18, 20, 150, 151, 152] [(158, .int .i64 now), (160, .int .i64 x311.due)] (cD (.tuple #[.int .i64 ((placeV now x311.due).1), .int .i64 ((placeV now x311.due).2)]) Try.call22 (fun w hw => rplace_t now x311.due w (by omega) (by omega) (by omega) (by omega)) (qo0 5 [] [1, 2, 6, 7, 8, 9, 10, 16, 17, 18, 20, 150, 151, 152] [(21, .int .i64 ((placeV now x311.due).1))] (on_ (ds_ (sq_ (ao_ (qo0 3 [(2, .go (owns 0 1 1))] [1, 2, 6, 7, 8, 9, 10, 16, 17, 18, 21, 150, 151, 152] [(165, .int .i64 to), (167, .int .i64 x311.due)] (cD (.tuple #[.int .i64 ((placeV to x311.due).1), .int .i64 ((placeV to x311.due).2)]) Try.call22 (fun w hw => rplace_t to x311.due w (by omega) (by omega) (by omega) (by omega)) (qo0 5 [] [1, 2, 6, 7, 8, 9, 10, 16, 17, 18, 21, 150, 151, 152] [(23, .int .i64 ((placeV to x311.due).1))] (on_ (ds_ (qa [(3, .fit), (4, .fit)] [1, 2, 6, 7, 8, 9, 10, 16, 17, 150, 151, 152] [(18, .int .i64 (mv + (((placeV now x311.due).1) - ((placeV to x311.due).1))))] ([Fit .i64 (((placeV now x311.due).1) - ((placeV to x311.due).1))] ++ ([Fit .i64 (mv + (((placeV now x311.due).1) - ((placeV to x311.due).1)))])) (alA (al1 (fit64 (by omega) (by omega))) (al1 (fit64 (by omega) (by omega)))) (done_block (ds_ (qa [(0, .fit)] [1, 2, 6, 7, 8, 9, 10, 16, 17, 18, 150, 151] [(152, .int .i64 ((i + 1 : Nat)))] ([Fit .i64 ((i + 1 : Nat))]) (al1 (fit64 (by omega) (by omega))) (Done.pick [[bx (γ312 0) (#[.int .i64 x311.id, .int .i64 x311.due]) 33], [bx (γ302 0) (#[.int .i64 to, .slice (some ⟨g309, 0, none⟩) ((leL ts to).length) c301]) 24], [bx (γ169 0) (#[.int .i64 0, .slice q168 m168 c168]) 24], [bx (γ11 0) (#[.int .i64 now, .slice q10 n cq10]) 24], [bx (γ1 0) (#[.int .i64 now, .slice p n cap]) 24], [bx g309 cs309 33], Yx301, Y168, Yx168, Y10] [1, 2, 3, 4, 5, 6, 7, 8, 9] [0] (bx (γ302 0) (#[.int .i64 to, .slice (some ⟨g309, 0, none⟩) ((leL ts to).length) c301]) 24 :: bx (γ169 0) (#[.int .i64 0, .slice q168 m168 c168]) 24 :: bx (γ11 0) (#[.int .i64 now, .slice q10 n cq10]) 24 :: bx (γ1 0) (#[.int .i64 now, .slice p n cap]) 24 :: ([bx g309 cs309 33] ++ (Yx301 ++ (Y168 ++ (Yx168 ++ (Y10 ++ [])))))) (by kernel_rfl) rfl rfl ?_)))))))))))))))))
         exact dr [1, 2, 6, 7, 8, 9, 10, 16, 17, 18, 150, 151, 152] (i + 1, mv + (((placeV now x311.due).1) - ((placeV to x311.due).1))) ⟨by omega, by rw [mvL_on hx311, ← hmv], by omega, by omega⟩
        ·
         refine qa [(0, .no)] [1, 2, 6, 7, 8, 9, 10, 16, 17, 18, 150, 151, 152] [(153, .bool false)] ([¬ (((i : Nat) : Int) < (((leL ts to).length : Nat) : Int))]) (al1 q306) (ds_ (sq_ (f_ (at_leave _ rfl (ds_ (sq_ ?_))))))
         rw [List.take_of_length_le (by omega)] at hmv
         have hme := mvL_is (now := now) (to := to) (ts := ts)
         refine ao_ (qo0 14 [] [9, 18] [(188, .bool false), (189, undef), (190, undef)] (qo0 8 [] [] [(4, .bool false)] (on_ (ds_ (rt ([]) (.bool false) ?_)))))
         exfalso; first | omega | (simp only [List.length_nil] at *; omega)
end Go.Proofs.Ytjfebdhflkndmaa

/-! The walker: what a row's inputs are: slices and structs, opened into lists. -/
namespace Go.Proofs.Ytjfebdhflkndmaa
open Go Go.RowKit

section
variable {H : Type} {enc : TypeId × Value → H} {P : Program} {w : World} {base : Nat} {spare : Nat → Bool} {held : Bool}
theorem spot_none {a : Addr} (h : a.spot = none) : a = ⟨a.block, a.off, none⟩ := by
  cases a
  simp at h
  simp [h]
theorem trod_sv {α : Type} [Enc α] {t e : TypeId} {fuel : Nat} {cs : List Value} {x : DataW H × List MemPlace} {Good : α → Prop} (ht : P.underlying t = some (.slice e)) (hc : P.cellsOf e = Enc.k α)
    (hopen : ∀ (fuel : Nat) (cs : List Value) (x : DataW H × List MemPlace), DataW.trod enc P w base spare held fuel e cs = some x → ∃ a : α, cs = Enc.enc a ∧ Good a) (h : DataW.trod enc P w base spare held fuel t cs = some x) :
    ∃ (p : Option Addr) (n cap : Nat) (l : List α), cs = [.slice p n cap] ∧ Sv w p l ∧ n = l.length ∧ n ≤ cap ∧ cap ≤ maxLen ∧ ∀ y ∈ l, Good y := by
  rcases Deep.open_slice ht h with ⟨hcs, _⟩ | ⟨a, len, cap, m, n', D, Pl, hcs, _, hle, hmx, hm, _, hi⟩
  · exact ⟨none, 0, 0, [], hcs, Sv.nil, rfl, Nat.le_refl _, Nat.zero_le _, fun y hy => by cases hy⟩
  · have key : ∀ i, i < len → ∃ y : α, w.cells? base (a.add (i * Enc.k α)) (Enc.k α) = some (Enc.enc y) ∧ Good y := fun i hin => by
      have him : i < m := by rw [hm]; split <;> omega
      obtain ⟨cs', h1, h2⟩ := hi i him
      obtain ⟨y, rfl, hy⟩ := hopen _ _ _ h2
      rw [hc] at h1
      exact ⟨y, h1, hy⟩
    rcases Nat.eq_zero_or_pos len with h0 | h0
    · subst h0
      exact ⟨some a, 0, cap, [], hcs, Sv.nil, rfl, hle, hmx, fun y hy => by cases hy⟩
    · obtain ⟨y0, hy0, _⟩ := key 0 h0
      haveI : Inhabited α := ⟨y0⟩
      obtain ⟨f, hf⟩ := Deep.choose_lt key
      obtain ⟨_, _, hcell⟩ := World.cells?_some hy0
      have h00 := hcell 0 Enc.pos
      have hlen0 : 0 < (Enc.enc y0).length := by rw [Enc.len]; exact Enc.pos
      rw [List.getElem?_eq_getElem hlen0, Nat.zero_mul, show (a.add 0).add 0 = a by simp [Addr.add]] at h00
      have hsp := spot_none (World.cell?_spot h00)
      refine ⟨some a, len, cap, (List.range len).map f, hcs, ⟨fun _ => ⟨a.block, a.off, by rw [← hsp]⟩, fun b o hbo i hil => ?_⟩, by simp, hle, hmx, fun y hy => ?_⟩
      · have hil' : i < len := by simpa using hil
        obtain ⟨_, _, hc2⟩ := World.cells?_some (hf i hil').1
        have ha : a = ⟨b, o, none⟩ := by simpa using hbo
        subst ha
        intro j v hj
        have hjk : j < Enc.k α := by rw [← Enc.len (f i)]; have := (List.getElem?_eq_some_iff.1 hj).1; simpa using this
        have h3 := hc2 j hjk
        rw [Deep.add_add] at h3
        have h4 : (Enc.enc (f i))[j]? = some v := by simpa using hj
        rw [h4] at h3
        have h5 : (⟨b, o, none⟩ : Addr).add (i * Enc.k α + j) = ⟨b, o + i * Enc.k α + j, none⟩ := by
          unfold Addr.add; split <;> simp_all <;> omega
        rw [h5] at h3
        exact h3
      · obtain ⟨i, hir, rfl⟩ := List.mem_map.1 hy
        exact (hf i (List.mem_range.1 hir)).2
theorem list2' {α : Type} {cs : List α} (h : cs.length = 2) : ∃ c0 c1, cs = [c0, c1] := by
  match cs, h with
  | [a, b], _ => exact ⟨a, b, rfl⟩
end
end Go.Proofs.Ytjfebdhflkndmaa

/-! Chapter 15: what the rows' inputs are. -/
namespace Go.Proofs.Ytjfebdhflkndmaa
open Go Go.RowKit Go.ChangeShapes Go.WideShapes

section
variable {H : Type} {enc : TypeId × Value → H} {w : World} {base : Nat} {spare : Nat → Bool} {held : Bool}
theorem cIntT : Try.prog.cellsOf 3 = 1 := by kernel_rfl
theorem cI64T : Try.prog.cellsOf 2 = 1 := by kernel_rfl
theorem cWheel : Try.prog.cellsOf 24 = 2 := by kernel_rfl
theorem cTims : Try.prog.cellsOf 22 = 1 := by kernel_rfl
theorem timer_open_cells : Try.prog.cellsOf 33 = 2 := by kernel_rfl
theorem timer_open_list {α : Type} {cs : List α} (h : cs.length = 2) : ∃ c0 c1, cs = [c0, c1] := by
  match cs, h with
  | [c0, c1], _ => exact ⟨c0, c1, rfl⟩
theorem timer_open {fuel : Nat} {cs : List Value} {x : DataW H × List MemPlace} (h : DataW.trod enc Try.prog w base spare held fuel 33 cs = some x) : ∃ a : Tim, cs = Enc.enc a ∧ True := by
  obtain ⟨xs, n, _, rfl, hl, hlen, hf⟩ := DataW.trod_struct Try.underlying33 h
  rw [timer_open_cells] at hl
  obtain ⟨c0, c1, rfl⟩ := timer_open_list hl
  obtain ⟨y0, y1, rfl⟩ := timer_open_list hlen
  have h0 : DataW.trod enc Try.prog w base spare held n 3 (([c0, c1].drop 0).take (Try.prog.cellsOf 3)) = some y0 := hf 0 _ rfl
  have h1 : DataW.trod enc Try.prog w base spare held n 2 (([c0, c1].drop 1).take (Try.prog.cellsOf 2)) = some y1 := hf 1 _ rfl
  clear hf hl hlen h
  rw [cIntT] at h0
  rw [cI64T] at h1
  simp only [List.drop_zero, List.take_succ_cons, List.take_zero, List.drop_succ_cons] at h0 h1
  obtain ⟨v0, e0, _, _⟩ := DataW.trod_int Try.underlying3 h0
  obtain ⟨v1, e1, _, _⟩ := DataW.trod_int Try.underlying2 h1
  simp only [List.cons.injEq, and_true] at e0 e1
  subst e0; subst e1
  exact ⟨⟨v0, v1⟩, rfl, trivial⟩
set_option maxRecDepth 100000 in
theorem wheel_open {v : Value} {d : DataW H} {pl : List MemPlace} (hv : Value.okWide Try.prog w .any base 24 v) (h : DataW.Trod enc Try.prog w 0 spare held 24 v d pl) :
    ∃ (now : Int) (p : Option Addr) (n cap : Nat) (ts : List Tim), v = .agg #[.int .i64 now, .slice p n cap] ∧ Sv w p ts ∧ n = ts.length := by
  obtain ⟨cs, rfl, hsz⟩ := okWide_struct Try.underlying24 hv
  obtain ⟨fuel, hf⟩ := h
  obtain ⟨xs, n, _, _, hl, hlen, hf⟩ := DataW.trod_struct Try.underlying24 hf
  obtain ⟨y0, y1, rfl⟩ := list2' hlen
  have h0 : DataW.trod enc Try.prog w 0 spare held n 2 ((((Value.agg cs).cells.toList).drop 0).take (Try.prog.cellsOf 2)) = some y0 := hf 0 _ rfl
  have h1 : DataW.trod enc Try.prog w 0 spare held n 22 ((((Value.agg cs).cells.toList).drop 1).take (Try.prog.cellsOf 22)) = some y1 := hf 1 _ rfl
  rw [cWheel] at hl
  obtain ⟨c0, c1, hc0⟩ := list2' hl
  rw [hc0, cI64T] at h0
  rw [hc0, cTims] at h1
  simp only [List.drop_zero, List.take_succ_cons, List.take_zero] at h0
  obtain ⟨a, ea, _, _⟩ := DataW.trod_int Try.underlying2 h0
  obtain ⟨q, m, capv, l2, he2, hs2, hm, hle2, hmx2, hw⟩ := trod_sv (Good := fun _ => True) Try.underlying22 timer_open_cells (fun _ _ _ h => timer_open h) h1
  simp only [List.drop_zero, List.take_succ_cons, List.take_zero, List.drop_succ_cons, List.cons.injEq, and_true] at ea he2
  subst ea; subst he2
  refine ⟨a, q, m, capv, l2, ?_, hs2, hm⟩
  congr 1
  exact Array.toList_inj.1 (by simpa [Value.cells] using hc0)
end
end Go.Proofs.Ytjfebdhflkndmaa
