/- Texts of this proof, one behind the other. -/
import Derived.Test.YtfhlmijdokfdpaaZb
import Derived.Laws.StructEq
import Derived.MapKept
/-! event.Send. -/
namespace Go.Proofs.Ytfhlmijdokfdpaa
open Go Go.RowKit

set_option maxRecDepth 100000 in
theorem due_d (x : Port) (w : World)
 : Calls Try.prog 39 #[.agg #[.int .i64 x.num, .int .i64 x.vcpu, .int .i64 x.peer, .bool x.pending, .bool x.masked]] w fun e w' => e = .returned (.bool (dueB x)) ∧ Below w.heap.size w w' := by
 refine enter (Hs.start w) Try.func39 rfl Try.ntmps39 rfl (sq_ (ma0 [] [] (fun γ1 => [(1, .pointer (some ⟨γ1 0, 0, none⟩))]) (fun γ1 L => bx (γ1 0) (#[.int .i64 x.num, .int .i64 x.vcpu, .int .i64 x.peer, .bool x.pending, .bool x.masked]) 40 :: L) (fun γ1 => ds_ (sq_ ?_))))
 rcases q3 : x.pending with _ | _
 ·
  refine qa0 [(1, .go (owns 0 3 1))] [] [(2, .bool false)] (ds_ (rt ([]) (.bool false) ?_))
  exact fun w' hw => ⟨by simp [dueB, *], hw.below⟩
 ·
  rcases q6 : x.masked with _ | _
  ·
   refine qa0 [(1, .go (owns 0 3 1)), (4, .go (owns 0 4 1))] [] [(2, .bool true)] (ds_ (rt ([]) (.bool true) ?_))
   exact fun w' hw => ⟨by simp [dueB, *], hw.below⟩
  ·
   refine qa0 [(1, .go (owns 0 3 1)), (4, .go (owns 0 4 1))] [] [(2, .bool false)] (ds_ (rt ([]) (.bool false) ?_))
   exact fun w' hw => ⟨by simp [dueB, *], hw.below⟩

set_option maxRecDepth 100000 in
theorem send_d (p : Option Addr) (n cap : Nat) (l : List Port) (k : Int) (w : World)
 (hsl : Sv w p l) (hn : n = l.length) (hb : n ≤ 1000)
 : Calls Try.prog 30 #[.agg #[.slice p n cap], .int .i64 k] w fun e w' => ∃ q m capq Y, e = .returned (.tuple #[.agg #[.slice q m capq], .int .i64 (sendV l k).2.1, .int .i64 (sendV l k).2.2]) ∧ SlO 40 Y q m capq (sendV l k).1 ∧ Below w.heap.size w w' ∧ Hs w Y w' := by
 refine enter (Hs.start w) Try.func30 rfl Try.ntmps30 rfl (sq_ (ma0 [] [1] (fun γ1 => [(2, .pointer (some ⟨γ1 0, 0, none⟩)), (4, .pointer (some ⟨γ1 1, 0, none⟩))]) (fun γ1 L => bx (γ1 1) (#[.slice none 0 0]) 24 :: bx (γ1 0) (#[.slice p n cap]) 24 :: L) (fun γ1 => ds_ (sq_ (ao_ (qo0 2 [(0, .go (owns 1 0 1))] [4] [(7, .agg #[.slice p n cap]), (8, .int .i64 k)] (ops_inline (g := 40) (args := #[.agg #[.slice p n cap], .int .i64 k, .func (.func 58) #[] #[]]) (by kernel_rfl) (by kernel_rfl) (by kernel_rfl) (fun args w => Try.call40 args w) Try.func40 rfl Try.ntmps40 rfl (sq_ (ma0 [] [] (fun γ3 => [(3, .pointer (some ⟨γ3 0, 0, none⟩)), (4, .pointer (some ⟨γ3 1, 0, none⟩)), (5, .pointer (some ⟨γ3 2, 0, none⟩)), (6, .pointer (some ⟨γ3 3, 0, none⟩))]) (fun γ3 L => bx (γ3 3) (#[.slice none 0 0]) 24 :: bx (γ3 2) (#[.func (.func 58) #[] #[]]) 75 :: bx (γ3 1) (#[.int .i64 k]) 3 :: bx (γ3 0) (#[.slice p n cap]) 24 :: L) (fun γ3 => ds_ (sq_ (ma0 [(1, .go (owns 0 0 1))] [3, 4, 5, 6] (fun γ4 => [(9, .pointer (some ⟨γ4 0, 0, none⟩))]) (fun γ4 L => bx (γ4 0) (#[.int .i64 0]) 3 :: L) (fun γ4 => ds_ (sq_ (ao_ (qo0 2 [(0, .go (owns 4 0 1))] [6, 9] [(13, .agg #[.slice p n cap]), (14, .func (.func 61) #[] #[.pointer (some ⟨γ3 1, 0, none⟩), .pointer (some ⟨γ3 2, 0, none⟩), .pointer (some ⟨γ3 0, 0, none⟩), .pointer (some ⟨γ4 0, 0, none⟩)])] (ops_inline (g := 54) (args := #[.agg #[.slice p n cap], .func (.func 61) #[] #[.pointer (some ⟨γ3 1, 0, none⟩), .pointer (some ⟨γ3 2, 0, none⟩), .pointer (some ⟨γ3 0, 0, none⟩), .pointer (some ⟨γ4 0, 0, none⟩)]]) (by kernel_rfl) (by kernel_rfl) (by kernel_rfl) (fun args w => Try.call54 args w) Try.func54 rfl Try.ntmps54 rfl (sq_ (ma0 [] [1] (fun γ6 => [(2, .pointer (some ⟨γ6 0, 0, none⟩)), (4, .pointer (some ⟨γ6 1, 0, none⟩))]) (fun γ6 L => bx (γ6 1) (#[.slice none 0 0]) 24 :: bx (γ6 0) (#[.slice p n cap]) 24 :: L) (fun γ6 => ds_ (sq_ (sq_ (ao_ (qo0 1 [(0, .go (owns 1 0 1))] [1, 2, 4] [(9, .agg #[.slice p n cap])] ?_))))))))))))))))))))))))
 rcases q8 : rightB l with _ | _
 ·
  refine cD (.int .i64 260) Try.call16 (fun w hw => by have := check_d p n cap l w (hsl.kept hw.below) hn hb; rw [q8] at this; exact this) (qo0 1 [] [1, 2, 4] [(6, .int .i64 260)] (on_ (ds_ (sq_ (qa0 [] [1, 2, 4, 6] [(12, .bool true)] (ds_ (t_ (sq_ (qa0 [(2, .go (owns 0 0 1))] [4] [(5, .int .i64 260)] (ds_ (bk (owns 0 0 1) (.tuple #[.agg #[.slice none 0 0], .int .i64 260]) (mo0 6 [(7, .go (owns 0 0 1))] [6, 9] (fun γ12 => [(10, .pointer (some ⟨γ12 0, 0, none⟩)), (11, .int .i64 260)]) (fun γ12 L => bx (γ12 0) (#[.slice none 0 0]) 24 :: L) (fun γ12 => on_ (ds_ (sq_ ?_)))))))))))))))
  refine at_any (by kernel_rfl) ?_
  refine tk (m := 5) [2] [] [6, 9, 10] [(20, .int .i64 260)] ([]) #[false, false, true, false, false, false] al0 ?_
  refine any_cut 0 #[true, true, true, true, true, true] ([(6, .pointer (some ⟨γ3 3, 0, none⟩)), (7, .int .i64 0), (8, .int .i64 260)]) ([bx (γ12 0) (#[.slice none 0 0]) 24, bx (γ6 1) (#[.slice none 0 0]) 24, bx (γ6 0) (#[.slice p n cap]) 24, bx (γ4 0) (#[.int .i64 0]) 3, bx (γ3 3) (#[.slice none 0 0]) 24, bx (γ3 2) (#[.func (.func 58) #[] #[]]) 75, bx (γ3 1) (#[.int .i64 k]) 3, bx (γ3 0) (#[.slice p n cap]) 24, bx (γ1 1) (#[.slice none 0 0]) 24, bx (γ1 0) (#[.slice p n cap]) 24]) ?_ (fun hm => ?_)
  rotate_left
  ·
   refine any_fork [0, 1] (by kernel_rfl) (by simp) (each_cons _ rfl ?_ (each_cons _ rfl ?_ (each_nil)))
   ·
    refine qo0 1 [(0, .go (owns 0 0 1))] [6, 9, 20] [(18, .agg #[.slice none 0 0])] ?_
    refine od_ ?_
    refine any_fork [1, 3] (by kernel_rfl) (by simp) (each_cons _ rfl ?_ (each_cons _ rfl ?_ (each_nil)))
    ·
     refine qo0 1 [(1, .go (owns 3 0 1))] [6, 18, 20] [(19, .int .i64 0)] ?_
     refine od_ ?_
     refine a1 3 rfl ?_
     refine qo0 1 [(3, .go (owns 4 0 1))] [6, 19, 20] [] ?_
     refine od_ ?_
     refine tk (m := 0) [4, 5] [] [6] [(7, .int .i64 0), (8, .int .i64 260)] ([]) #[true, true, true, true, true, true] al0 ?_
     exact any_weak hm [6, 7, 8] (by kernel_rfl) rfl rfl rfl
    ·
     refine qo0 1 [(3, .go (owns 4 0 1))] [6, 9, 20] [] ?_
     refine od_ ?_
     refine a1 1 rfl ?_
     refine qo0 1 [(1, .go (owns 3 0 1))] [6, 20] [(19, .int .i64 0)] ?_
     refine od_ ?_
     refine tk (m := 0) [4, 5] [] [6] [(7, .int .i64 0), (8, .int .i64 260)] ([]) #[true, true, true, true, true, true] al0 ?_
     exact any_weak hm [6, 7, 8] (by kernel_rfl) rfl rfl rfl
   ·
    refine qo0 1 [(1, .go (owns 3 0 1))] [6, 10, 20] [(19, .int .i64 0)] ?_
    refine od_ ?_
    refine a1 0 rfl ?_
    refine qo0 1 [(0, .go (owns 0 0 1))] [6, 19, 20] [(18, .agg #[.slice none 0 0])] ?_
    refine od_ ?_
    refine a1 3 rfl ?_
    refine qo0 1 [(3, .go (owns 4 0 1))] [6, 19, 20] [] ?_
    refine od_ ?_
    refine tk (m := 0) [4, 5] [] [6] [(7, .int .i64 0), (8, .int .i64 260)] ([]) #[true, true, true, true, true, true] al0 ?_
    exact any_weak hm [6, 7, 8] (by kernel_rfl) rfl rfl rfl
  refine any_nil (by kernel_rfl) ?_
  refine ds_ (bk (owns 4 0 1) (.tuple #[.agg #[.slice none 0 0], .int .i64 0, .int .i64 260]) (qo0 6 [(6, .go (owns 8 0 1))] [4] [(5, .int .i64 0), (6, .int .i64 260)] (on_ (ds_ (rt (owns 8 0 1) (.tuple #[.agg #[.slice none 0 0], .int .i64 0, .int .i64 260]) ?_)))))
  exact fun w' hw => by rw [sendV_bad q8]; exact ⟨none, 0, 0, [], rfl, SlO.nil, hw.below, hw.sub (List.nil_sublist _)⟩
 ·
  refine cD (.int .i64 0) Try.call16 (fun w hw => by have := check_d p n cap l w (hsl.kept hw.below) hn hb; rw [q8] at this; exact this) (qo0 1 [] [1, 2, 4] [(6, .int .i64 0)] (on_ (ds_ (sq_ (qa0 [] [1, 2, 4, 6] [(12, .bool false)] (ds_ (f_ (at_skip (ds_ (sq_ (ao_ (qo0 2 [(1, .go (owns 1 0 1))] [1, 4] [(16, .slice p n cap)] (cP (fun v L' => ∃ q capq Y, v = .slice q n capq ∧ L' = List.take 9 ([bx (γ6 1) (#[.slice none 0 0]) 24, bx (γ6 0) (#[.slice p n cap]) 24, bx (γ4 0) (#[.int .i64 0]) 3, bx (γ3 3) (#[.slice none 0 0]) 24, bx (γ3 2) (#[.func (.func 58) #[] #[]]) 75, bx (γ3 1) (#[.int .i64 k]) 3, bx (γ3 0) (#[.slice p n cap]) 24, bx (γ1 1) (#[.slice none 0 0]) 24, bx (γ1 0) (#[.slice p n cap]) 24]) ++ (Y ++ List.drop 9 ([bx (γ6 1) (#[.slice none 0 0]) 24, bx (γ6 0) (#[.slice p n cap]) 24, bx (γ4 0) (#[.int .i64 0]) 3, bx (γ3 3) (#[.slice none 0 0]) 24, bx (γ3 2) (#[.func (.func 58) #[] #[]]) 75, bx (γ3 1) (#[.int .i64 k]) 3, bx (γ3 0) (#[.slice p n cap]) 24, bx (γ1 1) (#[.slice none 0 0]) 24, bx (γ1 0) (#[.slice p n cap]) 24])) ∧ SlO 40 Y q n capq l) Try.call72 (fun w hw => (clone_d p n cap l w (hsl.kept hw.below) hn (by omega)).mono fun e w' ⟨q, capq, Y, he, hO, hb, hY⟩ => ⟨_, _, he, ⟨q, capq, Y, rfl, rfl, hO⟩, hw.join hb hY 9⟩) ?_)))))))))))))
  rintro v34 L34 ⟨q34, cq34, Y34, rfl, rfl, hO34⟩
  have hnq34 := hO34.len
  rcases hO34.parts with ⟨rfl, rfl, hz34⟩ | ⟨g34, cs34, rfl, rfl, hOw34⟩
  ·
   refine mo0 3 [(5, .go (owns 0 0 1))] [1, 4] (fun γ35 => [(7, .pointer (some ⟨γ35 0, 0, none⟩))]) (fun γ35 L => bx (γ35 0) (#[.slice none n cq34]) 24 :: L) (fun γ35 => on_ (ds_ (sq_ (sq_ (ao_ (qo0 1 [] [4, 7] [(19, .func (.func 61) #[] #[.pointer (some ⟨γ3 1, 0, none⟩), .pointer (some ⟨γ3 2, 0, none⟩), .pointer (some ⟨γ3 0, 0, none⟩), .pointer (some ⟨γ4 0, 0, none⟩)])] (ops_inline (g := 61) (args := #[.pointer (some ⟨γ35 0, 0, none⟩), .pointer (some ⟨γ3 1, 0, none⟩), .pointer (some ⟨γ3 2, 0, none⟩), .pointer (some ⟨γ3 0, 0, none⟩), .pointer (some ⟨γ4 0, 0, none⟩)]) (by kernel_rfl) (by kernel_rfl) (by kernel_rfl) (fun args w => Try.call61 args w) Try.func61 rfl Try.ntmps61 rfl (sq_ (qa0 [] [0, 1, 2, 3, 4] [] (ds_ (sq_ ?_)))))))))))
   refine at_calm rfl (by kernel_rfl) (by kernel_rfl) ?_
   refine cm 5 [(3, .go (owns 0 0 1)), (4, .go (owns 6 0 1))] [0, 2, 3, 4] [(14, .slice none n cq34), (15, .int .i64 k)] ([]) (by kernel_rfl) rfl al0 ?_
   rcases hg39 : getB l k with _ | y39
   ·
    refine cK (.pointer none) Try.call32 (fun w hw => by have := port_d none n cq34 l k w (hO34.atN (A := []) hw) hnq34 (by omega) (ris_all (right_ris q8)) (ris_asc l 0 (right_ris q8)); rw [portV_none hg39] at this; exact this) ?_
    refine cm 1 [] [0, 2, 3, 4] [(7, .pointer none)] ([]) (by kernel_rfl) rfl al0 ?_
    refine calm_nil' ?_
    refine ds_ (sq_ (sq_ (qa0 [] [0, 2, 3, 4, 7] [(18, .bool true)] (ds_ (t_ (sq_ (qa0 [] [] [(6, .int .i64 4)] (ds_ (bk ([]) (.int .i64 4) (qo0 1 [] [4, 7] [(8, .int .i64 4)] (on_ (ds_ (sq_ (qa0 [] [4, 7, 8] [(22, .bool true)] (ds_ (t_ (sq_ (qa0 [(2, .go (owns 1 0 1))] [4] [(5, .int .i64 4)] (ds_ (bk (owns 1 0 1) (.tuple #[.agg #[.slice none 0 0], .int .i64 4]) (mo0 6 [(7, .go (owns 0 0 1))] [6, 9] (fun γ46 => [(10, .pointer (some ⟨γ46 0, 0, none⟩)), (11, .int .i64 4)]) (fun γ46 L => bx (γ46 0) (#[.slice none 0 0]) 24 :: L) (fun γ46 => on_ (ds_ (sq_ ?_))))))))))))))))))))))))
    refine at_any (by kernel_rfl) ?_
    refine tk (m := 5) [2] [] [6, 9, 10] [(20, .int .i64 4)] ([]) #[false, false, true, false, false, false] al0 ?_
    refine any_cut 0 #[true, true, true, true, true, true] ([(6, .pointer (some ⟨γ3 3, 0, none⟩)), (7, .int .i64 0), (8, .int .i64 4)]) ([bx (γ46 0) (#[.slice none 0 0]) 24, bx (γ35 0) (#[.slice none n cq34]) 24, bx (γ6 1) (#[.slice none 0 0]) 24, bx (γ6 0) (#[.slice p n cap]) 24, bx (γ4 0) (#[.int .i64 0]) 3, bx (γ3 3) (#[.slice none 0 0]) 24, bx (γ3 2) (#[.func (.func 58) #[] #[]]) 75, bx (γ3 1) (#[.int .i64 k]) 3, bx (γ3 0) (#[.slice p n cap]) 24, bx (γ1 1) (#[.slice none 0 0]) 24, bx (γ1 0) (#[.slice p n cap]) 24]) ?_ (fun hm => ?_)
    rotate_left
    ·
     refine any_fork [0, 1] (by kernel_rfl) (by simp) (each_cons _ rfl ?_ (each_cons _ rfl ?_ (each_nil)))
     ·
      refine qo0 1 [(0, .go (owns 0 0 1))] [6, 9, 20] [(18, .agg #[.slice none 0 0])] ?_
      refine od_ ?_
      refine any_fork [1, 3] (by kernel_rfl) (by simp) (each_cons _ rfl ?_ (each_cons _ rfl ?_ (each_nil)))
      ·
       refine qo0 1 [(1, .go (owns 4 0 1))] [6, 18, 20] [(19, .int .i64 0)] ?_
       refine od_ ?_
       refine a1 3 rfl ?_
       refine qo0 1 [(3, .go (owns 5 0 1))] [6, 19, 20] [] ?_
       refine od_ ?_
       refine tk (m := 0) [4, 5] [] [6] [(7, .int .i64 0), (8, .int .i64 4)] ([]) #[true, true, true, true, true, true] al0 ?_
       exact any_weak hm [6, 7, 8] (by kernel_rfl) rfl rfl rfl
      ·
       refine qo0 1 [(3, .go (owns 5 0 1))] [6, 9, 20] [] ?_
       refine od_ ?_
       refine a1 1 rfl ?_
       refine qo0 1 [(1, .go (owns 4 0 1))] [6, 20] [(19, .int .i64 0)] ?_
       refine od_ ?_
       refine tk (m := 0) [4, 5] [] [6] [(7, .int .i64 0), (8, .int .i64 4)] ([]) #[true, true, true, true, true, true] al0 ?_
       exact any_weak hm [6, 7, 8] (by kernel_rfl) rfl rfl rfl
     ·
      refine qo0 1 [(1, .go (owns 4 0 1))] [6, 10, 20] [(19, .int .i64 0)] ?_
      refine od_ ?_
      refine a1 0 rfl ?_
      refine qo0 1 [(0, .go (owns 0 0 1))] [6, 19, 20] [(18, .agg #[.slice none 0 0])] ?_
      refine od_ ?_
      refine a1 3 rfl ?_
      refine qo0 1 [(3, .go (owns 5 0 1))] [6, 19, 20] [] ?_
      refine od_ ?_
      refine tk (m := 0) [4, 5] [] [6] [(7, .int .i64 0), (8, .int .i64 4)] ([]) #[true, true, true, true, true, true] al0 ?_
      exact any_weak hm [6, 7, 8] (by kernel_rfl) rfl rfl rfl
    refine any_nil (by kernel_rfl) ?_
    refine ds_ (bk (owns 5 0 1) (.tuple #[.agg #[.slice none 0 0], .int .i64 0, .int .i64 4]) (qo0 6 [(6, .go (owns 9 0 1))] [4] [(5, .int .i64 0), (6, .int .i64 4)] (on_ (ds_ (rt (owns 9 0 1) (.tuple #[.agg #[.slice none 0 0], .int .i64 0, .int .i64 4]) ?_)))))
    exact fun w' hw => by rw [sendV_none q8 hg39]; exact ⟨none, 0, 0, [], rfl, SlO.nil, hw.below, hw.sub (List.nil_sublist _)⟩
   ·
    have hy39 := (get_pos (ris_asc l 0 (right_ris q8)) hg39).1
    exact absurd (List.getElem?_eq_some_iff.1 hy39).1 (by omega)
  ·
   refine mo0 3 [(5, .go (owns 0 0 1))] [1, 4] (fun γ66 => [(7, .pointer (some ⟨γ66 0, 0, none⟩))]) (fun γ66 L => bx (γ66 0) (#[.slice (some ⟨g34, 0, none⟩) n cq34]) 24 :: L) (fun γ66 => on_ (ds_ (sq_ (sq_ (ao_ (qo0 1 [] [4, 7] [(19, .func (.func 61) #[] #[.pointer (some ⟨γ3 1, 0, none⟩), .pointer (some ⟨γ3 2, 0, none⟩), .pointer (some ⟨γ3 0, 0, none⟩), .pointer (some ⟨γ4 0, 0, none⟩)])] (ops_inline (g := 61) (args := #[.pointer (some ⟨γ66 0, 0, none⟩), .pointer (some ⟨γ3 1, 0, none⟩), .pointer (some ⟨γ3 2, 0, none⟩), .pointer (some ⟨γ3 0, 0, none⟩), .pointer (some ⟨γ4 0, 0, none⟩)]) (by kernel_rfl) (by kernel_rfl) (by kernel_rfl) (fun args w => Try.call61 args w) Try.func61 rfl Try.ntmps61 rfl (sq_ (qa0 [] [0, 1, 2, 3, 4] [] (ds_ (sq_ ?_)))))))))))
   refine at_calm rfl (by kernel_rfl) (by kernel_rfl) ?_
   refine cm 5 [(3, .go (owns 0 0 1)), (4, .go (owns 6 0 1))] [0, 2, 3, 4] [(14, .slice (some ⟨g34, 0, none⟩) n cq34), (15, .int .i64 k)] ([]) (by kernel_rfl) rfl al0 ?_
   rcases hg70 : getB l k with _ | y70
   ·
    refine cK (.pointer none) Try.call32 (fun w hw => by have := port_d (some ⟨g34, 0, none⟩) n cq34 l k w (hO34.atN (A := [_, _, _, _, _, _, _, _, _, _]) hw) hnq34 (by omega) (ris_all (right_ris q8)) (ris_asc l 0 (right_ris q8)); rw [portV_none hg70] at this; exact this) ?_
    refine cm 1 [] [0, 2, 3, 4] [(7, .pointer none)] ([]) (by kernel_rfl) rfl al0 ?_
    refine calm_nil' ?_
    refine ds_ (sq_ (sq_ (qa0 [] [0, 2, 3, 4, 7] [(18, .bool true)] (ds_ (t_ (sq_ (qa0 [] [] [(6, .int .i64 4)] (ds_ (bk ([]) (.int .i64 4) (qo0 1 [] [4, 7] [(8, .int .i64 4)] (on_ (ds_ (sq_ (qa0 [] [4, 7, 8] [(22, .bool true)] (ds_ (t_ (sq_ (qa0 [(2, .go (owns 1 0 1))] [4] [(5, .int .i64 4)] (ds_ (bk (owns 1 0 1) (.tuple #[.agg #[.slice none 0 0], .int .i64 4]) (mo0 6 [(7, .go (owns 0 0 1))] [6, 9] (fun γ77 => [(10, .pointer (some ⟨γ77 0, 0, none⟩)), (11, .int .i64 4)]) (fun γ77 L => bx (γ77 0) (#[.slice none 0 0]) 24 :: L) (fun γ77 => on_ (ds_ (sq_ ?_))))))))))))))))))))))))
    refine at_any (by kernel_rfl) ?_
    refine tk (m := 5) [2] [] [6, 9, 10] [(20, .int .i64 4)] ([]) #[false, false, true, false, false, false] al0 ?_
    refine any_cut 0 #[true, true, true, true, true, true] ([(6, .pointer (some ⟨γ3 3, 0, none⟩)), (7, .int .i64 0), (8, .int .i64 4)]) ([bx (γ77 0) (#[.slice none 0 0]) 24, bx (γ66 0) (#[.slice (some ⟨g34, 0, none⟩) n cq34]) 24, bx (γ6 1) (#[.slice none 0 0]) 24, bx (γ6 0) (#[.slice p n cap]) 24, bx (γ4 0) (#[.int .i64 0]) 3, bx (γ3 3) (#[.slice none 0 0]) 24, bx (γ3 2) (#[.func (.func 58) #[] #[]]) 75, bx (γ3 1) (#[.int .i64 k]) 3, bx (γ3 0) (#[.slice p n cap]) 24, bx (γ1 1) (#[.slice none 0 0]) 24, bx (γ1 0) (#[.slice p n cap]) 24, bx g34 cs34 40]) ?_ (fun hm => ?_)
    rotate_left
    ·
     refine any_fork [0, 1] (by kernel_rfl) (by simp) (each_cons _ rfl ?_ (each_cons _ rfl ?_ (each_nil)))
     ·
      refine qo0 1 [(0, .go (owns 0 0 1))] [6, 9, 20] [(18, .agg #[.slice none 0 0])] ?_
      refine od_ ?_
      refine any_fork [1, 3] (by kernel_rfl) (by simp) (each_cons _ rfl ?_ (each_cons _ rfl ?_ (each_nil)))
      ·
       refine qo0 1 [(1, .go (owns 4 0 1))] [6, 18, 20] [(19, .int .i64 0)] ?_
       refine od_ ?_
       refine a1 3 rfl ?_
       refine qo0 1 [(3, .go (owns 5 0 1))] [6, 19, 20] [] ?_
       refine od_ ?_
       refine tk (m := 0) [4, 5] [] [6] [(7, .int .i64 0), (8, .int .i64 4)] ([]) #[true, true, true, true, true, true] al0 ?_
       exact any_weak hm [6, 7, 8] (by kernel_rfl) rfl rfl rfl
      ·
       refine qo0 1 [(3, .go (owns 5 0 1))] [6, 9, 20] [] ?_
       refine od_ ?_
       refine a1 1 rfl ?_
       refine qo0 1 [(1, .go (owns 4 0 1))] [6, 20] [(19, .int .i64 0)] ?_
       refine od_ ?_
       refine tk (m := 0) [4, 5] [] [6] [(7, .int .i64 0), (8, .int .i64 4)] ([]) #[true, true, true, true, true, true] al0 ?_
       exact any_weak hm [6, 7, 8] (by kernel_rfl) rfl rfl rfl
     ·
      refine qo0 1 [(1, .go (owns 4 0 1))] [6, 10, 20] [(19, .int .i64 0)] ?_
      refine od_ ?_
      refine a1 0 rfl ?_
      refine qo0 1 [(0, .go (owns 0 0 1))] [6, 19, 20] [(18, .agg #[.slice none 0 0])] ?_
      refine od_ ?_
      refine a1 3 rfl ?_
      refine qo0 1 [(3, .go (owns 5 0 1))] [6, 19, 20] [] ?_
      refine od_ ?_
      refine tk (m := 0) [4, 5] [] [6] [(7, .int .i64 0), (8, .int .i64 4)] ([]) #[true, true, true, true, true, true] al0 ?_
      exact any_weak hm [6, 7, 8] (by kernel_rfl) rfl rfl rfl
    refine any_nil (by kernel_rfl) ?_
    refine ds_ (bk (owns 5 0 1) (.tuple #[.agg #[.slice none 0 0], .int .i64 0, .int .i64 4]) (qo0 6 [(6, .go (owns 9 0 1))] [4] [(5, .int .i64 0), (6, .int .i64 4)] (on_ (ds_ (rt (owns 9 0 1) (.tuple #[.agg #[.slice none 0 0], .int .i64 0, .int .i64 4]) ?_)))))
    exact fun w' hw => by rw [sendV_none q8 hg70]; exact ⟨none, 0, 0, [], rfl, SlO.nil, hw.below, hw.sub (List.nil_sublist _)⟩
   ·
    have hy70 := (get_pos (ris_asc l 0 (right_ris q8)) hg70).1
    refine cK (.pointer (some ⟨g34, 0 + (posB l k) * 5, none⟩)) Try.call32 (fun w hw => by have := port_d (some ⟨g34, 0, none⟩) n cq34 l k w (hO34.atN (A := [_, _, _, _, _, _, _, _, _, _]) hw) hnq34 (by omega) (ris_all (right_ris q8)) (ris_asc l 0 (right_ris q8)); rw [portV_some hg70] at this; exact this) ?_
    refine cm 1 [] [0, 2, 3, 4] [(7, .pointer (some ⟨g34, 0 + (posB l k) * 5, none⟩))] ([]) (by kernel_rfl) rfl al0 ?_
    refine calm_nil' ?_
    refine ds_ (sq_ (sq_ (qa0 [] [0, 2, 3, 4, 7] [(18, .bool false)] (ds_ (f_ (at_skip (ds_ (sq_ ?_))))))))
    refine at_any (by kernel_rfl) ?_
    refine tk (m := 8) [1, 2, 3, 4] [] [2, 3, 4] [(21, .pointer (some ⟨g34, 0 + (posB l k) * 5, none⟩)), (24, .pointer (some ⟨γ66 0, 0, none⟩))] ([]) #[false, true, true, true, true, false, false, false, false, false, false, false] al0 ?_
    refine any_cut 6 #[true, true, true, true, true, true, false, false, false, false, false, false] ([(3, .pointer (some ⟨γ3 0, 0, none⟩)), (4, .pointer (some ⟨γ4 0, 0, none⟩)), (20, .func (.func 58) #[] #[]), (21, .pointer (some ⟨g34, 0 + (posB l k) * 5, none⟩)), (25, .slice (some ⟨g34, 0, none⟩) n cq34)]) ([bx (γ66 0) (#[.slice (some ⟨g34, 0, none⟩) n cq34]) 24, bx (γ6 1) (#[.slice none 0 0]) 24, bx (γ6 0) (#[.slice p n cap]) 24, bx (γ4 0) (#[.int .i64 0]) 3, bx (γ3 3) (#[.slice none 0 0]) 24, bx (γ3 2) (#[.func (.func 58) #[] #[]]) 75, bx (γ3 1) (#[.int .i64 k]) 3, bx (γ3 0) (#[.slice p n cap]) 24, bx (γ1 1) (#[.slice none 0 0]) 24, bx (γ1 0) (#[.slice p n cap]) 24, bx g34 cs34 40]) ?_ (fun hm => ?_)
    rotate_left
    ·
     refine any_fork [0, 5] (by kernel_rfl) (by simp) (each_cons _ rfl ?_ (each_cons _ rfl ?_ (each_nil)))
     ·
      refine qo0 1 [(0, .go (owns 5 0 1))] [3, 4, 21, 24] [(20, .func (.func 58) #[] #[])] ?_
      refine od_ ?_
      refine a1 5 rfl ?_
      refine qo0 1 [(5, .go (owns 0 0 1))] [3, 4, 20, 21] [(25, .slice (some ⟨g34, 0, none⟩) n cq34)] ?_
      refine od_ ?_
      exact any_weak hm [3, 4, 20, 21, 25] (by kernel_rfl) rfl rfl rfl
     ·
      refine qo0 1 [(5, .go (owns 0 0 1))] [2, 3, 4, 21] [(25, .slice (some ⟨g34, 0, none⟩) n cq34)] ?_
      refine od_ ?_
      refine a1 0 rfl ?_
      refine qo0 1 [(0, .go (owns 5 0 1))] [3, 4, 21, 25] [(20, .func (.func 58) #[] #[])] ?_
      refine od_ ?_
      exact any_weak hm [3, 4, 20, 21, 25] (by kernel_rfl) rfl rfl rfl
    refine a1 6 rfl ?_
    refine ops_inline (g := 58) (args := #[.pointer (some ⟨g34, 0 + (posB l k) * 5, none⟩), .slice (some ⟨g34, 0, none⟩) n cq34]) (by kernel_rfl) (by kernel_rfl) (by kernel_rfl) (fun args w => Try.call58 args w) Try.func58 rfl Try.ntmps58 rfl (sq_ (qa0 [] [0, 1] [] (ds_ (sq_ (sq_ ?_)))))
    by_cases q110 : (y70.peer : Int) = (0 : Int)
    ·
     refine qa [(3, .go (ownps 10 (0 + (posB l k) * 5 + 2) [.int .i64 y70.peer])), (4, .yes)] [0, 1] [(11, .bool true)] (acellsP cs34 (0 + (posB l k) * 5 + 2) [.int .i64 y70.peer] ++ ([(y70.peer : Int) = (0 : Int)])) (alA (rda_part ((hOw34.rdx hnq34 hy70)) 2 _ rfl) (al1 q110)) (ds_ (t_ (sq_ (qa0 [] [] [(4, .pointer none), (5, .int .i64 261)] (ds_ (bk ([]) (.tuple #[.pointer none, .int .i64 261]) ?_))))))
     refine od_ ?_
     refine tk (m := 0) [7, 8, 9, 10, 11] [] [3, 4] [(8, .pointer none), (9, .int .i64 261)] ([]) #[true, true, true, true, true, true, true, true, true, true, true, true] al0 ?_
     refine any_nil (by kernel_rfl) ?_
     refine ds_ (sq_ (sq_ (qa0 [] [3, 4, 8, 9] [(30, .bool true)] (ds_ (t_ (sq_ (qa0 [] [] [(6, .int .i64 261)] (ds_ (bk ([]) (.int .i64 261) (qo0 1 [] [4, 7] [(8, .int .i64 261)] (on_ (ds_ (sq_ (qa0 [] [4, 7, 8] [(22, .bool true)] (ds_ (t_ (sq_ (qa0 [(2, .go (owns 1 0 1))] [4] [(5, .int .i64 261)] (ds_ (bk (owns 1 0 1) (.tuple #[.agg #[.slice none 0 0], .int .i64 261]) (mo0 6 [(7, .go (owns 0 0 1))] [6, 9] (fun γ119 => [(10, .pointer (some ⟨γ119 0, 0, none⟩)), (11, .int .i64 261)]) (fun γ119 L => bx (γ119 0) (#[.slice none 0 0]) 24 :: L) (fun γ119 => on_ (ds_ (sq_ ?_))))))))))))))))))))))))
     refine at_any (by kernel_rfl) ?_
     refine tk (m := 5) [2] [] [6, 9, 10] [(20, .int .i64 261)] ([]) #[false, false, true, false, false, false] al0 ?_
     refine any_cut 0 #[true, true, true, true, true, true] ([(6, .pointer (some ⟨γ3 3, 0, none⟩)), (7, .int .i64 0), (8, .int .i64 261)]) ([bx (γ119 0) (#[.slice none 0 0]) 24, bx (γ66 0) (#[.slice (some ⟨g34, 0, none⟩) n cq34]) 24, bx (γ6 1) (#[.slice none 0 0]) 24, bx (γ6 0) (#[.slice p n cap]) 24, bx (γ4 0) (#[.int .i64 0]) 3, bx (γ3 3) (#[.slice none 0 0]) 24, bx (γ3 2) (#[.func (.func 58) #[] #[]]) 75, bx (γ3 1) (#[.int .i64 k]) 3, bx (γ3 0) (#[.slice p n cap]) 24, bx (γ1 1) (#[.slice none 0 0]) 24, bx (γ1 0) (#[.slice p n cap]) 24, bx g34 cs34 40]) ?_ (fun hm => ?_)
     rotate_left
     ·
      refine any_fork [0, 1] (by kernel_rfl) (by simp) (each_cons _ rfl ?_ (each_cons _ rfl ?_ (each_nil)))
      ·
       refine qo0 1 [(0, .go (owns 0 0 1))] [6, 9, 20] [(18, .agg #[.slice none 0 0])] ?_
       refine od_ ?_
       refine any_fork [1, 3] (by kernel_rfl) (by simp) (each_cons _ rfl ?_ (each_cons _ rfl ?_ (each_nil)))
       ·
        refine qo0 1 [(1, .go (owns 4 0 1))] [6, 18, 20] [(19, .int .i64 0)] ?_
        refine od_ ?_
        refine a1 3 rfl ?_
        refine qo0 1 [(3, .go (owns 5 0 1))] [6, 19, 20] [] ?_
        refine od_ ?_
        refine tk (m := 0) [4, 5] [] [6] [(7, .int .i64 0), (8, .int .i64 261)] ([]) #[true, true, true, true, true, true] al0 ?_
        exact any_weak hm [6, 7, 8] (by kernel_rfl) rfl rfl rfl
       ·
        refine qo0 1 [(3, .go (owns 5 0 1))] [6, 9, 20] [] ?_
        refine od_ ?_
        refine a1 1 rfl ?_
        refine qo0 1 [(1, .go (owns 4 0 1))] [6, 20] [(19, .int .i64 0)] ?_
        refine od_ ?_
        refine tk (m := 0) [4, 5] [] [6] [(7, .int .i64 0), (8, .int .i64 261)] ([]) #[true, true, true, true, true, true] al0 ?_
        exact any_weak hm [6, 7, 8] (by kernel_rfl) rfl rfl rfl
      ·
       refine qo0 1 [(1, .go (owns 4 0 1))] [6, 10, 20] [(19, .int .i64 0)] ?_
       refine od_ ?_
       refine a1 0 rfl ?_
       refine qo0 1 [(0, .go (owns 0 0 1))] [6, 19, 20] [(18, .agg #[.slice none 0 0])] ?_
       refine od_ ?_
       refine a1 3 rfl ?_
       refine qo0 1 [(3, .go (owns 5 0 1))] [6, 19, 20] [] ?_
       refine od_ ?_
       refine tk (m := 0) [4, 5] [] [6] [(7, .int .i64 0), (8, .int .i64 261)] ([]) #[true, true, true, true, true, true] al0 ?_
       exact any_weak hm [6, 7, 8] (by kernel_rfl) rfl rfl rfl
     refine any_nil (by kernel_rfl) ?_
     refine ds_ (bk (owns 5 0 1) (.tuple #[.agg #[.slice none 0 0], .int .i64 0, .int .i64 261]) (qo0 6 [(6, .go (owns 9 0 1))] [4] [(5, .int .i64 0), (6, .int .i64 261)] (on_ (ds_ (rt (owns 9 0 1) (.tuple #[.agg #[.slice none 0 0], .int .i64 0, .int .i64 261]) ?_)))))
     exact fun w' hw => by rw [sendV_alone q8 hg70 q110]; exact ⟨none, 0, 0, [], rfl, SlO.nil, hw.below, hw.sub (List.nil_sublist _)⟩
    ·
     refine qa [(3, .go (ownps 10 (0 + (posB l k) * 5 + 2) [.int .i64 y70.peer])), (4, .no)] [0, 1] [(11, .bool false)] (acellsP cs34 (0 + (posB l k) * 5 + 2) [.int .i64 y70.peer] ++ ([¬ ((y70.peer : Int) = (0 : Int))])) (alA (rda_part ((hOw34.rdx hnq34 hy70)) 2 _ rfl) (al1 q110)) (ds_ (f_ (at_skip (ds_ (sq_ (ao_ (qo 5 [(4, .go (ownps 10 (0 + (posB l k) * 5 + 2) [.int .i64 y70.peer]))] [] [(12, .slice (some ⟨g34, 0, none⟩) n cq34), (16, .int .i64 y70.peer)] (acellsP cs34 (0 + (posB l k) * 5 + 2) [.int .i64 y70.peer]) (rda_part ((hOw34.rdx hnq34 hy70)) 2 _ rfl) ?_)))))))
     obtain ⟨y140, hg140, hpr140, hpn140⟩ := right_peer q8 hg70 q110
     ·
      have hy140 := (get_pos (ris_asc l 0 (right_ris q8)) hg140).1
      refine cD (.pointer (some ⟨g34, 0 + (posB l y70.peer) * 5, none⟩)) Try.call32 (fun w hw => by have := port_d (some ⟨g34, 0, none⟩) n cq34 l y70.peer w (hO34.atN (A := [_, _, _, _, _, _, _, _, _, _]) hw) hnq34 (by omega) (ris_all (right_ris q8)) (ris_asc l 0 (right_ris q8)); rw [portV_some hg140] at this; exact this) (qo0 1 [] [] [(6, .pointer (some ⟨g34, 0 + (posB l y70.peer) * 5, none⟩))] (on_ (ds_ (sq_ (ma [(3, .go (ownps 10 (0 + (posB l y70.peer) * 5 + 3) [undef]))] [6] (fun _ => []) (fun _ L => (L.set 10 (bx g34 ((cs34).setIfInBounds (0 + (posB l y70.peer) * 5 + 3) (.bool true)) 40))) (fun _ => [0 + (posB l y70.peer) * 5 + 3 < (cs34).size]) (fun _ => (al1 (hOw34.room hnq34 hy140 (f := 3) (by decide)))) (fun _ => ds_ (sq_ (qa0 [] [] [(4, .pointer (some ⟨g34, 0 + (posB l y70.peer) * 5, none⟩)), (5, .int .i64 0)] (ds_ (bk ([]) (.tuple #[.pointer (some ⟨g34, 0 + (posB l y70.peer) * 5, none⟩), .int .i64 0]) ?_))))))))))
      refine od_ ?_
      refine tk (m := 0) [7, 8, 9, 10, 11] [] [3, 4] [(8, .pointer (some ⟨g34, 0 + (posB l y70.peer) * 5, none⟩)), (9, .int .i64 0)] ([]) #[true, true, true, true, true, true, true, true, true, true, true, true] al0 ?_
      refine any_nil (by kernel_rfl) ?_
      refine ds_ (sq_ (sq_ (qa0 [] [3, 4, 8, 9] [(30, .bool false)] (ds_ (f_ (at_skip (ds_ (sq_ ?_))))))))
      refine at_calm rfl (by kernel_rfl) (by kernel_rfl) ?_
      refine cm 6 [(1, .go (owns 7 0 1)), (5, .go (ownps 10 (0 + (posB l y70.peer) * 5) [.int .i64 y140.num]))] [4, 8] [(33, .slice p n cap), (37, .int .i64 y140.num)] (acellsP ((cs34).setIfInBounds (0 + (posB l y70.peer) * 5 + 3) (.bool true)) (0 + (posB l y70.peer) * 5) [.int .i64 y140.num]) (by kernel_rfl) rfl (rda_pre (((hOw34.put (x' := (⟨y140.num, y140.vcpu, y140.peer, true, y140.masked⟩ : Port)) hnq34 hy140 (f := 3) (by decide) rfl).rdx (len_set hnq34) (get_set hy140))) _ rfl) ?_
      skip
      ·
       obtain ⟨b148, o148, rfl⟩ := hsl.pos (i := posB l y140.num) (List.getElem?_eq_some_iff.1 (get_pos (ris_asc l 0 (right_ris q8)) (get_self hg140)).1).1
       refine cK (.pointer (some ⟨b148, o148 + (posB l y140.num) * 5, none⟩)) Try.call32 (fun w hw => by have := port_d (some ⟨b148, o148, none⟩) n cap l y140.num w (hsl.kept hw.below) hn (by omega) (ris_all (right_ris q8)) (ris_asc l 0 (right_ris q8)); rw [portV_some (get_self hg140)] at this; exact this) ?_
       refine cm 1 [] [4, 8] [(10, .pointer (some ⟨b148, o148 + (posB l y140.num) * 5, none⟩))] ([]) (by kernel_rfl) rfl al0 ?_
       refine calm_nil' ?_
       refine ds_ (sq_ (sq_ ?_))
       refine at_calm rfl (by kernel_rfl) (by kernel_rfl) ?_
       refine cm 3 [(2, .go (ownps 10 (0 + (posB l y70.peer) * 5) [.int .i64 y140.num, .int .i64 y140.vcpu, .int .i64 y140.peer, .bool true, .bool y140.masked]))] [4, 8, 10] [(41, .agg #[.int .i64 y140.num, .int .i64 y140.vcpu, .int .i64 y140.peer, .bool true, .bool y140.masked])] (acellsP ((cs34).setIfInBounds (0 + (posB l y70.peer) * 5 + 3) (.bool true)) (0 + (posB l y70.peer) * 5) [.int .i64 y140.num, .int .i64 y140.vcpu, .int .i64 y140.peer, .bool true, .bool y140.masked]) (by kernel_rfl) rfl (rda_pre (((hOw34.put (x' := (⟨y140.num, y140.vcpu, y140.peer, true, y140.masked⟩ : Port)) hnq34 hy140 (f := 3) (by decide) rfl).rdx (len_set hnq34) (get_set hy140))) _ rfl) ?_
       rcases q151 : (true && !y140.masked) with _ | _
       ·
        refine cK (.bool false) Try.call39 (fun w hw => by have := due_d (⟨y140.num, y140.vcpu, y140.peer, true, y140.masked⟩ : Port) w; rw [show dueB (⟨y140.num, y140.vcpu, y140.peer, true, y140.masked⟩ : Port) = false from q151] at this; exact this) ?_
        refine cm 18 [] [4, 8] [(60, .bool false)] ([]) (by kernel_rfl) rfl al0 ?_
        refine calm_nil' ?_
        refine ds_ (f_ (at_skip (ds_ (sq_ (qa0 [] [] [(6, .int .i64 0)] (ds_ (bk ([]) (.int .i64 0) (qo0 1 [] [4, 7] [(8, .int .i64 0)] (on_ (ds_ (sq_ (qa0 [] [4, 7, 8] [(22, .bool false)] (ds_ (f_ (at_skip (ds_ (sq_ (ma0 [(0, .go (owns 0 0 1)), (1, .go (owns 1 0 1))] [4] (fun _ => [(5, .int .i64 0)]) (fun _ L => (L.set 1 (bx (γ6 1) (#[.slice (some ⟨g34, 0, none⟩) n cq34]) 24))) (fun _ => ds_ (bk (owns 1 0 1) (.tuple #[.agg #[.slice (some ⟨g34, 0, none⟩) n cq34], .int .i64 0]) (mo0 6 [(7, .go (owns 0 0 1))] [6, 9] (fun γ157 => [(10, .pointer (some ⟨γ157 0, 0, none⟩)), (11, .int .i64 0)]) (fun γ157 L => bx (γ157 0) (#[.slice (some ⟨g34, 0, none⟩) n cq34]) 24 :: L) (fun γ157 => on_ (ds_ (sq_ ?_))))))))))))))))))))))))
        refine at_any (by kernel_rfl) ?_
        refine tk (m := 5) [2] [] [6, 9, 10] [(20, .int .i64 0)] ([]) #[false, false, true, false, false, false] al0 ?_
        refine any_cut 0 #[true, true, true, true, true, true] ([(6, .pointer (some ⟨γ3 3, 0, none⟩)), (7, .int .i64 0), (8, .int .i64 0)]) ([bx (γ157 0) (#[.slice (some ⟨g34, 0, none⟩) n cq34]) 24, bx (γ66 0) (#[.slice (some ⟨g34, 0, none⟩) n cq34]) 24, bx (γ6 1) (#[.slice (some ⟨g34, 0, none⟩) n cq34]) 24, bx (γ6 0) (#[.slice (some ⟨b148, o148, none⟩) n cap]) 24, bx (γ4 0) (#[.int .i64 0]) 3, bx (γ3 3) (#[.slice (some ⟨g34, 0, none⟩) n cq34]) 24, bx (γ3 2) (#[.func (.func 58) #[] #[]]) 75, bx (γ3 1) (#[.int .i64 k]) 3, bx (γ3 0) (#[.slice (some ⟨b148, o148, none⟩) n cap]) 24, bx (γ1 1) (#[.slice none 0 0]) 24, bx (γ1 0) (#[.slice (some ⟨b148, o148, none⟩) n cap]) 24, bx g34 ((cs34).setIfInBounds (0 + (posB l y70.peer) * 5 + 3) (.bool true)) 40]) ?_ (fun hm => ?_)
        rotate_left
        ·
         refine any_fork [0, 1] (by kernel_rfl) (by simp) (each_cons _ rfl ?_ (each_cons _ rfl ?_ (each_nil)))
         ·
          refine qo0 1 [(0, .go (owns 0 0 1))] [6, 9, 20] [(18, .agg #[.slice (some ⟨g34, 0, none⟩) n cq34])] ?_
          refine od_ ?_
          refine any_fork [1, 3] (by kernel_rfl) (by simp) (each_cons _ rfl ?_ (each_cons _ rfl ?_ (each_nil)))
          ·
           refine qo0 1 [(1, .go (owns 4 0 1))] [6, 18, 20] [(19, .int .i64 0)] ?_
           refine od_ ?_
           refine a1 3 rfl ?_
           refine mo0 1 [(3, .go (owns 5 0 1))] [6, 19, 20] (fun _ => []) (fun _ L => (L.set 5 (bx (γ3 3) (#[.slice (some ⟨g34, 0, none⟩) n cq34]) 24))) (fun _ => ?_)
           refine od_ ?_
           refine tk (m := 0) [4, 5] [] [6] [(7, .int .i64 0), (8, .int .i64 0)] ([]) #[true, true, true, true, true, true] al0 ?_
           exact any_weak hm [6, 7, 8] (by kernel_rfl) rfl rfl rfl
          ·
           refine mo0 1 [(3, .go (owns 5 0 1))] [6, 9, 20] (fun _ => []) (fun _ L => (L.set 5 (bx (γ3 3) (#[.slice (some ⟨g34, 0, none⟩) n cq34]) 24))) (fun _ => ?_)
           refine od_ ?_
           refine a1 1 rfl ?_
           refine qo0 1 [(1, .go (owns 4 0 1))] [6, 20] [(19, .int .i64 0)] ?_
           refine od_ ?_
           refine tk (m := 0) [4, 5] [] [6] [(7, .int .i64 0), (8, .int .i64 0)] ([]) #[true, true, true, true, true, true] al0 ?_
           exact any_weak hm [6, 7, 8] (by kernel_rfl) rfl rfl rfl
         ·
          refine qo0 1 [(1, .go (owns 4 0 1))] [6, 10, 20] [(19, .int .i64 0)] ?_
          refine od_ ?_
          refine a1 0 rfl ?_
          refine qo0 1 [(0, .go (owns 0 0 1))] [6, 19, 20] [(18, .agg #[.slice (some ⟨g34, 0, none⟩) n cq34])] ?_
          refine od_ ?_
          refine a1 3 rfl ?_
          refine mo0 1 [(3, .go (owns 5 0 1))] [6, 19, 20] (fun _ => []) (fun _ L => (L.set 5 (bx (γ3 3) (#[.slice (some ⟨g34, 0, none⟩) n cq34]) 24))) (fun _ => ?_)
          refine od_ ?_
          refine tk (m := 0) [4, 5] [] [6] [(7, .int .i64 0), (8, .int .i64 0)] ([]) #[true, true, true, true, true, true] al0 ?_
          exact any_weak hm [6, 7, 8] (by kernel_rfl) rfl rfl rfl
        refine any_nil (by kernel_rfl) ?_
        refine ds_ (bk (owns 5 0 1) (.tuple #[.agg #[.slice (some ⟨g34, 0, none⟩) n cq34], .int .i64 0, .int .i64 0]) (mo0 6 [(6, .go (owns 9 0 1))] [4] (fun _ => [(5, .int .i64 0), (6, .int .i64 0)]) (fun _ L => (L.set 9 (bx (γ1 1) (#[.slice (some ⟨g34, 0, none⟩) n cq34]) 24))) (fun _ => on_ (ds_ (rt (owns 9 0 1) (.tuple #[.agg #[.slice (some ⟨g34, 0, none⟩) n cq34], .int .i64 0, .int .i64 0]) ?_)))))
        exact fun w' hw => by rw [sendV_ok q8 hg70 q110 hg140, turnP_no (y := y140) (z := (⟨y140.num, y140.vcpu, y140.peer, true, y140.masked⟩ : Port)) (fun ⟨a, _⟩ => absurd (a.symm.trans q151) (by decide)), pos_of hg140]; exact ⟨_, _, _, _, rfl, (SlO.ofOwn (hOw34.put (x' := (⟨y140.num, y140.vcpu, y140.peer, true, y140.masked⟩ : Port)) hnq34 hy140 (f := 3) (by decide) rfl) (len_set hnq34)), hw.below, hw.tailN 11⟩
       ·
        refine cK (.bool true) Try.call39 (fun w hw => by have := due_d (⟨y140.num, y140.vcpu, y140.peer, true, y140.masked⟩ : Port) w; rw [show dueB (⟨y140.num, y140.vcpu, y140.peer, true, y140.masked⟩ : Port) = true from q151] at this; exact this) ?_
        refine cm 4 [(7, .go (outs b148 (o148 + (posB l y140.num) * 5) [.int .i64 y140.num, .int .i64 y140.vcpu, .int .i64 y140.peer, .bool y140.pending, .bool y140.masked]))] [4, 8, 10] [(43, .bool true), (46, .agg #[.int .i64 y140.num, .int .i64 y140.vcpu, .int .i64 y140.peer, .bool y140.pending, .bool y140.masked])] (cellsP w b148 (o148 + (posB l y140.num) * 5) [.int .i64 y140.num, .int .i64 y140.vcpu, .int .i64 y140.peer, .bool y140.pending, .bool y140.masked]) (by kernel_rfl) rfl (rd_pre (hsl.get (get_pos (ris_asc l 0 (right_ris q8)) (get_self hg140)).1) _ rfl) ?_
        rcases q177 : (y140.pending && !y140.masked) with _ | _
        ·
         refine cK (.bool false) Try.call39 (fun w hw => by have := due_d (⟨y140.num, y140.vcpu, y140.peer, y140.pending, y140.masked⟩ : Port) w; rw [show dueB (⟨y140.num, y140.vcpu, y140.peer, y140.pending, y140.masked⟩ : Port) = false from q177] at this; exact this) ?_
         refine cm 13 [] [4, 8] [(60, .bool true)] ([]) (by kernel_rfl) rfl al0 ?_
         refine calm_nil' ?_
         refine ds_ (t_ (ma [(3, .go (ownps 10 (0 + (posB l y70.peer) * 5 + 1) [.int .i64 y140.vcpu])), (4, .go (owns 3 0 1))] [] (fun _ => []) (fun _ L => (L.set 3 (bx (γ4 0) (#[.int .i64 y140.vcpu]) 3))) (fun _ => acellsP ((cs34).setIfInBounds (0 + (posB l y70.peer) * 5 + 3) (.bool true)) (0 + (posB l y70.peer) * 5 + 1) [.int .i64 y140.vcpu]) (fun _ => (rda_part (((hOw34.put (x' := (⟨y140.num, y140.vcpu, y140.peer, true, y140.masked⟩ : Port)) hnq34 hy140 (f := 3) (by decide) rfl).rdx (len_set hnq34) (get_set hy140))) 1 _ rfl)) (fun _ => ds_ (sq_ (qa0 [] [] [(6, .int .i64 0)] (ds_ (bk ([]) (.int .i64 0) (qo0 1 [] [4, 7] [(8, .int .i64 0)] (on_ (ds_ (sq_ (qa0 [] [4, 7, 8] [(22, .bool false)] (ds_ (f_ (at_skip (ds_ (sq_ (ma0 [(0, .go (owns 0 0 1)), (1, .go (owns 1 0 1))] [4] (fun _ => [(5, .int .i64 0)]) (fun _ L => (L.set 1 (bx (γ6 1) (#[.slice (some ⟨g34, 0, none⟩) n cq34]) 24))) (fun _ => ds_ (bk (owns 1 0 1) (.tuple #[.agg #[.slice (some ⟨g34, 0, none⟩) n cq34], .int .i64 0]) (mo0 6 [(7, .go (owns 0 0 1))] [6, 9] (fun γ184 => [(10, .pointer (some ⟨γ184 0, 0, none⟩)), (11, .int .i64 0)]) (fun γ184 L => bx (γ184 0) (#[.slice (some ⟨g34, 0, none⟩) n cq34]) 24 :: L) (fun γ184 => on_ (ds_ (sq_ ?_))))))))))))))))))))))))
         refine at_any (by kernel_rfl) ?_
         refine tk (m := 5) [2] [] [6, 9, 10] [(20, .int .i64 0)] ([]) #[false, false, true, false, false, false] al0 ?_
         refine any_cut 0 #[true, true, true, true, true, true] ([(6, .pointer (some ⟨γ3 3, 0, none⟩)), (7, .int .i64 y140.vcpu), (8, .int .i64 0)]) ([bx (γ184 0) (#[.slice (some ⟨g34, 0, none⟩) n cq34]) 24, bx (γ66 0) (#[.slice (some ⟨g34, 0, none⟩) n cq34]) 24, bx (γ6 1) (#[.slice (some ⟨g34, 0, none⟩) n cq34]) 24, bx (γ6 0) (#[.slice (some ⟨b148, o148, none⟩) n cap]) 24, bx (γ4 0) (#[.int .i64 y140.vcpu]) 3, bx (γ3 3) (#[.slice (some ⟨g34, 0, none⟩) n cq34]) 24, bx (γ3 2) (#[.func (.func 58) #[] #[]]) 75, bx (γ3 1) (#[.int .i64 k]) 3, bx (γ3 0) (#[.slice (some ⟨b148, o148, none⟩) n cap]) 24, bx (γ1 1) (#[.slice none 0 0]) 24, bx (γ1 0) (#[.slice (some ⟨b148, o148, none⟩) n cap]) 24, bx g34 ((cs34).setIfInBounds (0 + (posB l y70.peer) * 5 + 3) (.bool true)) 40]) ?_ (fun hm => ?_)
         rotate_left
         ·
          refine any_fork [0, 1] (by kernel_rfl) (by simp) (each_cons _ rfl ?_ (each_cons _ rfl ?_ (each_nil)))
          ·
           refine qo0 1 [(0, .go (owns 0 0 1))] [6, 9, 20] [(18, .agg #[.slice (some ⟨g34, 0, none⟩) n cq34])] ?_
           refine od_ ?_
           refine any_fork [1, 3] (by kernel_rfl) (by simp) (each_cons _ rfl ?_ (each_cons _ rfl ?_ (each_nil)))
           ·
            refine qo0 1 [(1, .go (owns 4 0 1))] [6, 18, 20] [(19, .int .i64 y140.vcpu)] ?_
            refine od_ ?_
            refine a1 3 rfl ?_
            refine mo0 1 [(3, .go (owns 5 0 1))] [6, 19, 20] (fun _ => []) (fun _ L => (L.set 5 (bx (γ3 3) (#[.slice (some ⟨g34, 0, none⟩) n cq34]) 24))) (fun _ => ?_)
            refine od_ ?_
            refine tk (m := 0) [4, 5] [] [6] [(7, .int .i64 y140.vcpu), (8, .int .i64 0)] ([]) #[true, true, true, true, true, true] al0 ?_
            exact any_weak hm [6, 7, 8] (by kernel_rfl) rfl rfl rfl
           ·
            refine mo0 1 [(3, .go (owns 5 0 1))] [6, 9, 20] (fun _ => []) (fun _ L => (L.set 5 (bx (γ3 3) (#[.slice (some ⟨g34, 0, none⟩) n cq34]) 24))) (fun _ => ?_)
            refine od_ ?_
            refine a1 1 rfl ?_
            refine qo0 1 [(1, .go (owns 4 0 1))] [6, 20] [(19, .int .i64 y140.vcpu)] ?_
            refine od_ ?_
            refine tk (m := 0) [4, 5] [] [6] [(7, .int .i64 y140.vcpu), (8, .int .i64 0)] ([]) #[true, true, true, true, true, true] al0 ?_
            exact any_weak hm [6, 7, 8] (by kernel_rfl) rfl rfl rfl
          ·
           refine qo0 1 [(1, .go (owns 4 0 1))] [6, 10, 20] [(19, .int .i64 y140.vcpu)] ?_
           refine od_ ?_
           refine a1 0 rfl ?_
           refine qo0 1 [(0, .go (owns 0 0 1))] [6, 19, 20] [(18, .agg #[.slice (some ⟨g34, 0, none⟩) n cq34])] ?_
           refine od_ ?_
           refine a1 3 rfl ?_
           refine mo0 1 [(3, .go (owns 5 0 1))] [6, 19, 20] (fun _ => []) (fun _ L => (L.set 5 (bx (γ3 3) (#[.slice (some ⟨g34, 0, none⟩) n cq34]) 24))) (fun _ => ?_)
           refine od_ ?_
           refine tk (m := 0) [4, 5] [] [6] [(7, .int .i64 y140.vcpu), (8, .int .i64 0)] ([]) #[true, true, true, true, true, true] al0 ?_
           exact any_weak hm [6, 7, 8] (by kernel_rfl) rfl rfl rfl
         refine any_nil (by kernel_rfl) ?_
         refine ds_ (bk (owns 5 0 1) (.tuple #[.agg #[.slice (some ⟨g34, 0, none⟩) n cq34], .int .i64 y140.vcpu, .int .i64 0]) (mo0 6 [(6, .go (owns 9 0 1))] [4] (fun _ => [(5, .int .i64 y140.vcpu), (6, .int .i64 0)]) (fun _ L => (L.set 9 (bx (γ1 1) (#[.slice (some ⟨g34, 0, none⟩) n cq34]) 24))) (fun _ => on_ (ds_ (rt (owns 9 0 1) (.tuple #[.agg #[.slice (some ⟨g34, 0, none⟩) n cq34], .int .i64 y140.vcpu, .int .i64 0]) ?_)))))
         exact fun w' hw => by rw [sendV_ok q8 hg70 q110 hg140, turnP_yes (y := y140) (z := (⟨y140.num, y140.vcpu, y140.peer, true, y140.masked⟩ : Port)) q151 (.inl q177), pos_of hg140]; exact ⟨_, _, _, _, rfl, (SlO.ofOwn (hOw34.put (x' := (⟨y140.num, y140.vcpu, y140.peer, true, y140.masked⟩ : Port)) hnq34 hy140 (f := 3) (by decide) rfl) (len_set hnq34)), hw.below, hw.tailN 11⟩
        ·
         refine cK (.bool true) Try.call39 (fun w hw => by have := due_d (⟨y140.num, y140.vcpu, y140.peer, y140.pending, y140.masked⟩ : Port) w; rw [show dueB (⟨y140.num, y140.vcpu, y140.peer, y140.pending, y140.masked⟩ : Port) = true from q177] at this; exact this) ?_
         refine cm 13 [(14, .go (outs b148 (o148 + (posB l y140.num) * 5 + 1) [.int .i64 y140.vcpu])), (18, .go (ownps 10 (0 + (posB l y70.peer) * 5 + 1) [.int .i64 y140.vcpu])), (19, .no)] [4, 8] [(60, .bool false)] (cellsP w b148 (o148 + (posB l y140.num) * 5 + 1) [.int .i64 y140.vcpu] ++ (acellsP ((cs34).setIfInBounds (0 + (posB l y70.peer) * 5 + 3) (.bool true)) (0 + (posB l y70.peer) * 5 + 1) [.int .i64 y140.vcpu] ++ ([¬ ((y140.vcpu : Int) ≠ (y140.vcpu : Int))]))) (by kernel_rfl) rfl (alA (rd_part (hsl.get (get_pos (ris_asc l 0 (right_ris q8)) (get_self hg140)).1) 1 _ rfl) (alA (rda_part (((hOw34.put (x' := (⟨y140.num, y140.vcpu, y140.peer, true, y140.masked⟩ : Port)) hnq34 hy140 (f := 3) (by decide) rfl).rdx (len_set hnq34) (get_set hy140))) 1 _ rfl) (al1 ((fun h => h rfl))))) ?_
         refine calm_nil' ?_
         refine ds_ (f_ (at_skip (ds_ (sq_ (qa0 [] [] [(6, .int .i64 0)] (ds_ (bk ([]) (.int .i64 0) (qo0 1 [] [4, 7] [(8, .int .i64 0)] (on_ (ds_ (sq_ (qa0 [] [4, 7, 8] [(22, .bool false)] (ds_ (f_ (at_skip (ds_ (sq_ (ma0 [(0, .go (owns 0 0 1)), (1, .go (owns 1 0 1))] [4] (fun _ => [(5, .int .i64 0)]) (fun _ L => (L.set 1 (bx (γ6 1) (#[.slice (some ⟨g34, 0, none⟩) n cq34]) 24))) (fun _ => ds_ (bk (owns 1 0 1) (.tuple #[.agg #[.slice (some ⟨g34, 0, none⟩) n cq34], .int .i64 0]) (mo0 6 [(7, .go (owns 0 0 1))] [6, 9] (fun γ208 => [(10, .pointer (some ⟨γ208 0, 0, none⟩)), (11, .int .i64 0)]) (fun γ208 L => bx (γ208 0) (#[.slice (some ⟨g34, 0, none⟩) n cq34]) 24 :: L) (fun γ208 => on_ (ds_ (sq_ ?_))))))))))))))))))))))))
         refine at_any (by kernel_rfl) ?_
         refine tk (m := 5) [2] [] [6, 9, 10] [(20, .int .i64 0)] ([]) #[false, false, true, false, false, false] al0 ?_
         refine any_cut 0 #[true, true, true, true, true, true] ([(6, .pointer (some ⟨γ3 3, 0, none⟩)), (7, .int .i64 0), (8, .int .i64 0)]) ([bx (γ208 0) (#[.slice (some ⟨g34, 0, none⟩) n cq34]) 24, bx (γ66 0) (#[.slice (some ⟨g34, 0, none⟩) n cq34]) 24, bx (γ6 1) (#[.slice (some ⟨g34, 0, none⟩) n cq34]) 24, bx (γ6 0) (#[.slice (some ⟨b148, o148, none⟩) n cap]) 24, bx (γ4 0) (#[.int .i64 0]) 3, bx (γ3 3) (#[.slice (some ⟨g34, 0, none⟩) n cq34]) 24, bx (γ3 2) (#[.func (.func 58) #[] #[]]) 75, bx (γ3 1) (#[.int .i64 k]) 3, bx (γ3 0) (#[.slice (some ⟨b148, o148, none⟩) n cap]) 24, bx (γ1 1) (#[.slice none 0 0]) 24, bx (γ1 0) (#[.slice (some ⟨b148, o148, none⟩) n cap]) 24, bx g34 ((cs34).setIfInBounds (0 + (posB l y70.peer) * 5 + 3) (.bool true)) 40]) ?_ (fun hm => ?_)
         rotate_left
         ·
          refine any_fork [0, 1] (by kernel_rfl) (by simp) (each_cons _ rfl ?_ (each_cons _ rfl ?_ (each_nil)))
          ·
           refine qo0 1 [(0, .go (owns 0 0 1))] [6, 9, 20] [(18, .agg #[.slice (some ⟨g34, 0, none⟩) n cq34])] ?_
           refine od_ ?_
           refine any_fork [1, 3] (by kernel_rfl) (by simp) (each_cons _ rfl ?_ (each_cons _ rfl ?_ (each_nil)))
           ·
            refine qo0 1 [(1, .go (owns 4 0 1))] [6, 18, 20] [(19, .int .i64 0)] ?_
            refine od_ ?_
            refine a1 3 rfl ?_
            refine mo0 1 [(3, .go (owns 5 0 1))] [6, 19, 20] (fun _ => []) (fun _ L => (L.set 5 (bx (γ3 3) (#[.slice (some ⟨g34, 0, none⟩) n cq34]) 24))) (fun _ => ?_)
            refine od_ ?_
            refine tk (m := 0) [4, 5] [] [6] [(7, .int .i64 0), (8, .int .i64 0)] ([]) #[true, true, true, true, true, true] al0 ?_
            exact any_weak hm [6, 7, 8] (by kernel_rfl) rfl rfl rfl
           ·
            refine mo0 1 [(3, .go (owns 5 0 1))] [6, 9, 20] (fun _ => []) (fun _ L => (L.set 5 (bx (γ3 3) (#[.slice (some ⟨g34, 0, none⟩) n cq34]) 24))) (fun _ => ?_)
            refine od_ ?_
            refine a1 1 rfl ?_
            refine qo0 1 [(1, .go (owns 4 0 1))] [6, 20] [(19, .int .i64 0)] ?_
            refine od_ ?_
            refine tk (m := 0) [4, 5] [] [6] [(7, .int .i64 0), (8, .int .i64 0)] ([]) #[true, true, true, true, true, true] al0 ?_
            exact any_weak hm [6, 7, 8] (by kernel_rfl) rfl rfl rfl
          ·
           refine qo0 1 [(1, .go (owns 4 0 1))] [6, 10, 20] [(19, .int .i64 0)] ?_
           refine od_ ?_
           refine a1 0 rfl ?_
           refine qo0 1 [(0, .go (owns 0 0 1))] [6, 19, 20] [(18, .agg #[.slice (some ⟨g34, 0, none⟩) n cq34])] ?_
           refine od_ ?_
           refine a1 3 rfl ?_
           refine mo0 1 [(3, .go (owns 5 0 1))] [6, 19, 20] (fun _ => []) (fun _ L => (L.set 5 (bx (γ3 3) (#[.slice (some ⟨g34, 0, none⟩) n cq34]) 24))) (fun _ => ?_)
           refine od_ ?_
           refine tk (m := 0) [4, 5] [] [6] [(7, .int .i64 0), (8, .int .i64 0)] ([]) #[true, true, true, true, true, true] al0 ?_
           exact any_weak hm [6, 7, 8] (by kernel_rfl) rfl rfl rfl
         refine any_nil (by kernel_rfl) ?_
         refine ds_ (bk (owns 5 0 1) (.tuple #[.agg #[.slice (some ⟨g34, 0, none⟩) n cq34], .int .i64 0, .int .i64 0]) (mo0 6 [(6, .go (owns 9 0 1))] [4] (fun _ => [(5, .int .i64 0), (6, .int .i64 0)]) (fun _ L => (L.set 9 (bx (γ1 1) (#[.slice (some ⟨g34, 0, none⟩) n cq34]) 24))) (fun _ => on_ (ds_ (rt (owns 9 0 1) (.tuple #[.agg #[.slice (some ⟨g34, 0, none⟩) n cq34], .int .i64 0, .int .i64 0]) ?_)))))
         exact fun w' hw => by rw [sendV_ok q8 hg70 q110 hg140, turnP_no (y := y140) (z := (⟨y140.num, y140.vcpu, y140.peer, true, y140.masked⟩ : Port)) (fun ⟨_, b⟩ => b.elim (fun e => absurd (e.symm.trans q177) (by decide)) (fun e => e rfl)), pos_of hg140]; exact ⟨_, _, _, _, rfl, (SlO.ofOwn (hOw34.put (x' := (⟨y140.num, y140.vcpu, y140.peer, true, y140.masked⟩ : Port)) hnq34 hy140 (f := 3) (by decide) rfl) (len_set hnq34)), hw.below, hw.tailN 11⟩
end Go.Proofs.Ytfhlmijdokfdpaa

/-! event.Due. -/
namespace Go.Proofs.Ytfhlmijdokfdpaa
open Go Go.RowKit

set_option maxRecDepth 100000 in
theorem edue_d (p : Option Addr) (n cap : Nat) (l : List Port) (own : Int) (w : World)
 (hsl : Sv w p l) (hn : n = l.length) (hb : n ≤ 1000)
 : Calls Try.prog 22 #[.agg #[.slice p n cap], .int .i64 own] w fun e w' => ∃ q m capq Y, e = .returned (.slice q m capq) ∧ SlO 3 Y q m capq (edueV l own) ∧ Below w.heap.size w w' ∧ Hs w Y w' := by
 refine enter (Hs.start w) Try.func22 rfl Try.ntmps22 rfl (sq_ (ma0 [] [] (fun γ1 => [(2, .pointer (some ⟨γ1 0, 0, none⟩)), (3, .pointer (some ⟨γ1 1, 0, none⟩))]) (fun γ1 L => bx (γ1 1) (#[.int .i64 own]) 3 :: bx (γ1 0) (#[.slice p n cap]) 24 :: L) (fun γ1 => ds_ (sq_ (sq_ (ao_ (qo0 1 [(0, .go (owns 1 0 1))] [2, 3] [(5, .agg #[.slice p n cap])] ?_)))))))
 rcases q3 : rightB l with _ | _
 ·
  refine cD (.int .i64 260) Try.call16 (fun w hw => by have := check_d p n cap l w (hsl.kept hw.below) hn hb; rw [q3] at this; exact this) (qo0 1 [] [2, 3] [(7, .bool true)] (on_ (ds_ (t_ (sq_ (qa0 [] [] [(4, .slice none 0 0)] (ds_ (rt ([]) (.slice none 0 0) ?_))))))))
  exact fun w' hw => by rw [edueV_bad q3]; exact ⟨none, 0, 0, [], rfl, SlO.nil, hw.below, hw.sub (List.nil_sublist _)⟩
 ·
  refine cD (.int .i64 0) Try.call16 (fun w hw => by have := check_d p n cap l w (hsl.kept hw.below) hn hb; rw [q3] at this; exact this) (qo0 1 [] [2, 3] [(7, .bool false)] (on_ (ds_ (f_ (at_skip (ds_ (sq_ (ao_ (qo0 2 [(0, .go (owns 1 0 1))] [] [(8, .agg #[.slice p n cap]), (9, .func (.func 38) #[] #[.pointer (some ⟨γ1 1, 0, none⟩)])] (ops_inline (g := 37) (args := #[.agg #[.slice p n cap], .func (.func 38) #[] #[.pointer (some ⟨γ1 1, 0, none⟩)]]) (by kernel_rfl) (by kernel_rfl) (by kernel_rfl) (fun args w => Try.call37 args w) Try.func37 rfl Try.ntmps37 rfl (sq_ (ma0 [] [] (fun γ8 => [(2, .pointer (some ⟨γ8 0, 0, none⟩)), (3, .pointer (some ⟨γ8 1, 0, none⟩))]) (fun γ8 L => bx (γ8 1) (#[.func (.func 38) #[] #[.pointer (some ⟨γ1 1, 0, none⟩)]]) 73 :: bx (γ8 0) (#[.slice p n cap]) 24 :: L) (fun γ8 => ds_ (sq_ (qa0 [] [] [(4, .func (.func 60) #[] #[.pointer (some ⟨γ8 0, 0, none⟩), .pointer (some ⟨γ8 1, 0, none⟩)])] (ds_ (bk ([]) (.func (.func 60) #[] #[.pointer (some ⟨γ8 0, 0, none⟩), .pointer (some ⟨γ8 1, 0, none⟩)]) (ops_inlineM (g := 36) (args := #[.func (.func 60) #[] #[.pointer (some ⟨γ8 0, 0, none⟩), .pointer (some ⟨γ8 1, 0, none⟩)]]) (by kernel_rfl) (by kernel_rfl) (by kernel_rfl) (fun args w => Try.call36 args w) Try.func36 rfl Try.ntmps36 rfl (sq_ (qa0 [] [0] [] (ds_ (sq_ (ma0 [] [0] (fun γ12 => [(3, .pointer (some ⟨γ12 0, 0, none⟩))]) (fun γ12 L => bx (γ12 0) (#[.slice none 0 0]) 28 :: L) (fun γ12 => ds_ (sq_ (sq_ (qa0 [] [3] [(5, .func (.func 60) #[] #[.pointer (some ⟨γ8 0, 0, none⟩), .pointer (some ⟨γ8 1, 0, none⟩)])] (ds_ (at_block (at_range (gf := 60) (lb := #[.pointer (some ⟨γ8 0, 0, none⟩), .pointer (some ⟨γ8 1, 0, none⟩)]) (by kernel_rfl) (fun args w => Try.call60 args w) Try.func60 rfl Try.ntmps60 (by kernel_rfl) (fun γ14 r14 hr14 => sq_ (qa0 [(1, .go (owns 4 0 1))] [0, 2] [(7, .slice p n cap), (8, .int .i64 ((n : Nat))), (9, .int .i64 0)] (ds_ (at_block (at_loop (α := Nat × List Ob × Option Addr × Nat × Nat) [0, 2, 7, 8, 9] (fun ⟨j, Yo, po, m, co⟩ => [(0, .func (.yield (γ14 1)) #[] #[]), (2, .pointer (some ⟨γ8 1, 0, none⟩)), (7, .slice p n cap), (8, .int .i64 ((n : Nat))), (9, .int .i64 ((j : Nat)))]) (fun ⟨j, Yo, po, m, co⟩ => (γ14 1, .loop r14) :: (γ14 0, .deferred (some [])) :: bx (γ12 0) (#[.slice po m co]) 28 :: bx (γ8 1) (#[.func (.func 38) #[] #[.pointer (some ⟨γ1 1, 0, none⟩)]]) 73 :: bx (γ8 0) (#[.slice p n cap]) 24 :: bx (γ1 1) (#[.int .i64 own]) 3 :: bx (γ1 0) (#[.slice p n cap]) 24 :: (Yo ++ [])) (fun ⟨j, Yo, po, m, co⟩ => j ≤ n ∧ m ≤ j ∧ SlO 3 Yo po m co (suchL (isDue own) (l.take j))) (fun ⟨j, Yo, po, m, co⟩ => n - j) (0, [], none, 0, 0) (by kernel_rfl) rfl ⟨Nat.zero_le _, Nat.le_refl _, by rw [List.take_zero]; exact SlO.nil⟩ ?_)))))))))))))))))))))))))))))))))))
  rintro ⟨j, Yo, po, m, co⟩
  rintro ⟨hj, hm, hO⟩
  refine sq_ ?_
  by_cases q17 : ((j : Nat) : Int) < ((n : Nat) : Int)
  ·
   refine qa [(0, .yes)] [0, 2, 7, 8, 9] [(10, .bool true)] ([((j : Nat) : Int) < ((n : Nat) : Int)]) (al1 q17) (ds_ (sq_ (t_ (at_skip (ds_ (sq_ (at_block (sq_ ?_))))))))
   obtain ⟨b20, o20, rfl⟩ := hsl.pos (i := j) (by omega)
   obtain ⟨x22, hx22⟩ := get_some (l := l) (m := j) (by omega)
   refine ma [(0, .at b20 o20 j), (1, .go (outs b20 (o20 + j * 5) [.int .i64 x22.num, .int .i64 x22.vcpu, .int .i64 x22.peer, .bool x22.pending, .bool x22.masked])), (3, .go (owns 0 0 5))] [0, 2, 7, 8, 9] (fun γ23 => [(5, .pointer (some ⟨γ23 0, 0, none⟩))]) (fun γ23 L => bx (γ23 0) (#[.int .i64 x22.num, .int .i64 x22.vcpu, .int .i64 x22.peer, .bool x22.pending, .bool x22.masked]) 40 :: L) (fun γ23 => [(some ⟨b20, o20, none⟩ : Option Addr) = some ⟨b20, o20, none⟩, ((j : Nat)) = ((j : Nat) : Int), j < n] ++ (cellsP w b20 (o20 + j * 5) [.int .i64 x22.num, .int .i64 x22.vcpu, .int .i64 x22.peer, .bool x22.pending, .bool x22.masked])) (fun γ23 => (alA (al2 rfl (al2 rfl (al1 (by omega)))) (rd_pre (hsl.get hx22) _ rfl))) (fun γ23 => ds_ (sq_ (ao_ (qo0 2 [(0, .go (owns 4 0 1)), (1, .go (owns 0 0 5))] [0, 2, 5, 7, 8, 9] [(13, .func (.func 38) #[] #[.pointer (some ⟨γ1 1, 0, none⟩)]), (14, .agg #[.int .i64 x22.num, .int .i64 x22.vcpu, .int .i64 x22.peer, .bool x22.pending, .bool x22.masked])] (ops_inline (g := 38) (args := #[.agg #[.int .i64 x22.num, .int .i64 x22.vcpu, .int .i64 x22.peer, .bool x22.pending, .bool x22.masked], .pointer (some ⟨γ1 1, 0, none⟩)]) (by kernel_rfl) (by kernel_rfl) (by kernel_rfl) (fun args w => Try.call38 args w) Try.func38 rfl Try.ntmps38 rfl (sq_ (ma0 [] [1] (fun γ25 => [(2, .pointer (some ⟨γ25 0, 0, none⟩))]) (fun γ25 L => bx (γ25 0) (#[.int .i64 x22.num, .int .i64 x22.vcpu, .int .i64 x22.peer, .bool x22.pending, .bool x22.masked]) 40 :: L) (fun γ25 => ds_ (sq_ (ao_ (qo0 1 [(0, .go (owns 0 0 5))] [1, 2] [(4, .agg #[.int .i64 x22.num, .int .i64 x22.vcpu, .int .i64 x22.peer, .bool x22.pending, .bool x22.masked])] ?_)))))))))))
   rcases q27 : (x22.pending && !x22.masked) with _ | _
   ·
    refine cD (.bool false) Try.call39 (fun w hw => by have := due_d (⟨x22.num, x22.vcpu, x22.peer, x22.pending, x22.masked⟩ : Port) w; rw [show dueB (⟨x22.num, x22.vcpu, x22.peer, x22.pending, x22.masked⟩ : Port) = false from q27] at this; exact this) (qo0 7 [] [] [(3, .bool false)] (on_ (ds_ (bk ([]) (.bool false) (qo0 7 [] [0, 2, 7, 8, 9] [(22, .bool false)] (on_ (ds_ (f_ (at_skip (done_block (ds_ (qa [(0, .fit)] [0, 2, 7, 8] [(9, .int .i64 ((j + 1 : Nat)))] ([Fit .i64 ((j + 1 : Nat))]) (al1 (fit64 (by omega) (by omega))) (Done.drop (L' := (γ14 1, .loop r14) :: (γ14 0, .deferred (some [])) :: bx (γ12 0) (#[.slice po m co]) 28 :: bx (γ8 1) (#[.func (.func 38) #[] #[.pointer (some ⟨γ1 1, 0, none⟩)]]) 73 :: bx (γ8 0) (#[.slice (some ⟨b20, o20, none⟩) n cap]) 24 :: bx (γ1 1) (#[.int .i64 own]) 3 :: bx (γ1 0) (#[.slice (some ⟨b20, o20, none⟩) n cap]) 24 :: (Yo ++ [])) ?_ (List.Sublist.cons _ (List.Sublist.cons _ (List.Sublist.cons_cons _ (List.Sublist.cons_cons _ (List.Sublist.cons_cons _ (List.Sublist.cons_cons _ (List.Sublist.cons_cons _ (List.Sublist.cons_cons _ (List.Sublist.cons_cons _ (List.Sublist.refl _)))))))))))))))))))))))
    exact dr [0, 2, 7, 8, 9] (j + 1, Yo, po, m, co) ⟨by omega, by omega, by rw [← such_no hx22 (isDue_no q27)]; exact hO⟩
   ·
    refine cD (.bool true) Try.call39 (fun w hw => by have := due_d (⟨x22.num, x22.vcpu, x22.peer, x22.pending, x22.masked⟩ : Port) w; rw [show dueB (⟨x22.num, x22.vcpu, x22.peer, x22.pending, x22.masked⟩ : Port) = true from q27] at this; exact this) ?_
    by_cases q32 : (x22.vcpu : Int) = (own : Int)
    ·
     refine qo 7 [(4, .go (owns 0 1 1)), (5, .go (owns 7 0 1)), (6, .yes)] [] [(3, .bool true)] ([(x22.vcpu : Int) = (own : Int)]) (al1 q32) (on_ (ds_ (bk ([]) (.bool true) (qo0 4 [(6, .go (owns 1 0 1))] [0, 2, 7, 8, 9] [(16, .bool true), (17, .func (.yield (γ14 1)) #[] #[]), (19, .int .i64 x22.num)] (ops_yield (args := #[.int .i64 x22.num]) (by kernel_rfl) (by kernel_rfl) (by kernel_rfl) 2 rfl hr14 rfl (by kernel_rfl) (qa0 [] [3] [(4, .int .i64 x22.num)] (done_asg 2 rfl (at_block (ao_ (mo0 3 [(0, .go (owns 4 0 1))] [3] (fun γ36 => [(7, .slice po m co), (9, .slice (some ⟨γ36 0, 0, none⟩) 1 1)]) (fun γ36 L => bx (γ36 0) (#[.int .i64 x22.num]) 3 :: L) (fun γ36 => ops_append (α := Int) [bx (γ36 0) (#[.int .i64 x22.num]) 3, bx (γ25 0) (#[.int .i64 x22.num, .int .i64 x22.vcpu, .int .i64 x22.peer, .bool x22.pending, .bool x22.masked]) 40, bx (γ23 0) (#[.int .i64 x22.num, .int .i64 x22.vcpu, .int .i64 x22.peer, .bool x22.pending, .bool x22.masked]) 40, (γ14 1, .loop { r14 with state := .busy }), (γ14 0, .deferred (some [])), bx (γ12 0) (#[.slice po m co]) 28, bx (γ8 1) (#[.func (.func 38) #[] #[.pointer (some ⟨γ1 1, 0, none⟩)]]) 73, bx (γ8 0) (#[.slice (some ⟨b20, o20, none⟩) n cap]) 24, bx (γ1 1) (#[.int .i64 own]) 3, bx (γ1 0) (#[.slice (some ⟨b20, o20, none⟩) n cap]) 24] Yo ([]) (.refl _) rfl (by kernel_rfl) (by kernel_rfl) (p := po) (n := m) (cap := co) (m := 1) (yv := .slice (some ⟨γ36 0, 0, none⟩) 1 1) (by kernel_rfl) (by kernel_rfl) (T := 3) (by_ := 8) (by kernel_rfl) ((suchL (isDue own) (l.take j))) ([x22.num]) hO (fun w hw => src_svn Try.underlying28 (sv_row (hw.row 0 rfl) (by rfl)) (by rfl)) (by rfl) (by have hmx : maxLen = 9223372036854775807 := rfl; omega) (by have hmx : maxLen = 9223372036854775807 := rfl; omega) (fun Y37 p37 cap37 hO37 => mo0 1 [(4, .go (owns 5 0 1))] [] (fun _ => []) (fun _ L => (L.set 5 (bx (γ12 0) (#[.slice p37 (m + 1) cap37]) 28))) (fun _ => on_ (done_block (done_rnd 3 rfl (qo0 2 [] [0, 2, 7, 8, 9] [(22, .bool false)] (on_ (ds_ (f_ (at_skip (done_block (ds_ (qa [(0, .fit)] [0, 2, 7, 8] [(9, .int .i64 ((j + 1 : Nat)))] ([Fit .i64 ((j + 1 : Nat))]) (al1 (fit64 (by omega) (by omega))) (Done.drop (L' := (γ14 1, .loop r14) :: (γ14 0, .deferred (some [])) :: bx (γ12 0) (#[.slice p37 (m + 1) cap37]) 28 :: bx (γ8 1) (#[.func (.func 38) #[] #[.pointer (some ⟨γ1 1, 0, none⟩)]]) 73 :: bx (γ8 0) (#[.slice (some ⟨b20, o20, none⟩) n cap]) 24 :: bx (γ1 1) (#[.int .i64 own]) 3 :: bx (γ1 0) (#[.slice (some ⟨b20, o20, none⟩) n cap]) 24 :: (Y37 ++ [])) ?_ (List.Sublist.cons _ (List.Sublist.cons _ (List.Sublist.cons _ (List.Sublist.cons_cons _ (List.Sublist.cons_cons _ (List.Sublist.cons_cons _ (List.Sublist.cons_cons _ (List.Sublist.cons_cons _ (List.Sublist.cons_cons _ (List.Sublist.cons_cons _ (List.Sublist.refl _)))))))))))))))))))))))))))))))))))
     exact dr [0, 2, 7, 8, 9] (j + 1, Y37, p37, m + 1, cap37) ⟨by omega, by omega, by rw [← such_yes hx22 (isDue_yes q27 q32)]; exact hO37⟩
    ·
     refine qo 7 [(4, .go (owns 0 1 1)), (5, .go (owns 7 0 1)), (6, .no)] [] [(3, .bool false)] ([¬ ((x22.vcpu : Int) = (own : Int))]) (al1 q32) (on_ (ds_ (bk ([]) (.bool false) (qo0 7 [] [0, 2, 7, 8, 9] [(22, .bool false)] (on_ (ds_ (f_ (at_skip (done_block (ds_ (qa [(0, .fit)] [0, 2, 7, 8] [(9, .int .i64 ((j + 1 : Nat)))] ([Fit .i64 ((j + 1 : Nat))]) (al1 (fit64 (by omega) (by omega))) (Done.drop (L' := (γ14 1, .loop r14) :: (γ14 0, .deferred (some [])) :: bx (γ12 0) (#[.slice po m co]) 28 :: bx (γ8 1) (#[.func (.func 38) #[] #[.pointer (some ⟨γ1 1, 0, none⟩)]]) 73 :: bx (γ8 0) (#[.slice (some ⟨b20, o20, none⟩) n cap]) 24 :: bx (γ1 1) (#[.int .i64 own]) 3 :: bx (γ1 0) (#[.slice (some ⟨b20, o20, none⟩) n cap]) 24 :: (Yo ++ [])) ?_ (List.Sublist.cons _ (List.Sublist.cons _ (List.Sublist.cons_cons _ (List.Sublist.cons_cons _ (List.Sublist.cons_cons _ (List.Sublist.cons_cons _ (List.Sublist.cons_cons _ (List.Sublist.cons_cons _ (List.Sublist.cons_cons _ (List.Sublist.refl _))))))))))))))))))))))
     exact dr [0, 2, 7, 8, 9] (j + 1, Yo, po, m, co) ⟨by omega, by omega, by rw [← such_no hx22 (isDue_not q32)]; exact hO⟩
  ·
   refine qa [(0, .no)] [0, 2, 7, 8, 9] [(10, .bool false)] ([¬ (((j : Nat) : Int) < ((n : Nat) : Int))]) (al1 q17) (ds_ (sq_ (f_ (at_leave _ rfl (done_back (by rfl) (⟨0, rfl, ?_⟩))))))
   refine done_block (ds_ (sq_ (qa0 [(0, .go (owns 1 0 1))] [] [(2, .slice po m co)] (ds_ (at_backM 0 rfl ([]) (.slice po m co) [] (by kernel_rfl) (by kernel_rfl) al0 (qo0 1 [] [] [(4, .slice po m co)] (on_ (ds_ (rt ([]) (.slice po m co) ?_)))))))))
   exact fun w' hw => by rw [edueV_ok q3, ← such_all (j := j) (by omega)]; exact ⟨_, _, _, _, rfl, hO, hw.below, ((hw.tailN 5).sub (List.sublist_append_left Yo ([])))⟩
end Go.Proofs.Ytfhlmijdokfdpaa

/-! event.Open. -/
namespace Go.Proofs.Ytfhlmijdokfdpaa
open Go Go.RowKit

set_option maxRecDepth 100000 in
theorem open_d (p : Option Addr) (n cap : Nat) (l : List Port) (own : Int) (w : World)
 (hsl : Sv w p l) (hn : n = l.length) (hb : n ≤ 1000)
 : Calls Try.prog 28 #[.agg #[.slice p n cap], .int .i64 own] w fun e w' => ∃ q m capq Y, e = .returned (.tuple #[.agg #[.slice q m capq], .int .i64 (openV l own).2.1, .int .i64 (openV l own).2.2]) ∧ SlO 40 Y q m capq (openV l own).1 ∧ Below w.heap.size w w' ∧ Hs w Y w' := by
 refine enter (Hs.start w) Try.func28 rfl Try.ntmps28 rfl (sq_ (ma0 [] [] (fun γ1 => [(2, .pointer (some ⟨γ1 0, 0, none⟩)), (3, .pointer (some ⟨γ1 1, 0, none⟩)), (4, .pointer (some ⟨γ1 2, 0, none⟩))]) (fun γ1 L => bx (γ1 2) (#[.slice none 0 0]) 24 :: bx (γ1 1) (#[.int .i64 own]) 3 :: bx (γ1 0) (#[.slice p n cap]) 24 :: L) (fun γ1 => ds_ (sq_ (ma0 [(1, .go (owns 0 0 1))] [2, 3, 4] (fun γ2 => [(7, .pointer (some ⟨γ2 0, 0, none⟩))]) (fun γ2 L => bx (γ2 0) (#[.int .i64 0]) 3 :: L) (fun γ2 => ds_ (sq_ (ao_ (qo0 2 [(0, .go (owns 3 0 1))] [4, 7] [(11, .agg #[.slice p n cap]), (12, .func (.func 55) #[] #[.pointer (some ⟨γ1 1, 0, none⟩), .pointer (some ⟨γ2 0, 0, none⟩)])] (ops_inline (g := 54) (args := #[.agg #[.slice p n cap], .func (.func 55) #[] #[.pointer (some ⟨γ1 1, 0, none⟩), .pointer (some ⟨γ2 0, 0, none⟩)]]) (by kernel_rfl) (by kernel_rfl) (by kernel_rfl) (fun args w => Try.call54 args w) Try.func54 rfl Try.ntmps54 rfl (sq_ (ma0 [] [1] (fun γ4 => [(2, .pointer (some ⟨γ4 0, 0, none⟩)), (4, .pointer (some ⟨γ4 1, 0, none⟩))]) (fun γ4 L => bx (γ4 1) (#[.slice none 0 0]) 24 :: bx (γ4 0) (#[.slice p n cap]) 24 :: L) (fun γ4 => ds_ (sq_ (sq_ (ao_ (qo0 1 [(0, .go (owns 1 0 1))] [1, 2, 4] [(9, .agg #[.slice p n cap])] ?_)))))))))))))))))
 rcases q6 : rightB l with _ | _
 ·
  refine cD (.int .i64 260) Try.call16 (fun w hw => by have := check_d p n cap l w (hsl.kept hw.below) hn hb; rw [q6] at this; exact this) (qo0 1 [] [1, 2, 4] [(6, .int .i64 260)] (on_ (ds_ (sq_ (qa0 [] [1, 2, 4, 6] [(12, .bool true)] (ds_ (t_ (sq_ (qa0 [(2, .go (owns 0 0 1))] [4] [(5, .int .i64 260)] (ds_ (bk (owns 0 0 1) (.tuple #[.agg #[.slice none 0 0], .int .i64 260]) (mo0 6 [(7, .go (owns 0 0 1))] [4, 7] (fun γ10 => [(8, .pointer (some ⟨γ10 0, 0, none⟩)), (9, .int .i64 260)]) (fun γ10 L => bx (γ10 0) (#[.slice none 0 0]) 24 :: L) (fun γ10 => on_ (ds_ (sq_ ?_)))))))))))))))
  refine at_any (by kernel_rfl) ?_
  refine tk (m := 5) [2] [] [4, 7, 8] [(18, .int .i64 260)] ([]) #[false, false, true, false, false, false] al0 ?_
  refine any_cut 0 #[true, true, true, true, true, true] ([(4, .pointer (some ⟨γ1 2, 0, none⟩)), (5, .int .i64 0), (6, .int .i64 260)]) ([bx (γ10 0) (#[.slice none 0 0]) 24, bx (γ4 1) (#[.slice none 0 0]) 24, bx (γ4 0) (#[.slice p n cap]) 24, bx (γ2 0) (#[.int .i64 0]) 3, bx (γ1 2) (#[.slice none 0 0]) 24, bx (γ1 1) (#[.int .i64 own]) 3, bx (γ1 0) (#[.slice p n cap]) 24]) ?_ (fun hm => ?_)
  rotate_left
  ·
   refine any_fork [0, 1] (by kernel_rfl) (by simp) (each_cons _ rfl ?_ (each_cons _ rfl ?_ (each_nil)))
   ·
    refine qo0 1 [(0, .go (owns 0 0 1))] [4, 7, 18] [(16, .agg #[.slice none 0 0])] ?_
    refine od_ ?_
    refine any_fork [1, 3] (by kernel_rfl) (by simp) (each_cons _ rfl ?_ (each_cons _ rfl ?_ (each_nil)))
    ·
     refine qo0 1 [(1, .go (owns 3 0 1))] [4, 16, 18] [(17, .int .i64 0)] ?_
     refine od_ ?_
     refine a1 3 rfl ?_
     refine qo0 1 [(3, .go (owns 4 0 1))] [4, 17, 18] [] ?_
     refine od_ ?_
     refine tk (m := 0) [4, 5] [] [4] [(5, .int .i64 0), (6, .int .i64 260)] ([]) #[true, true, true, true, true, true] al0 ?_
     exact any_weak hm [4, 5, 6] (by kernel_rfl) rfl rfl rfl
    ·
     refine qo0 1 [(3, .go (owns 4 0 1))] [4, 7, 18] [] ?_
     refine od_ ?_
     refine a1 1 rfl ?_
     refine qo0 1 [(1, .go (owns 3 0 1))] [4, 18] [(17, .int .i64 0)] ?_
     refine od_ ?_
     refine tk (m := 0) [4, 5] [] [4] [(5, .int .i64 0), (6, .int .i64 260)] ([]) #[true, true, true, true, true, true] al0 ?_
     exact any_weak hm [4, 5, 6] (by kernel_rfl) rfl rfl rfl
   ·
    refine qo0 1 [(1, .go (owns 3 0 1))] [4, 8, 18] [(17, .int .i64 0)] ?_
    refine od_ ?_
    refine a1 0 rfl ?_
    refine qo0 1 [(0, .go (owns 0 0 1))] [4, 17, 18] [(16, .agg #[.slice none 0 0])] ?_
    refine od_ ?_
    refine a1 3 rfl ?_
    refine qo0 1 [(3, .go (owns 4 0 1))] [4, 17, 18] [] ?_
    refine od_ ?_
    refine tk (m := 0) [4, 5] [] [4] [(5, .int .i64 0), (6, .int .i64 260)] ([]) #[true, true, true, true, true, true] al0 ?_
    exact any_weak hm [4, 5, 6] (by kernel_rfl) rfl rfl rfl
  refine any_nil (by kernel_rfl) ?_
  refine ds_ (rt (owns 4 0 1) (.tuple #[.agg #[.slice none 0 0], .int .i64 0, .int .i64 260]) ?_)
  exact fun w' hw => by rw [openV_bad q6]; exact ⟨none, 0, 0, [], rfl, SlO.nil, hw.below, hw.sub (List.nil_sublist _)⟩
 ·
  refine cD (.int .i64 0) Try.call16 (fun w hw => by have := check_d p n cap l w (hsl.kept hw.below) hn hb; rw [q6] at this; exact this) (qo0 1 [] [1, 2, 4] [(6, .int .i64 0)] (on_ (ds_ (sq_ (qa0 [] [1, 2, 4, 6] [(12, .bool false)] (ds_ (f_ (at_skip (ds_ (sq_ (ao_ (qo0 2 [(1, .go (owns 1 0 1))] [1, 4] [(16, .slice p n cap)] (cP (fun v L' => ∃ q capq Y, v = .slice q n capq ∧ L' = List.take 6 ([bx (γ4 1) (#[.slice none 0 0]) 24, bx (γ4 0) (#[.slice p n cap]) 24, bx (γ2 0) (#[.int .i64 0]) 3, bx (γ1 2) (#[.slice none 0 0]) 24, bx (γ1 1) (#[.int .i64 own]) 3, bx (γ1 0) (#[.slice p n cap]) 24]) ++ (Y ++ List.drop 6 ([bx (γ4 1) (#[.slice none 0 0]) 24, bx (γ4 0) (#[.slice p n cap]) 24, bx (γ2 0) (#[.int .i64 0]) 3, bx (γ1 2) (#[.slice none 0 0]) 24, bx (γ1 1) (#[.int .i64 own]) 3, bx (γ1 0) (#[.slice p n cap]) 24])) ∧ SlO 40 Y q n capq l) Try.call72 (fun w hw => (clone_d p n cap l w (hsl.kept hw.below) hn (by omega)).mono fun e w' ⟨q, capq, Y, he, hO, hb, hY⟩ => ⟨_, _, he, ⟨q, capq, Y, rfl, rfl, hO⟩, hw.join hb hY 6⟩) ?_)))))))))))))
  rintro v31 L31 ⟨q31, cq31, Y31, rfl, rfl, hO31⟩
  have hnq31 := hO31.len
  rcases hO31.parts with ⟨rfl, rfl, hz31⟩ | ⟨g31, cs31, rfl, rfl, hOw31⟩
  ·
   refine mo0 3 [(5, .go (owns 0 0 1))] [1, 4] (fun γ32 => [(7, .pointer (some ⟨γ32 0, 0, none⟩))]) (fun γ32 L => bx (γ32 0) (#[.slice none n cq31]) 24 :: L) (fun γ32 => on_ (ds_ (sq_ (sq_ (ao_ (qo0 1 [] [4, 7] [(19, .func (.func 55) #[] #[.pointer (some ⟨γ1 1, 0, none⟩), .pointer (some ⟨γ2 0, 0, none⟩)])] (ops_inline (g := 55) (args := #[.pointer (some ⟨γ32 0, 0, none⟩), .pointer (some ⟨γ1 1, 0, none⟩), .pointer (some ⟨γ2 0, 0, none⟩)]) (by kernel_rfl) (by kernel_rfl) (by kernel_rfl) (fun args w => Try.call55 args w) Try.func55 rfl Try.ntmps55 rfl (sq_ (qa0 [] [0, 1, 2] [] (ds_ (sq_ (sq_ (ao_ (qo0 1 [(0, .go (owns 5 0 1))] [0, 1, 2] [(6, .int .i64 own)] ?_))))))))))))))
   rcases q36 : vcpuB own with _ | _
   ·
    refine cD (.bool false) Try.call31 (fun w hw => by have := vcpu_d own w; rw [q36] at this; exact this) (qo0 1 [] [0, 1, 2] [(8, .bool true)] (on_ (ds_ (t_ (sq_ (qa0 [] [] [(4, .int .i64 2)] (ds_ (bk ([]) (.int .i64 2) (qo0 1 [] [4, 7] [(8, .int .i64 2)] (on_ (ds_ (sq_ (qa0 [] [4, 7, 8] [(22, .bool true)] (ds_ (t_ (sq_ (qa0 [(2, .go (owns 1 0 1))] [4] [(5, .int .i64 2)] (ds_ (bk (owns 1 0 1) (.tuple #[.agg #[.slice none 0 0], .int .i64 2]) (mo0 6 [(7, .go (owns 0 0 1))] [4, 7] (fun γ42 => [(8, .pointer (some ⟨γ42 0, 0, none⟩)), (9, .int .i64 2)]) (fun γ42 L => bx (γ42 0) (#[.slice none 0 0]) 24 :: L) (fun γ42 => on_ (ds_ (sq_ ?_)))))))))))))))))))))))
    refine at_any (by kernel_rfl) ?_
    refine tk (m := 5) [2] [] [4, 7, 8] [(18, .int .i64 2)] ([]) #[false, false, true, false, false, false] al0 ?_
    refine any_cut 0 #[true, true, true, true, true, true] ([(4, .pointer (some ⟨γ1 2, 0, none⟩)), (5, .int .i64 0), (6, .int .i64 2)]) ([bx (γ42 0) (#[.slice none 0 0]) 24, bx (γ32 0) (#[.slice none n cq31]) 24, bx (γ4 1) (#[.slice none 0 0]) 24, bx (γ4 0) (#[.slice p n cap]) 24, bx (γ2 0) (#[.int .i64 0]) 3, bx (γ1 2) (#[.slice none 0 0]) 24, bx (γ1 1) (#[.int .i64 own]) 3, bx (γ1 0) (#[.slice p n cap]) 24]) ?_ (fun hm => ?_)
    rotate_left
    ·
     refine any_fork [0, 1] (by kernel_rfl) (by simp) (each_cons _ rfl ?_ (each_cons _ rfl ?_ (each_nil)))
     ·
      refine qo0 1 [(0, .go (owns 0 0 1))] [4, 7, 18] [(16, .agg #[.slice none 0 0])] ?_
      refine od_ ?_
      refine any_fork [1, 3] (by kernel_rfl) (by simp) (each_cons _ rfl ?_ (each_cons _ rfl ?_ (each_nil)))
      ·
       refine qo0 1 [(1, .go (owns 4 0 1))] [4, 16, 18] [(17, .int .i64 0)] ?_
       refine od_ ?_
       refine a1 3 rfl ?_
       refine qo0 1 [(3, .go (owns 5 0 1))] [4, 17, 18] [] ?_
       refine od_ ?_
       refine tk (m := 0) [4, 5] [] [4] [(5, .int .i64 0), (6, .int .i64 2)] ([]) #[true, true, true, true, true, true] al0 ?_
       exact any_weak hm [4, 5, 6] (by kernel_rfl) rfl rfl rfl
      ·
       refine qo0 1 [(3, .go (owns 5 0 1))] [4, 7, 18] [] ?_
       refine od_ ?_
       refine a1 1 rfl ?_
       refine qo0 1 [(1, .go (owns 4 0 1))] [4, 18] [(17, .int .i64 0)] ?_
       refine od_ ?_
       refine tk (m := 0) [4, 5] [] [4] [(5, .int .i64 0), (6, .int .i64 2)] ([]) #[true, true, true, true, true, true] al0 ?_
       exact any_weak hm [4, 5, 6] (by kernel_rfl) rfl rfl rfl
     ·
      refine qo0 1 [(1, .go (owns 4 0 1))] [4, 8, 18] [(17, .int .i64 0)] ?_
      refine od_ ?_
      refine a1 0 rfl ?_
      refine qo0 1 [(0, .go (owns 0 0 1))] [4, 17, 18] [(16, .agg #[.slice none 0 0])] ?_
      refine od_ ?_
      refine a1 3 rfl ?_
      refine qo0 1 [(3, .go (owns 5 0 1))] [4, 17, 18] [] ?_
      refine od_ ?_
      refine tk (m := 0) [4, 5] [] [4] [(5, .int .i64 0), (6, .int .i64 2)] ([]) #[true, true, true, true, true, true] al0 ?_
      exact any_weak hm [4, 5, 6] (by kernel_rfl) rfl rfl rfl
    refine any_nil (by kernel_rfl) ?_
    refine ds_ (rt (owns 5 0 1) (.tuple #[.agg #[.slice none 0 0], .int .i64 0, .int .i64 2]) ?_)
    exact fun w' hw => by rw [openV_arg q6 q36]; exact ⟨none, 0, 0, [], rfl, SlO.nil, hw.below, hw.sub (List.nil_sublist _)⟩
   ·
    refine cD (.bool true) Try.call31 (fun w hw => by have := vcpu_d own w; rw [q36] at this; exact this) (qo0 1 [] [0, 1, 2] [(8, .bool false)] (on_ (ds_ (f_ (at_skip (ds_ (sq_ (qa0 [] [0, 1, 2] [(5, .int .i64 0)] (ds_ (sq_ (at_block (at_loop (α := Nat) [0, 1, 2, 5] (fun j => [(0, .pointer (some ⟨γ32 0, 0, none⟩)), (1, .pointer (some ⟨γ1 1, 0, none⟩)), (2, .pointer (some ⟨γ2 0, 0, none⟩)), (5, .int .i64 ((j : Nat)))]) (fun j => [bx (γ32 0) (#[.slice none n cq31]) 24, bx (γ4 1) (#[.slice none 0 0]) 24, bx (γ4 0) (#[.slice p n cap]) 24, bx (γ2 0) (#[.int .i64 0]) 3, bx (γ1 2) (#[.slice none 0 0]) 24, bx (γ1 1) (#[.int .i64 own]) 3, bx (γ1 0) (#[.slice p n cap]) 24]) (fun j => j ≤ n ∧ openI (l.drop j) j = openI l 0) (fun j => n - j) 0 (by kernel_rfl) rfl ⟨Nat.zero_le _, by rw [List.drop_zero]⟩ ?_))))))))))))
    rintro j
    rintro ⟨hj, hI⟩
    refine sq_ (sq_ (qa [(4, .go (owns 0 0 1)), (6, .no)] [0, 1, 2, 5] [(28, .bool false)] ([¬ (((j : Nat) : Int) < ((n : Nat) : Int))]) (al1 ((by omega))) (ds_ (f_ (at_leave _ rfl (ds_ (sq_ (sq_ ?_))))))))
    by_cases q64 : ((j : Nat) : Int) = (32 : Int)
    ·
     refine qa [(1, .yes)] [0, 1, 2, 5] [(32, .bool true)] ([((j : Nat) : Int) = (32 : Int)]) (al1 q64) (ds_ (t_ (sq_ (qa0 [] [] [(4, .int .i64 6)] (ds_ (bk ([]) (.int .i64 6) (qo0 1 [] [4, 7] [(8, .int .i64 6)] (on_ (ds_ (sq_ (qa0 [] [4, 7, 8] [(22, .bool true)] (ds_ (t_ (sq_ (qa0 [(2, .go (owns 1 0 1))] [4] [(5, .int .i64 6)] (ds_ (bk (owns 1 0 1) (.tuple #[.agg #[.slice none 0 0], .int .i64 6]) (mo0 6 [(7, .go (owns 0 0 1))] [4, 7] (fun γ70 => [(8, .pointer (some ⟨γ70 0, 0, none⟩)), (9, .int .i64 6)]) (fun γ70 L => bx (γ70 0) (#[.slice none 0 0]) 24 :: L) (fun γ70 => on_ (ds_ (sq_ ?_)))))))))))))))))))))
     refine at_any (by kernel_rfl) ?_
     refine tk (m := 5) [2] [] [4, 7, 8] [(18, .int .i64 6)] ([]) #[false, false, true, false, false, false] al0 ?_
     refine any_cut 0 #[true, true, true, true, true, true] ([(4, .pointer (some ⟨γ1 2, 0, none⟩)), (5, .int .i64 0), (6, .int .i64 6)]) ([bx (γ70 0) (#[.slice none 0 0]) 24, bx (γ32 0) (#[.slice none n cq31]) 24, bx (γ4 1) (#[.slice none 0 0]) 24, bx (γ4 0) (#[.slice p n cap]) 24, bx (γ2 0) (#[.int .i64 0]) 3, bx (γ1 2) (#[.slice none 0 0]) 24, bx (γ1 1) (#[.int .i64 own]) 3, bx (γ1 0) (#[.slice p n cap]) 24]) ?_ (fun hm => ?_)
     rotate_left
     ·
      refine any_fork [0, 1] (by kernel_rfl) (by simp) (each_cons _ rfl ?_ (each_cons _ rfl ?_ (each_nil)))
      ·
       refine qo0 1 [(0, .go (owns 0 0 1))] [4, 7, 18] [(16, .agg #[.slice none 0 0])] ?_
       refine od_ ?_
       refine any_fork [1, 3] (by kernel_rfl) (by simp) (each_cons _ rfl ?_ (each_cons _ rfl ?_ (each_nil)))
       ·
        refine qo0 1 [(1, .go (owns 4 0 1))] [4, 16, 18] [(17, .int .i64 0)] ?_
        refine od_ ?_
        refine a1 3 rfl ?_
        refine qo0 1 [(3, .go (owns 5 0 1))] [4, 17, 18] [] ?_
        refine od_ ?_
        refine tk (m := 0) [4, 5] [] [4] [(5, .int .i64 0), (6, .int .i64 6)] ([]) #[true, true, true, true, true, true] al0 ?_
        exact any_weak hm [4, 5, 6] (by kernel_rfl) rfl rfl rfl
       ·
        refine qo0 1 [(3, .go (owns 5 0 1))] [4, 7, 18] [] ?_
        refine od_ ?_
        refine a1 1 rfl ?_
        refine qo0 1 [(1, .go (owns 4 0 1))] [4, 18] [(17, .int .i64 0)] ?_
        refine od_ ?_
        refine tk (m := 0) [4, 5] [] [4] [(5, .int .i64 0), (6, .int .i64 6)] ([]) #[true, true, true, true, true, true] al0 ?_
        exact any_weak hm [4, 5, 6] (by kernel_rfl) rfl rfl rfl
      ·
       refine qo0 1 [(1, .go (owns 4 0 1))] [4, 8, 18] [(17, .int .i64 0)] ?_
       refine od_ ?_
       refine a1 0 rfl ?_
       refine qo0 1 [(0, .go (owns 0 0 1))] [4, 17, 18] [(16, .agg #[.slice none 0 0])] ?_
       refine od_ ?_
       refine a1 3 rfl ?_
       refine qo0 1 [(3, .go (owns 5 0 1))] [4, 17, 18] [] ?_
       refine od_ ?_
       refine tk (m := 0) [4, 5] [] [4] [(5, .int .i64 0), (6, .int .i64 6)] ([]) #[true, true, true, true, true, true] al0 ?_
       exact any_weak hm [4, 5, 6] (by kernel_rfl) rfl rfl rfl
     refine any_nil (by kernel_rfl) ?_
     refine ds_ (rt (owns 5 0 1) (.tuple #[.agg #[.slice none 0 0], .int .i64 0, .int .i64 6]) ?_)
     exact fun w' hw => by rw [openV_full q6 q36 (open_end hI (by omega)) q64]; exact ⟨none, 0, 0, [], rfl, SlO.nil, hw.below, hw.sub (List.nil_sublist _)⟩
    ·
     refine qa [(1, .no)] [0, 1, 2, 5] [(32, .bool false)] ([¬ (((j : Nat) : Int) = (32 : Int))]) (al1 q64) (ds_ (f_ (at_skip (ds_ (sq_ (ma [(1, .fit), (2, .go (owns 3 0 1))] [0, 1, 2, 5] (fun _ => []) (fun _ L => (L.set 3 (bx (γ2 0) (#[.int .i64 ((j + 1 : Nat))]) 3))) (fun _ => [Fit .i64 ((j + 1 : Nat))]) (fun _ => (al1 (fit64 (by omega) (by omega)))) (fun _ => ds_ (sq_ ?_))))))))
     refine at_any (by kernel_rfl) ?_
     refine tk (m := 9) [0, 1, 2, 3, 5] [] [1, 2] [(35, .pointer (some ⟨γ32 0, 0, none⟩)), (38, .pointer (some ⟨γ32 0, 0, none⟩)), (40, .int .i64 ((j : Nat)))] ([]) #[true, true, true, true, false, true, false, false, false, false, false, false, false, false] al0 ?_
     refine any_cutG 4 #[true, true, true, true, true, true, true, true, true, true, false, false, false, false] (fun γ96 => [(35, .pointer (some ⟨γ32 0, 0, none⟩)), (39, .slice none n cq31), (40, .int .i64 ((j : Nat))), (44, .slice (some ⟨γ96 0, 0, none⟩) 1 1)]) (fun γ96 => [bx (γ96 0) (#[.int .i64 ((j + 1 : Nat)), .int .i64 own, .int .i64 0, .bool false, .bool false]) 40, bx (γ32 0) (#[.slice none n cq31]) 24, bx (γ4 1) (#[.slice none 0 0]) 24, bx (γ4 0) (#[.slice p n cap]) 24, bx (γ2 0) (#[.int .i64 ((j + 1 : Nat))]) 3, bx (γ1 2) (#[.slice none 0 0]) 24, bx (γ1 1) (#[.int .i64 own]) 3, bx (γ1 0) (#[.slice p n cap]) 24]) (fun γ96 => ?_) (fun hm => ?_)
     rotate_left
     ·
      refine any_fork [4, 6, 7] (by kernel_rfl) (by simp) (each_cons _ rfl ?_ (each_cons _ rfl ?_ (each_cons _ rfl ?_ (each_nil))))
      ·
       refine qo0 1 [(4, .go (owns 0 0 1))] [1, 2, 35, 40] [(39, .slice none n cq31)] ?_
       refine od_ ?_
       refine any_fork [6, 7] (by kernel_rfl) (by simp) (each_cons _ rfl ?_ (each_cons _ rfl ?_ (each_nil)))
       ·
        refine qo0 1 [(6, .go (owns 3 0 1))] [1, 35, 39, 40] [(41, .int .i64 ((j + 1 : Nat)))] ?_
        refine od_ ?_
        refine a1 7 rfl ?_
        refine qo0 1 [(7, .go (owns 5 0 1))] [35, 39, 40, 41] [(42, .int .i64 own)] ?_
        refine od_ ?_
        refine tk (m := 5) [8] [] [35, 39, 40] [(43, .agg #[.int .i64 ((j + 1 : Nat)), .int .i64 own, .int .i64 0, .bool false, .bool false])] ([]) #[true, true, true, true, true, true, true, true, true, false, false, false, false, false] al0 ?_
        refine a1 9 rfl ?_
        refine mo0 1 [] [35, 39, 40] (fun γ101 => [(44, .slice (some ⟨γ101 0, 0, none⟩) 1 1)]) (fun γ101 L => bx (γ101 0) (#[.int .i64 ((j + 1 : Nat)), .int .i64 own, .int .i64 0, .bool false, .bool false]) 40 :: L) (fun γ101 => ?_)
        refine od_ ?_
        exact any_weak (hm fun i => [γ101 0].getD i 0) [35, 39, 40, 44] (by kernel_rfl) rfl rfl rfl
       ·
        refine qo0 1 [(7, .go (owns 5 0 1))] [2, 35, 39, 40] [(42, .int .i64 own)] ?_
        refine od_ ?_
        refine a1 6 rfl ?_
        refine qo0 1 [(6, .go (owns 3 0 1))] [35, 39, 40, 42] [(41, .int .i64 ((j + 1 : Nat)))] ?_
        refine od_ ?_
        refine tk (m := 5) [8] [] [35, 39, 40] [(43, .agg #[.int .i64 ((j + 1 : Nat)), .int .i64 own, .int .i64 0, .bool false, .bool false])] ([]) #[true, true, true, true, true, true, true, true, true, false, false, false, false, false] al0 ?_
        refine a1 9 rfl ?_
        refine mo0 1 [] [35, 39, 40] (fun γ105 => [(44, .slice (some ⟨γ105 0, 0, none⟩) 1 1)]) (fun γ105 L => bx (γ105 0) (#[.int .i64 ((j + 1 : Nat)), .int .i64 own, .int .i64 0, .bool false, .bool false]) 40 :: L) (fun γ105 => ?_)
        refine od_ ?_
        exact any_weak (hm fun i => [γ105 0].getD i 0) [35, 39, 40, 44] (by kernel_rfl) rfl rfl rfl
      ·
       refine qo0 1 [(6, .go (owns 3 0 1))] [1, 35, 38, 40] [(41, .int .i64 ((j + 1 : Nat)))] ?_
       refine od_ ?_
       refine any_fork [4, 7] (by kernel_rfl) (by simp) (each_cons _ rfl ?_ (each_cons _ rfl ?_ (each_nil)))
       ·
        refine qo0 1 [(4, .go (owns 0 0 1))] [1, 35, 40, 41] [(39, .slice none n cq31)] ?_
        refine od_ ?_
        refine a1 7 rfl ?_
        refine qo0 1 [(7, .go (owns 5 0 1))] [35, 39, 40, 41] [(42, .int .i64 own)] ?_
        refine od_ ?_
        refine tk (m := 5) [8] [] [35, 39, 40] [(43, .agg #[.int .i64 ((j + 1 : Nat)), .int .i64 own, .int .i64 0, .bool false, .bool false])] ([]) #[true, true, true, true, true, true, true, true, true, false, false, false, false, false] al0 ?_
        refine a1 9 rfl ?_
        refine mo0 1 [] [35, 39, 40] (fun γ110 => [(44, .slice (some ⟨γ110 0, 0, none⟩) 1 1)]) (fun γ110 L => bx (γ110 0) (#[.int .i64 ((j + 1 : Nat)), .int .i64 own, .int .i64 0, .bool false, .bool false]) 40 :: L) (fun γ110 => ?_)
        refine od_ ?_
        exact any_weak (hm fun i => [γ110 0].getD i 0) [35, 39, 40, 44] (by kernel_rfl) rfl rfl rfl
       ·
        refine qo0 1 [(7, .go (owns 5 0 1))] [35, 38, 40, 41] [(42, .int .i64 own)] ?_
        refine od_ ?_
        refine tk (m := 6) [8] [] [35, 38, 40] [(43, .agg #[.int .i64 ((j + 1 : Nat)), .int .i64 own, .int .i64 0, .bool false, .bool false])] ([]) #[true, true, true, true, false, true, true, true, true, false, false, false, false, false] al0 ?_
        refine any_fork [4, 9] (by kernel_rfl) (by simp) (each_cons _ rfl ?_ (each_cons _ rfl ?_ (each_nil)))
        ·
         refine qo0 1 [(4, .go (owns 0 0 1))] [35, 40, 43] [(39, .slice none n cq31)] ?_
         refine od_ ?_
         refine a1 9 rfl ?_
         refine mo0 1 [] [35, 39, 40] (fun γ114 => [(44, .slice (some ⟨γ114 0, 0, none⟩) 1 1)]) (fun γ114 L => bx (γ114 0) (#[.int .i64 ((j + 1 : Nat)), .int .i64 own, .int .i64 0, .bool false, .bool false]) 40 :: L) (fun γ114 => ?_)
         refine od_ ?_
         exact any_weak (hm fun i => [γ114 0].getD i 0) [35, 39, 40, 44] (by kernel_rfl) rfl rfl rfl
        ·
         refine mo0 1 [] [35, 38, 40] (fun γ115 => [(44, .slice (some ⟨γ115 0, 0, none⟩) 1 1)]) (fun γ115 L => bx (γ115 0) (#[.int .i64 ((j + 1 : Nat)), .int .i64 own, .int .i64 0, .bool false, .bool false]) 40 :: L) (fun γ115 => ?_)
         refine od_ ?_
         refine a1 4 rfl ?_
         refine qo0 1 [(4, .go (owns 1 0 1))] [35, 40, 44] [(39, .slice none n cq31)] ?_
         refine od_ ?_
         exact any_weak (hm fun i => [γ115 0].getD i 0) [35, 39, 40, 44] (by kernel_rfl) rfl rfl rfl
      ·
       refine qo0 1 [(7, .go (owns 5 0 1))] [2, 35, 38, 40] [(42, .int .i64 own)] ?_
       refine od_ ?_
       refine any_fork [4, 6] (by kernel_rfl) (by simp) (each_cons _ rfl ?_ (each_cons _ rfl ?_ (each_nil)))
       ·
        refine qo0 1 [(4, .go (owns 0 0 1))] [2, 35, 40, 42] [(39, .slice none n cq31)] ?_
        refine od_ ?_
        refine a1 6 rfl ?_
        refine qo0 1 [(6, .go (owns 3 0 1))] [35, 39, 40, 42] [(41, .int .i64 ((j + 1 : Nat)))] ?_
        refine od_ ?_
        refine tk (m := 5) [8] [] [35, 39, 40] [(43, .agg #[.int .i64 ((j + 1 : Nat)), .int .i64 own, .int .i64 0, .bool false, .bool false])] ([]) #[true, true, true, true, true, true, true, true, true, false, false, false, false, false] al0 ?_
        refine a1 9 rfl ?_
        refine mo0 1 [] [35, 39, 40] (fun γ121 => [(44, .slice (some ⟨γ121 0, 0, none⟩) 1 1)]) (fun γ121 L => bx (γ121 0) (#[.int .i64 ((j + 1 : Nat)), .int .i64 own, .int .i64 0, .bool false, .bool false]) 40 :: L) (fun γ121 => ?_)
        refine od_ ?_
        exact any_weak (hm fun i => [γ121 0].getD i 0) [35, 39, 40, 44] (by kernel_rfl) rfl rfl rfl
       ·
        refine qo0 1 [(6, .go (owns 3 0 1))] [35, 38, 40, 42] [(41, .int .i64 ((j + 1 : Nat)))] ?_
        refine od_ ?_
        refine tk (m := 6) [8] [] [35, 38, 40] [(43, .agg #[.int .i64 ((j + 1 : Nat)), .int .i64 own, .int .i64 0, .bool false, .bool false])] ([]) #[true, true, true, true, false, true, true, true, true, false, false, false, false, false] al0 ?_
        refine any_fork [4, 9] (by kernel_rfl) (by simp) (each_cons _ rfl ?_ (each_cons _ rfl ?_ (each_nil)))
        ·
         refine qo0 1 [(4, .go (owns 0 0 1))] [35, 40, 43] [(39, .slice none n cq31)] ?_
         refine od_ ?_
         refine a1 9 rfl ?_
         refine mo0 1 [] [35, 39, 40] (fun γ125 => [(44, .slice (some ⟨γ125 0, 0, none⟩) 1 1)]) (fun γ125 L => bx (γ125 0) (#[.int .i64 ((j + 1 : Nat)), .int .i64 own, .int .i64 0, .bool false, .bool false]) 40 :: L) (fun γ125 => ?_)
         refine od_ ?_
         exact any_weak (hm fun i => [γ125 0].getD i 0) [35, 39, 40, 44] (by kernel_rfl) rfl rfl rfl
        ·
         refine mo0 1 [] [35, 38, 40] (fun γ126 => [(44, .slice (some ⟨γ126 0, 0, none⟩) 1 1)]) (fun γ126 L => bx (γ126 0) (#[.int .i64 ((j + 1 : Nat)), .int .i64 own, .int .i64 0, .bool false, .bool false]) 40 :: L) (fun γ126 => ?_)
         refine od_ ?_
         refine a1 4 rfl ?_
         refine qo0 1 [(4, .go (owns 1 0 1))] [35, 40, 44] [(39, .slice none n cq31)] ?_
         refine od_ ?_
         exact any_weak (hm fun i => [γ126 0].getD i 0) [35, 39, 40, 44] (by kernel_rfl) rfl rfl rfl
     refine a1 10 rfl ?_
     refine cP (fun v L' => ∃ q capq Y, v = .slice q (n + 1) capq ∧ L' = [bx (γ32 0) (#[.slice none n cq31]) 24, bx (γ4 1) (#[.slice none 0 0]) 24, bx (γ4 0) (#[.slice p n cap]) 24, bx (γ2 0) (#[.int .i64 ((j + 1 : Nat))]) 3, bx (γ1 2) (#[.slice none 0 0]) 24, bx (γ1 1) (#[.int .i64 own]) 3, bx (γ1 0) (#[.slice p n cap]) 24] ++ (Y ++ []) ∧ SlO 40 Y q (n + 1) capq (l.take j ++ [⟨(j + 1 : Nat), own, 0, false, false⟩] ++ l.drop j)) Try.call56 (fun w hw => (insert_d _ ([bx (γ32 0) (#[.slice none n cq31]) 24, bx (γ4 1) (#[.slice none 0 0]) 24, bx (γ4 0) (#[.slice p n cap]) 24, bx (γ2 0) (#[.int .i64 ((j + 1 : Nat))]) 3, bx (γ1 2) (#[.slice none 0 0]) 24, bx (γ1 1) (#[.int .i64 own]) 3, bx (γ1 0) (#[.slice p n cap]) 24] ++ []) [] none n cq31 l j (γ96 0) (#[.int .i64 ((j + 1 : Nat)), .int .i64 own, .int .i64 0, .bool false, .bool false]) 1 ([⟨(j + 1 : Nat), own, 0, false, false⟩]) w (hw.pull (A := [bx (γ32 0) (#[.slice none n cq31]) 24, bx (γ4 1) (#[.slice none 0 0]) 24, bx (γ4 0) (#[.slice p n cap]) 24, bx (γ2 0) (#[.int .i64 ((j + 1 : Nat))]) 3, bx (γ1 2) (#[.slice none 0 0]) 24, bx (γ1 1) (#[.int .i64 own]) 3, bx (γ1 0) (#[.slice p n cap]) 24]) (Y := []) (R := [])) hO31 (by rfl) (by rfl) (by omega) (by omega) (by omega) (by omega)).mono fun e w' ⟨q, capq, Y', he, hO, hY⟩ => ⟨_, _, he, ⟨q, capq, Y', rfl, rfl, hO⟩, hY.push⟩) ?_
     rintro v128 L128 ⟨q128, cq128, Y128, rfl, rfl, hO128⟩
     refine od_ ?_
     refine tk (m := 1) [11, 12] [] [45] [(47, .pointer (some ⟨γ32 0, 0, none⟩))] ([]) #[true, true, true, true, true, true, true, true, true, true, true, true, true, false] al0 ?_
     refine a1 13 rfl ?_
     refine mo0 1 [(13, .go (owns 0 0 1))] [] (fun _ => []) (fun _ L => (L.set 0 (bx (γ32 0) (#[.slice q128 (n + 1) cq128]) 24))) (fun _ => ?_)
     refine od_ ?_
     refine any_nil (by kernel_rfl) ?_
     refine ds_ (sq_ (qa0 [] [] [(4, .int .i64 0)] (ds_ (bk ([]) (.int .i64 0) (qo0 1 [] [4, 7] [(8, .int .i64 0)] (on_ (ds_ (sq_ (qa0 [] [4, 7, 8] [(22, .bool false)] (ds_ (f_ (at_skip (ds_ (sq_ (ma0 [(0, .go (owns 0 0 1)), (1, .go (owns 1 0 1))] [4] (fun _ => [(5, .int .i64 0)]) (fun _ L => (L.set 1 (bx (γ4 1) (#[.slice q128 (n + 1) cq128]) 24))) (fun _ => ds_ (bk (owns 1 0 1) (.tuple #[.agg #[.slice q128 (n + 1) cq128], .int .i64 0]) (mo0 6 [(7, .go (owns 0 0 1))] [4, 7] (fun γ135 => [(8, .pointer (some ⟨γ135 0, 0, none⟩)), (9, .int .i64 0)]) (fun γ135 L => bx (γ135 0) (#[.slice q128 (n + 1) cq128]) 24 :: L) (fun γ135 => on_ (ds_ (sq_ ?_)))))))))))))))))))))
     refine at_any (by kernel_rfl) ?_
     refine tk (m := 5) [2] [] [4, 7, 8] [(18, .int .i64 0)] ([]) #[false, false, true, false, false, false] al0 ?_
     refine any_cut 0 #[true, true, true, true, true, true] ([(4, .pointer (some ⟨γ1 2, 0, none⟩)), (5, .int .i64 ((j + 1 : Nat))), (6, .int .i64 0)]) (bx (γ135 0) (#[.slice q128 (n + 1) cq128]) 24 :: bx (γ32 0) (#[.slice q128 (n + 1) cq128]) 24 :: bx (γ4 1) (#[.slice q128 (n + 1) cq128]) 24 :: bx (γ4 0) (#[.slice p n cap]) 24 :: bx (γ2 0) (#[.int .i64 ((j + 1 : Nat))]) 3 :: bx (γ1 2) (#[.slice q128 (n + 1) cq128]) 24 :: bx (γ1 1) (#[.int .i64 own]) 3 :: bx (γ1 0) (#[.slice p n cap]) 24 :: (Y128 ++ [])) ?_ (fun hm => ?_)
     rotate_left
     ·
      refine any_fork [0, 1] (by kernel_rfl) (by simp) (each_cons _ rfl ?_ (each_cons _ rfl ?_ (each_nil)))
      ·
       refine qo0 1 [(0, .go (owns 0 0 1))] [4, 7, 18] [(16, .agg #[.slice q128 (n + 1) cq128])] ?_
       refine od_ ?_
       refine any_fork [1, 3] (by kernel_rfl) (by simp) (each_cons _ rfl ?_ (each_cons _ rfl ?_ (each_nil)))
       ·
        refine qo0 1 [(1, .go (owns 4 0 1))] [4, 16, 18] [(17, .int .i64 ((j + 1 : Nat)))] ?_
        refine od_ ?_
        refine a1 3 rfl ?_
        refine mo0 1 [(3, .go (owns 5 0 1))] [4, 17, 18] (fun _ => []) (fun _ L => (L.set 5 (bx (γ1 2) (#[.slice q128 (n + 1) cq128]) 24))) (fun _ => ?_)
        refine od_ ?_
        refine tk (m := 0) [4, 5] [] [4] [(5, .int .i64 ((j + 1 : Nat))), (6, .int .i64 0)] ([]) #[true, true, true, true, true, true] al0 ?_
        exact any_weak hm [4, 5, 6] (by kernel_rfl) rfl rfl rfl
       ·
        refine mo0 1 [(3, .go (owns 5 0 1))] [4, 7, 18] (fun _ => []) (fun _ L => (L.set 5 (bx (γ1 2) (#[.slice q128 (n + 1) cq128]) 24))) (fun _ => ?_)
        refine od_ ?_
        refine a1 1 rfl ?_
        refine qo0 1 [(1, .go (owns 4 0 1))] [4, 18] [(17, .int .i64 ((j + 1 : Nat)))] ?_
        refine od_ ?_
        refine tk (m := 0) [4, 5] [] [4] [(5, .int .i64 ((j + 1 : Nat))), (6, .int .i64 0)] ([]) #[true, true, true, true, true, true] al0 ?_
        exact any_weak hm [4, 5, 6] (by kernel_rfl) rfl rfl rfl
      ·
       refine qo0 1 [(1, .go (owns 4 0 1))] [4, 8, 18] [(17, .int .i64 ((j + 1 : Nat)))] ?_
       refine od_ ?_
       refine a1 0 rfl ?_
       refine qo0 1 [(0, .go (owns 0 0 1))] [4, 17, 18] [(16, .agg #[.slice q128 (n + 1) cq128])] ?_
       refine od_ ?_
       refine a1 3 rfl ?_
       refine mo0 1 [(3, .go (owns 5 0 1))] [4, 17, 18] (fun _ => []) (fun _ L => (L.set 5 (bx (γ1 2) (#[.slice q128 (n + 1) cq128]) 24))) (fun _ => ?_)
       refine od_ ?_
       refine tk (m := 0) [4, 5] [] [4] [(5, .int .i64 ((j + 1 : Nat))), (6, .int .i64 0)] ([]) #[true, true, true, true, true, true] al0 ?_
       exact any_weak hm [4, 5, 6] (by kernel_rfl) rfl rfl rfl
     refine any_nil (by kernel_rfl) ?_
     refine ds_ (rt (owns 5 0 1) (.tuple #[.agg #[.slice q128 (n + 1) cq128], .int .i64 ((j + 1 : Nat)), .int .i64 0]) ?_)
     exact fun w' hw => by rw [openV_ok q6 q36 (open_end hI (by omega)) q64]; exact ⟨_, _, _, _, rfl, hO128, hw.below, ((hw.tailN 8).sub (List.sublist_append_left Y128 ([])))⟩
  ·
   refine mo0 3 [(5, .go (owns 0 0 1))] [1, 4] (fun γ153 => [(7, .pointer (some ⟨γ153 0, 0, none⟩))]) (fun γ153 L => bx (γ153 0) (#[.slice (some ⟨g31, 0, none⟩) n cq31]) 24 :: L) (fun γ153 => on_ (ds_ (sq_ (sq_ (ao_ (qo0 1 [] [4, 7] [(19, .func (.func 55) #[] #[.pointer (some ⟨γ1 1, 0, none⟩), .pointer (some ⟨γ2 0, 0, none⟩)])] (ops_inline (g := 55) (args := #[.pointer (some ⟨γ153 0, 0, none⟩), .pointer (some ⟨γ1 1, 0, none⟩), .pointer (some ⟨γ2 0, 0, none⟩)]) (by kernel_rfl) (by kernel_rfl) (by kernel_rfl) (fun args w => Try.call55 args w) Try.func55 rfl Try.ntmps55 rfl (sq_ (qa0 [] [0, 1, 2] [] (ds_ (sq_ (sq_ (ao_ (qo0 1 [(0, .go (owns 5 0 1))] [0, 1, 2] [(6, .int .i64 own)] ?_))))))))))))))
   rcases q157 : vcpuB own with _ | _
   ·
    refine cD (.bool false) Try.call31 (fun w hw => by have := vcpu_d own w; rw [q157] at this; exact this) (qo0 1 [] [0, 1, 2] [(8, .bool true)] (on_ (ds_ (t_ (sq_ (qa0 [] [] [(4, .int .i64 2)] (ds_ (bk ([]) (.int .i64 2) (qo0 1 [] [4, 7] [(8, .int .i64 2)] (on_ (ds_ (sq_ (qa0 [] [4, 7, 8] [(22, .bool true)] (ds_ (t_ (sq_ (qa0 [(2, .go (owns 1 0 1))] [4] [(5, .int .i64 2)] (ds_ (bk (owns 1 0 1) (.tuple #[.agg #[.slice none 0 0], .int .i64 2]) (mo0 6 [(7, .go (owns 0 0 1))] [4, 7] (fun γ163 => [(8, .pointer (some ⟨γ163 0, 0, none⟩)), (9, .int .i64 2)]) (fun γ163 L => bx (γ163 0) (#[.slice none 0 0]) 24 :: L) (fun γ163 => on_ (ds_ (sq_ ?_)))))))))))))))))))))))
    refine at_any (by kernel_rfl) ?_
    refine tk (m := 5) [2] [] [4, 7, 8] [(18, .int .i64 2)] ([]) #[false, false, true, false, false, false] al0 ?_
    refine any_cut 0 #[true, true, true, true, true, true] ([(4, .pointer (some ⟨γ1 2, 0, none⟩)), (5, .int .i64 0), (6, .int .i64 2)]) ([bx (γ163 0) (#[.slice none 0 0]) 24, bx (γ153 0) (#[.slice (some ⟨g31, 0, none⟩) n cq31]) 24, bx (γ4 1) (#[.slice none 0 0]) 24, bx (γ4 0) (#[.slice p n cap]) 24, bx (γ2 0) (#[.int .i64 0]) 3, bx (γ1 2) (#[.slice none 0 0]) 24, bx (γ1 1) (#[.int .i64 own]) 3, bx (γ1 0) (#[.slice p n cap]) 24, bx g31 cs31 40]) ?_ (fun hm => ?_)
    rotate_left
    ·
     refine any_fork [0, 1] (by kernel_rfl) (by simp) (each_cons _ rfl ?_ (each_cons _ rfl ?_ (each_nil)))
     ·
      refine qo0 1 [(0, .go (owns 0 0 1))] [4, 7, 18] [(16, .agg #[.slice none 0 0])] ?_
      refine od_ ?_
      refine any_fork [1, 3] (by kernel_rfl) (by simp) (each_cons _ rfl ?_ (each_cons _ rfl ?_ (each_nil)))
      ·
       refine qo0 1 [(1, .go (owns 4 0 1))] [4, 16, 18] [(17, .int .i64 0)] ?_
       refine od_ ?_
       refine a1 3 rfl ?_
       refine qo0 1 [(3, .go (owns 5 0 1))] [4, 17, 18] [] ?_
       refine od_ ?_
       refine tk (m := 0) [4, 5] [] [4] [(5, .int .i64 0), (6, .int .i64 2)] ([]) #[true, true, true, true, true, true] al0 ?_
       exact any_weak hm [4, 5, 6] (by kernel_rfl) rfl rfl rfl
      ·
       refine qo0 1 [(3, .go (owns 5 0 1))] [4, 7, 18] [] ?_
       refine od_ ?_
       refine a1 1 rfl ?_
       refine qo0 1 [(1, .go (owns 4 0 1))] [4, 18] [(17, .int .i64 0)] ?_
       refine od_ ?_
       refine tk (m := 0) [4, 5] [] [4] [(5, .int .i64 0), (6, .int .i64 2)] ([]) #[true, true, true, true, true, true] al0 ?_
       exact any_weak hm [4, 5, 6] (by kernel_rfl) rfl rfl rfl
     ·
      refine qo0 1 [(1, .go (owns 4 0 1))] [4, 8, 18] [(17, .int .i64 0)] ?_
      refine od_ ?_
      refine a1 0 rfl ?_
      refine qo0 1 [(0, .go (owns 0 0 1))] [4, 17, 18] [(16, .agg #[.slice none 0 0])] ?_
      refine od_ ?_
      refine a1 3 rfl ?_
      refine qo0 1 [(3, .go (owns 5 0 1))] [4, 17, 18] [] ?_
      refine od_ ?_
      refine tk (m := 0) [4, 5] [] [4] [(5, .int .i64 0), (6, .int .i64 2)] ([]) #[true, true, true, true, true, true] al0 ?_
      exact any_weak hm [4, 5, 6] (by kernel_rfl) rfl rfl rfl
    refine any_nil (by kernel_rfl) ?_
    refine ds_ (rt (owns 5 0 1) (.tuple #[.agg #[.slice none 0 0], .int .i64 0, .int .i64 2]) ?_)
    exact fun w' hw => by rw [openV_arg q6 q157]; exact ⟨none, 0, 0, [], rfl, SlO.nil, hw.below, hw.sub (List.nil_sublist _)⟩
   ·
    refine cD (.bool true) Try.call31 (fun w hw => by have := vcpu_d own w; rw [q157] at this; exact this) (qo0 1 [] [0, 1, 2] [(8, .bool false)] (on_ (ds_ (f_ (at_skip (ds_ (sq_ (qa0 [] [0, 1, 2] [(5, .int .i64 0)] (ds_ (sq_ (at_block (at_loop (α := Nat) [0, 1, 2, 5] (fun j => [(0, .pointer (some ⟨γ153 0, 0, none⟩)), (1, .pointer (some ⟨γ1 1, 0, none⟩)), (2, .pointer (some ⟨γ2 0, 0, none⟩)), (5, .int .i64 ((j : Nat)))]) (fun j => [bx (γ153 0) (#[.slice (some ⟨g31, 0, none⟩) n cq31]) 24, bx (γ4 1) (#[.slice none 0 0]) 24, bx (γ4 0) (#[.slice p n cap]) 24, bx (γ2 0) (#[.int .i64 0]) 3, bx (γ1 2) (#[.slice none 0 0]) 24, bx (γ1 1) (#[.int .i64 own]) 3, bx (γ1 0) (#[.slice p n cap]) 24, bx g31 cs31 40]) (fun j => j ≤ n ∧ openI (l.drop j) j = openI l 0) (fun j => n - j) 0 (by kernel_rfl) rfl ⟨Nat.zero_le _, by rw [List.drop_zero]⟩ ?_))))))))))))
    rintro j
    rintro ⟨hj, hI⟩
    refine sq_ (sq_ ?_)
    by_cases q184 : ((j : Nat) : Int) < ((n : Nat) : Int)
    ·
     obtain ⟨x186, hx186⟩ := get_some (l := l) (m := j) (by omega)
     by_cases q188 : (x186.num : Int) = ((j + 1 : Nat) : Int)
     ·
      refine qa [(4, .go (owns 0 0 1)), (6, .yes), (11, .go (owns 0 0 1)), (13, .at g31 0 j), (15, .go (ownps 7 (0 + j * 5) [.int .i64 x186.num])), (17, .fit), (18, .yes)] [0, 1, 2, 5] [(28, .bool true)] ([((j : Nat) : Int) < ((n : Nat) : Int)] ++ ([(some ⟨g31, 0, none⟩ : Option Addr) = some ⟨g31, 0, none⟩, ((j : Nat)) = ((j : Nat) : Int), j < n] ++ (acellsP cs31 (0 + j * 5) [.int .i64 x186.num] ++ ([Fit .i64 ((j + 1 : Nat))] ++ ([(x186.num : Int) = ((j + 1 : Nat) : Int)]))))) (alA (al1 q184) (alA (al2 rfl (al2 rfl (al1 (by omega)))) (alA (rda_pre ((hOw31.rdx hnq31 hx186)) _ rfl) (alA (al1 (fit64 (by omega) (by omega))) (al1 q188))))) (ds_ (t_ (at_skip (ds_ (at_block (qa [(1, .fit)] [0, 1, 2] [(5, .int .i64 ((j + 1 : Nat)))] ([Fit .i64 ((j + 1 : Nat))]) (al1 (fit64 (by omega) (by omega))) (done_block ?_)))))))
      exact dr [0, 1, 2, 5] (j + 1) ⟨by omega, open_on hI hx186 (by assumption)⟩
     ·
      refine qa [(4, .go (owns 0 0 1)), (6, .yes), (11, .go (owns 0 0 1)), (13, .at g31 0 j), (15, .go (ownps 7 (0 + j * 5) [.int .i64 x186.num])), (17, .fit), (18, .no)] [0, 1, 2, 5] [(28, .bool false)] ([((j : Nat) : Int) < ((n : Nat) : Int)] ++ ([(some ⟨g31, 0, none⟩ : Option Addr) = some ⟨g31, 0, none⟩, ((j : Nat)) = ((j : Nat) : Int), j < n] ++ (acellsP cs31 (0 + j * 5) [.int .i64 x186.num] ++ ([Fit .i64 ((j + 1 : Nat))] ++ ([¬ ((x186.num : Int) = ((j + 1 : Nat) : Int))]))))) (alA (al1 q184) (alA (al2 rfl (al2 rfl (al1 (by omega)))) (alA (rda_pre ((hOw31.rdx hnq31 hx186)) _ rfl) (alA (al1 (fit64 (by omega) (by omega))) (al1 q188))))) (ds_ (f_ (at_leave _ rfl (ds_ (sq_ (sq_ ?_))))))
      by_cases q193 : ((j : Nat) : Int) = (32 : Int)
      ·
       refine qa [(1, .yes)] [0, 1, 2, 5] [(32, .bool true)] ([((j : Nat) : Int) = (32 : Int)]) (al1 q193) (ds_ (t_ (sq_ (qa0 [] [] [(4, .int .i64 6)] (ds_ (bk ([]) (.int .i64 6) (qo0 1 [] [4, 7] [(8, .int .i64 6)] (on_ (ds_ (sq_ (qa0 [] [4, 7, 8] [(22, .bool true)] (ds_ (t_ (sq_ (qa0 [(2, .go (owns 1 0 1))] [4] [(5, .int .i64 6)] (ds_ (bk (owns 1 0 1) (.tuple #[.agg #[.slice none 0 0], .int .i64 6]) (mo0 6 [(7, .go (owns 0 0 1))] [4, 7] (fun γ199 => [(8, .pointer (some ⟨γ199 0, 0, none⟩)), (9, .int .i64 6)]) (fun γ199 L => bx (γ199 0) (#[.slice none 0 0]) 24 :: L) (fun γ199 => on_ (ds_ (sq_ ?_)))))))))))))))))))))
       refine at_any (by kernel_rfl) ?_
       refine tk (m := 5) [2] [] [4, 7, 8] [(18, .int .i64 6)] ([]) #[false, false, true, false, false, false] al0 ?_
       refine any_cut 0 #[true, true, true, true, true, true] ([(4, .pointer (some ⟨γ1 2, 0, none⟩)), (5, .int .i64 0), (6, .int .i64 6)]) ([bx (γ199 0) (#[.slice none 0 0]) 24, bx (γ153 0) (#[.slice (some ⟨g31, 0, none⟩) n cq31]) 24, bx (γ4 1) (#[.slice none 0 0]) 24, bx (γ4 0) (#[.slice p n cap]) 24, bx (γ2 0) (#[.int .i64 0]) 3, bx (γ1 2) (#[.slice none 0 0]) 24, bx (γ1 1) (#[.int .i64 own]) 3, bx (γ1 0) (#[.slice p n cap]) 24, bx g31 cs31 40]) ?_ (fun hm => ?_)
       rotate_left
       ·
        refine any_fork [0, 1] (by kernel_rfl) (by simp) (each_cons _ rfl ?_ (each_cons _ rfl ?_ (each_nil)))
        ·
         refine qo0 1 [(0, .go (owns 0 0 1))] [4, 7, 18] [(16, .agg #[.slice none 0 0])] ?_
         refine od_ ?_
         refine any_fork [1, 3] (by kernel_rfl) (by simp) (each_cons _ rfl ?_ (each_cons _ rfl ?_ (each_nil)))
         ·
          refine qo0 1 [(1, .go (owns 4 0 1))] [4, 16, 18] [(17, .int .i64 0)] ?_
          refine od_ ?_
          refine a1 3 rfl ?_
          refine qo0 1 [(3, .go (owns 5 0 1))] [4, 17, 18] [] ?_
          refine od_ ?_
          refine tk (m := 0) [4, 5] [] [4] [(5, .int .i64 0), (6, .int .i64 6)] ([]) #[true, true, true, true, true, true] al0 ?_
          exact any_weak hm [4, 5, 6] (by kernel_rfl) rfl rfl rfl
         ·
          refine qo0 1 [(3, .go (owns 5 0 1))] [4, 7, 18] [] ?_
          refine od_ ?_
          refine a1 1 rfl ?_
          refine qo0 1 [(1, .go (owns 4 0 1))] [4, 18] [(17, .int .i64 0)] ?_
          refine od_ ?_
          refine tk (m := 0) [4, 5] [] [4] [(5, .int .i64 0), (6, .int .i64 6)] ([]) #[true, true, true, true, true, true] al0 ?_
          exact any_weak hm [4, 5, 6] (by kernel_rfl) rfl rfl rfl
        ·
         refine qo0 1 [(1, .go (owns 4 0 1))] [4, 8, 18] [(17, .int .i64 0)] ?_
         refine od_ ?_
         refine a1 0 rfl ?_
         refine qo0 1 [(0, .go (owns 0 0 1))] [4, 17, 18] [(16, .agg #[.slice none 0 0])] ?_
         refine od_ ?_
         refine a1 3 rfl ?_
         refine qo0 1 [(3, .go (owns 5 0 1))] [4, 17, 18] [] ?_
         refine od_ ?_
         refine tk (m := 0) [4, 5] [] [4] [(5, .int .i64 0), (6, .int .i64 6)] ([]) #[true, true, true, true, true, true] al0 ?_
         exact any_weak hm [4, 5, 6] (by kernel_rfl) rfl rfl rfl
       refine any_nil (by kernel_rfl) ?_
       refine ds_ (rt (owns 5 0 1) (.tuple #[.agg #[.slice none 0 0], .int .i64 0, .int .i64 6]) ?_)
       exact fun w' hw => by rw [openV_full q6 q157 (open_at hI hx186 (by assumption)) q193]; exact ⟨none, 0, 0, [], rfl, SlO.nil, hw.below, hw.sub (List.nil_sublist _)⟩
      ·
       refine qa [(1, .no)] [0, 1, 2, 5] [(32, .bool false)] ([¬ (((j : Nat) : Int) = (32 : Int))]) (al1 q193) (ds_ (f_ (at_skip (ds_ (sq_ (ma [(1, .fit), (2, .go (owns 3 0 1))] [0, 1, 2, 5] (fun _ => []) (fun _ L => (L.set 3 (bx (γ2 0) (#[.int .i64 ((j + 1 : Nat))]) 3))) (fun _ => [Fit .i64 ((j + 1 : Nat))]) (fun _ => (al1 (fit64 (by omega) (by omega)))) (fun _ => ds_ (sq_ ?_))))))))
       refine at_any (by kernel_rfl) ?_
       refine tk (m := 9) [0, 1, 2, 3, 5] [] [1, 2] [(35, .pointer (some ⟨γ153 0, 0, none⟩)), (38, .pointer (some ⟨γ153 0, 0, none⟩)), (40, .int .i64 ((j : Nat)))] ([]) #[true, true, true, true, false, true, false, false, false, false, false, false, false, false] al0 ?_
       refine any_cutG 4 #[true, true, true, true, true, true, true, true, true, true, false, false, false, false] (fun γ225 => [(35, .pointer (some ⟨γ153 0, 0, none⟩)), (39, .slice (some ⟨g31, 0, none⟩) n cq31), (40, .int .i64 ((j : Nat))), (44, .slice (some ⟨γ225 0, 0, none⟩) 1 1)]) (fun γ225 => [bx (γ225 0) (#[.int .i64 ((j + 1 : Nat)), .int .i64 own, .int .i64 0, .bool false, .bool false]) 40, bx (γ153 0) (#[.slice (some ⟨g31, 0, none⟩) n cq31]) 24, bx (γ4 1) (#[.slice none 0 0]) 24, bx (γ4 0) (#[.slice p n cap]) 24, bx (γ2 0) (#[.int .i64 ((j + 1 : Nat))]) 3, bx (γ1 2) (#[.slice none 0 0]) 24, bx (γ1 1) (#[.int .i64 own]) 3, bx (γ1 0) (#[.slice p n cap]) 24, bx g31 cs31 40]) (fun γ225 => ?_) (fun hm => ?_)
       rotate_left
       ·
        refine any_fork [4, 6, 7] (by kernel_rfl) (by simp) (each_cons _ rfl ?_ (each_cons _ rfl ?_ (each_cons _ rfl ?_ (each_nil))))
        ·
         refine qo0 1 [(4, .go (owns 0 0 1))] [1, 2, 35, 40] [(39, .slice (some ⟨g31, 0, none⟩) n cq31)] ?_
         refine od_ ?_
         refine any_fork [6, 7] (by kernel_rfl) (by simp) (each_cons _ rfl ?_ (each_cons _ rfl ?_ (each_nil)))
         ·
          refine qo0 1 [(6, .go (owns 3 0 1))] [1, 35, 39, 40] [(41, .int .i64 ((j + 1 : Nat)))] ?_
          refine od_ ?_
          refine a1 7 rfl ?_
          refine qo0 1 [(7, .go (owns 5 0 1))] [35, 39, 40, 41] [(42, .int .i64 own)] ?_
          refine od_ ?_
          refine tk (m := 5) [8] [] [35, 39, 40] [(43, .agg #[.int .i64 ((j + 1 : Nat)), .int .i64 own, .int .i64 0, .bool false, .bool false])] ([]) #[true, true, true, true, true, true, true, true, true, false, false, false, false, false] al0 ?_
          refine a1 9 rfl ?_
          refine mo0 1 [] [35, 39, 40] (fun γ230 => [(44, .slice (some ⟨γ230 0, 0, none⟩) 1 1)]) (fun γ230 L => bx (γ230 0) (#[.int .i64 ((j + 1 : Nat)), .int .i64 own, .int .i64 0, .bool false, .bool false]) 40 :: L) (fun γ230 => ?_)
          refine od_ ?_
          exact any_weak (hm fun i => [γ230 0].getD i 0) [35, 39, 40, 44] (by kernel_rfl) rfl rfl rfl
         ·
          refine qo0 1 [(7, .go (owns 5 0 1))] [2, 35, 39, 40] [(42, .int .i64 own)] ?_
          refine od_ ?_
          refine a1 6 rfl ?_
          refine qo0 1 [(6, .go (owns 3 0 1))] [35, 39, 40, 42] [(41, .int .i64 ((j + 1 : Nat)))] ?_
          refine od_ ?_
          refine tk (m := 5) [8] [] [35, 39, 40] [(43, .agg #[.int .i64 ((j + 1 : Nat)), .int .i64 own, .int .i64 0, .bool false, .bool false])] ([]) #[true, true, true, true, true, true, true, true, true, false, false, false, false, false] al0 ?_
          refine a1 9 rfl ?_
          refine mo0 1 [] [35, 39, 40] (fun γ234 => [(44, .slice (some ⟨γ234 0, 0, none⟩) 1 1)]) (fun γ234 L => bx (γ234 0) (#[.int .i64 ((j + 1 : Nat)), .int .i64 own, .int .i64 0, .bool false, .bool false]) 40 :: L) (fun γ234 => ?_)
          refine od_ ?_
          exact any_weak (hm fun i => [γ234 0].getD i 0) [35, 39, 40, 44] (by kernel_rfl) rfl rfl rfl
        ·
         refine qo0 1 [(6, .go (owns 3 0 1))] [1, 35, 38, 40] [(41, .int .i64 ((j + 1 : Nat)))] ?_
         refine od_ ?_
         refine any_fork [4, 7] (by kernel_rfl) (by simp) (each_cons _ rfl ?_ (each_cons _ rfl ?_ (each_nil)))
         ·
          refine qo0 1 [(4, .go (owns 0 0 1))] [1, 35, 40, 41] [(39, .slice (some ⟨g31, 0, none⟩) n cq31)] ?_
          refine od_ ?_
          refine a1 7 rfl ?_
          refine qo0 1 [(7, .go (owns 5 0 1))] [35, 39, 40, 41] [(42, .int .i64 own)] ?_
          refine od_ ?_
          refine tk (m := 5) [8] [] [35, 39, 40] [(43, .agg #[.int .i64 ((j + 1 : Nat)), .int .i64 own, .int .i64 0, .bool false, .bool false])] ([]) #[true, true, true, true, true, true, true, true, true, false, false, false, false, false] al0 ?_
          refine a1 9 rfl ?_
          refine mo0 1 [] [35, 39, 40] (fun γ239 => [(44, .slice (some ⟨γ239 0, 0, none⟩) 1 1)]) (fun γ239 L => bx (γ239 0) (#[.int .i64 ((j + 1 : Nat)), .int .i64 own, .int .i64 0, .bool false, .bool false]) 40 :: L) (fun γ239 => ?_)
          refine od_ ?_
          exact any_weak (hm fun i => [γ239 0].getD i 0) [35, 39, 40, 44] (by kernel_rfl) rfl rfl rfl
         ·
          refine qo0 1 [(7, .go (owns 5 0 1))] [35, 38, 40, 41] [(42, .int .i64 own)] ?_
          refine od_ ?_
          refine tk (m := 6) [8] [] [35, 38, 40] [(43, .agg #[.int .i64 ((j + 1 : Nat)), .int .i64 own, .int .i64 0, .bool false, .bool false])] ([]) #[true, true, true, true, false, true, true, true, true, false, false, false, false, false] al0 ?_
          refine any_fork [4, 9] (by kernel_rfl) (by simp) (each_cons _ rfl ?_ (each_cons _ rfl ?_ (each_nil)))
          ·
           refine qo0 1 [(4, .go (owns 0 0 1))] [35, 40, 43] [(39, .slice (some ⟨g31, 0, none⟩) n cq31)] ?_
           refine od_ ?_
           refine a1 9 rfl ?_
           refine mo0 1 [] [35, 39, 40] (fun γ243 => [(44, .slice (some ⟨γ243 0, 0, none⟩) 1 1)]) (fun γ243 L => bx (γ243 0) (#[.int .i64 ((j + 1 : Nat)), .int .i64 own, .int .i64 0, .bool false, .bool false]) 40 :: L) (fun γ243 => ?_)
           refine od_ ?_
           exact any_weak (hm fun i => [γ243 0].getD i 0) [35, 39, 40, 44] (by kernel_rfl) rfl rfl rfl
          ·
           refine mo0 1 [] [35, 38, 40] (fun γ244 => [(44, .slice (some ⟨γ244 0, 0, none⟩) 1 1)]) (fun γ244 L => bx (γ244 0) (#[.int .i64 ((j + 1 : Nat)), .int .i64 own, .int .i64 0, .bool false, .bool false]) 40 :: L) (fun γ244 => ?_)
           refine od_ ?_
           refine a1 4 rfl ?_
           refine qo0 1 [(4, .go (owns 1 0 1))] [35, 40, 44] [(39, .slice (some ⟨g31, 0, none⟩) n cq31)] ?_
           refine od_ ?_
           exact any_weak (hm fun i => [γ244 0].getD i 0) [35, 39, 40, 44] (by kernel_rfl) rfl rfl rfl
        ·
         refine qo0 1 [(7, .go (owns 5 0 1))] [2, 35, 38, 40] [(42, .int .i64 own)] ?_
         refine od_ ?_
         refine any_fork [4, 6] (by kernel_rfl) (by simp) (each_cons _ rfl ?_ (each_cons _ rfl ?_ (each_nil)))
         ·
          refine qo0 1 [(4, .go (owns 0 0 1))] [2, 35, 40, 42] [(39, .slice (some ⟨g31, 0, none⟩) n cq31)] ?_
          refine od_ ?_
          refine a1 6 rfl ?_
          refine qo0 1 [(6, .go (owns 3 0 1))] [35, 39, 40, 42] [(41, .int .i64 ((j + 1 : Nat)))] ?_
          refine od_ ?_
          refine tk (m := 5) [8] [] [35, 39, 40] [(43, .agg #[.int .i64 ((j + 1 : Nat)), .int .i64 own, .int .i64 0, .bool false, .bool false])] ([]) #[true, true, true, true, true, true, true, true, true, false, false, false, false, false] al0 ?_
          refine a1 9 rfl ?_
          refine mo0 1 [] [35, 39, 40] (fun γ250 => [(44, .slice (some ⟨γ250 0, 0, none⟩) 1 1)]) (fun γ250 L => bx (γ250 0) (#[.int .i64 ((j + 1 : Nat)), .int .i64 own, .int .i64 0, .bool false, .bool false]) 40 :: L) (fun γ250 => ?_)
          refine od_ ?_
          exact any_weak (hm fun i => [γ250 0].getD i 0) [35, 39, 40, 44] (by kernel_rfl) rfl rfl rfl
         ·
          refine qo0 1 [(6, .go (owns 3 0 1))] [35, 38, 40, 42] [(41, .int .i64 ((j + 1 : Nat)))] ?_
          refine od_ ?_
          refine tk (m := 6) [8] [] [35, 38, 40] [(43, .agg #[.int .i64 ((j + 1 : Nat)), .int .i64 own, .int .i64 0, .bool false, .bool false])] ([]) #[true, true, true, true, false, true, true, true, true, false, false, false, false, false] al0 ?_
          refine any_fork [4, 9] (by kernel_rfl) (by simp) (each_cons _ rfl ?_ (each_cons _ rfl ?_ (each_nil)))
          ·
           refine qo0 1 [(4, .go (owns 0 0 1))] [35, 40, 43] [(39, .slice (some ⟨g31, 0, none⟩) n cq31)] ?_
           refine od_ ?_
           refine a1 9 rfl ?_
           refine mo0 1 [] [35, 39, 40] (fun γ254 => [(44, .slice (some ⟨γ254 0, 0, none⟩) 1 1)]) (fun γ254 L => bx (γ254 0) (#[.int .i64 ((j + 1 : Nat)), .int .i64 own, .int .i64 0, .bool false, .bool false]) 40 :: L) (fun γ254 => ?_)
           refine od_ ?_
           exact any_weak (hm fun i => [γ254 0].getD i 0) [35, 39, 40, 44] (by kernel_rfl) rfl rfl rfl
          ·
           refine mo0 1 [] [35, 38, 40] (fun γ255 => [(44, .slice (some ⟨γ255 0, 0, none⟩) 1 1)]) (fun γ255 L => bx (γ255 0) (#[.int .i64 ((j + 1 : Nat)), .int .i64 own, .int .i64 0, .bool false, .bool false]) 40 :: L) (fun γ255 => ?_)
           refine od_ ?_
           refine a1 4 rfl ?_
           refine qo0 1 [(4, .go (owns 1 0 1))] [35, 40, 44] [(39, .slice (some ⟨g31, 0, none⟩) n cq31)] ?_
           refine od_ ?_
           exact any_weak (hm fun i => [γ255 0].getD i 0) [35, 39, 40, 44] (by kernel_rfl) rfl rfl rfl
       refine a1 10 rfl ?_
       refine cP (fun v L' => ∃ q capq Y, v = .slice q (n + 1) capq ∧ L' = [bx (γ153 0) (#[.slice (some ⟨g31, 0, none⟩) n cq31]) 24, bx (γ4 1) (#[.slice none 0 0]) 24, bx (γ4 0) (#[.slice p n cap]) 24, bx (γ2 0) (#[.int .i64 ((j + 1 : Nat))]) 3, bx (γ1 2) (#[.slice none 0 0]) 24, bx (γ1 1) (#[.int .i64 own]) 3, bx (γ1 0) (#[.slice p n cap]) 24] ++ (Y ++ []) ∧ SlO 40 Y q (n + 1) capq (l.take j ++ [⟨(j + 1 : Nat), own, 0, false, false⟩] ++ l.drop j)) Try.call56 (fun w hw => (insert_d _ ([bx (γ153 0) (#[.slice (some ⟨g31, 0, none⟩) n cq31]) 24, bx (γ4 1) (#[.slice none 0 0]) 24, bx (γ4 0) (#[.slice p n cap]) 24, bx (γ2 0) (#[.int .i64 ((j + 1 : Nat))]) 3, bx (γ1 2) (#[.slice none 0 0]) 24, bx (γ1 1) (#[.int .i64 own]) 3, bx (γ1 0) (#[.slice p n cap]) 24] ++ []) [bx g31 cs31 40] (some ⟨g31, 0, none⟩) n cq31 l j (γ225 0) (#[.int .i64 ((j + 1 : Nat)), .int .i64 own, .int .i64 0, .bool false, .bool false]) 1 ([⟨(j + 1 : Nat), own, 0, false, false⟩]) w (hw.pull (A := [bx (γ153 0) (#[.slice (some ⟨g31, 0, none⟩) n cq31]) 24, bx (γ4 1) (#[.slice none 0 0]) 24, bx (γ4 0) (#[.slice p n cap]) 24, bx (γ2 0) (#[.int .i64 ((j + 1 : Nat))]) 3, bx (γ1 2) (#[.slice none 0 0]) 24, bx (γ1 1) (#[.int .i64 own]) 3, bx (γ1 0) (#[.slice p n cap]) 24]) (Y := [bx g31 cs31 40]) (R := [])) hO31 (by rfl) (by rfl) (by omega) (by omega) (by omega) (by omega)).mono fun e w' ⟨q, capq, Y', he, hO, hY⟩ => ⟨_, _, he, ⟨q, capq, Y', rfl, rfl, hO⟩, hY.push⟩) ?_
       rintro v257 L257 ⟨q257, cq257, Y257, rfl, rfl, hO257⟩
       refine od_ ?_
       refine tk (m := 1) [11, 12] [] [45] [(47, .pointer (some ⟨γ153 0, 0, none⟩))] ([]) #[true, true, true, true, true, true, true, true, true, true, true, true, true, false] al0 ?_
       refine a1 13 rfl ?_
       refine mo0 1 [(13, .go (owns 0 0 1))] [] (fun _ => []) (fun _ L => (L.set 0 (bx (γ153 0) (#[.slice q257 (n + 1) cq257]) 24))) (fun _ => ?_)
       refine od_ ?_
       refine any_nil (by kernel_rfl) ?_
       refine ds_ (sq_ (qa0 [] [] [(4, .int .i64 0)] (ds_ (bk ([]) (.int .i64 0) (qo0 1 [] [4, 7] [(8, .int .i64 0)] (on_ (ds_ (sq_ (qa0 [] [4, 7, 8] [(22, .bool false)] (ds_ (f_ (at_skip (ds_ (sq_ (ma0 [(0, .go (owns 0 0 1)), (1, .go (owns 1 0 1))] [4] (fun _ => [(5, .int .i64 0)]) (fun _ L => (L.set 1 (bx (γ4 1) (#[.slice q257 (n + 1) cq257]) 24))) (fun _ => ds_ (bk (owns 1 0 1) (.tuple #[.agg #[.slice q257 (n + 1) cq257], .int .i64 0]) (mo0 6 [(7, .go (owns 0 0 1))] [4, 7] (fun γ264 => [(8, .pointer (some ⟨γ264 0, 0, none⟩)), (9, .int .i64 0)]) (fun γ264 L => bx (γ264 0) (#[.slice q257 (n + 1) cq257]) 24 :: L) (fun γ264 => on_ (ds_ (sq_ ?_)))))))))))))))))))))
       refine at_any (by kernel_rfl) ?_
       refine tk (m := 5) [2] [] [4, 7, 8] [(18, .int .i64 0)] ([]) #[false, false, true, false, false, false] al0 ?_
       refine any_cut 0 #[true, true, true, true, true, true] ([(4, .pointer (some ⟨γ1 2, 0, none⟩)), (5, .int .i64 ((j + 1 : Nat))), (6, .int .i64 0)]) (bx (γ264 0) (#[.slice q257 (n + 1) cq257]) 24 :: bx (γ153 0) (#[.slice q257 (n + 1) cq257]) 24 :: bx (γ4 1) (#[.slice q257 (n + 1) cq257]) 24 :: bx (γ4 0) (#[.slice p n cap]) 24 :: bx (γ2 0) (#[.int .i64 ((j + 1 : Nat))]) 3 :: bx (γ1 2) (#[.slice q257 (n + 1) cq257]) 24 :: bx (γ1 1) (#[.int .i64 own]) 3 :: bx (γ1 0) (#[.slice p n cap]) 24 :: (Y257 ++ [])) ?_ (fun hm => ?_)
       rotate_left
       ·
        refine any_fork [0, 1] (by kernel_rfl) (by simp) (each_cons _ rfl ?_ (each_cons _ rfl ?_ (each_nil)))
        ·
         refine qo0 1 [(0, .go (owns 0 0 1))] [4, 7, 18] [(16, .agg #[.slice q257 (n + 1) cq257])] ?_
         refine od_ ?_
         refine any_fork [1, 3] (by kernel_rfl) (by simp) (each_cons _ rfl ?_ (each_cons _ rfl ?_ (each_nil)))
         ·
          refine qo0 1 [(1, .go (owns 4 0 1))] [4, 16, 18] [(17, .int .i64 ((j + 1 : Nat)))] ?_
          refine od_ ?_
          refine a1 3 rfl ?_
          refine mo0 1 [(3, .go (owns 5 0 1))] [4, 17, 18] (fun _ => []) (fun _ L => (L.set 5 (bx (γ1 2) (#[.slice q257 (n + 1) cq257]) 24))) (fun _ => ?_)
          refine od_ ?_
          refine tk (m := 0) [4, 5] [] [4] [(5, .int .i64 ((j + 1 : Nat))), (6, .int .i64 0)] ([]) #[true, true, true, true, true, true] al0 ?_
          exact any_weak hm [4, 5, 6] (by kernel_rfl) rfl rfl rfl
         ·
          refine mo0 1 [(3, .go (owns 5 0 1))] [4, 7, 18] (fun _ => []) (fun _ L => (L.set 5 (bx (γ1 2) (#[.slice q257 (n + 1) cq257]) 24))) (fun _ => ?_)
          refine od_ ?_
          refine a1 1 rfl ?_
          refine qo0 1 [(1, .go (owns 4 0 1))] [4, 18] [(17, .int .i64 ((j + 1 : Nat)))] ?_
          refine od_ ?_
          refine tk (m := 0) [4, 5] [] [4] [(5, .int .i64 ((j + 1 : Nat))), (6, .int .i64 0)] ([]) #[true, true, true, true, true, true] al0 ?_
          exact any_weak hm [4, 5, 6] (by kernel_rfl) rfl rfl rfl
        ·
         refine qo0 1 [(1, .go (owns 4 0 1))] [4, 8, 18] [(17, .int .i64 ((j + 1 : Nat)))] ?_
         refine od_ ?_
         refine a1 0 rfl ?_
         refine qo0 1 [(0, .go (owns 0 0 1))] [4, 17, 18] [(16, .agg #[.slice q257 (n + 1) cq257])] ?_
         refine od_ ?_
         refine a1 3 rfl ?_
         refine mo0 1 [(3, .go (owns 5 0 1))] [4, 17, 18] (fun _ => []) (fun _ L => (L.set 5 (bx (γ1 2) (#[.slice q257 (n + 1) cq257]) 24))) (fun _ => ?_)
         refine od_ ?_
         refine tk (m := 0) [4, 5] [] [4] [(5, .int .i64 ((j + 1 : Nat))), (6, .int .i64 0)] ([]) #[true, true, true, true, true, true] al0 ?_
         exact any_weak hm [4, 5, 6] (by kernel_rfl) rfl rfl rfl
       refine any_nil (by kernel_rfl) ?_
       refine ds_ (rt (owns 5 0 1) (.tuple #[.agg #[.slice q257 (n + 1) cq257], .int .i64 ((j + 1 : Nat)), .int .i64 0]) ?_)
       exact fun w' hw => by rw [openV_ok q6 q157 (open_at hI hx186 (by assumption)) q193]; exact ⟨_, _, _, _, rfl, hO257, hw.below, ((hw.tailN 8).sub (List.sublist_append_left Y257 ([])))⟩
    ·
     refine qa [(4, .go (owns 0 0 1)), (6, .no)] [0, 1, 2, 5] [(28, .bool false)] ([¬ (((j : Nat) : Int) < ((n : Nat) : Int))]) (al1 q184) (ds_ (f_ (at_leave _ rfl (ds_ (sq_ (sq_ ?_))))))
     by_cases q284 : ((j : Nat) : Int) = (32 : Int)
     ·
      refine qa [(1, .yes)] [0, 1, 2, 5] [(32, .bool true)] ([((j : Nat) : Int) = (32 : Int)]) (al1 q284) (ds_ (t_ (sq_ (qa0 [] [] [(4, .int .i64 6)] (ds_ (bk ([]) (.int .i64 6) (qo0 1 [] [4, 7] [(8, .int .i64 6)] (on_ (ds_ (sq_ (qa0 [] [4, 7, 8] [(22, .bool true)] (ds_ (t_ (sq_ (qa0 [(2, .go (owns 1 0 1))] [4] [(5, .int .i64 6)] (ds_ (bk (owns 1 0 1) (.tuple #[.agg #[.slice none 0 0], .int .i64 6]) (mo0 6 [(7, .go (owns 0 0 1))] [4, 7] (fun γ290 => [(8, .pointer (some ⟨γ290 0, 0, none⟩)), (9, .int .i64 6)]) (fun γ290 L => bx (γ290 0) (#[.slice none 0 0]) 24 :: L) (fun γ290 => on_ (ds_ (sq_ ?_)))))))))))))))))))))
      refine at_any (by kernel_rfl) ?_
      refine tk (m := 5) [2] [] [4, 7, 8] [(18, .int .i64 6)] ([]) #[false, false, true, false, false, false] al0 ?_
      refine any_cut 0 #[true, true, true, true, true, true] ([(4, .pointer (some ⟨γ1 2, 0, none⟩)), (5, .int .i64 0), (6, .int .i64 6)]) ([bx (γ290 0) (#[.slice none 0 0]) 24, bx (γ153 0) (#[.slice (some ⟨g31, 0, none⟩) n cq31]) 24, bx (γ4 1) (#[.slice none 0 0]) 24, bx (γ4 0) (#[.slice p n cap]) 24, bx (γ2 0) (#[.int .i64 0]) 3, bx (γ1 2) (#[.slice none 0 0]) 24, bx (γ1 1) (#[.int .i64 own]) 3, bx (γ1 0) (#[.slice p n cap]) 24, bx g31 cs31 40]) ?_ (fun hm => ?_)
      rotate_left
      ·
       refine any_fork [0, 1] (by kernel_rfl) (by simp) (each_cons _ rfl ?_ (each_cons _ rfl ?_ (each_nil)))
       ·
        refine qo0 1 [(0, .go (owns 0 0 1))] [4, 7, 18] [(16, .agg #[.slice none 0 0])] ?_
        refine od_ ?_
        refine any_fork [1, 3] (by kernel_rfl) (by simp) (each_cons _ rfl ?_ (each_cons _ rfl ?_ (each_nil)))
        ·
         refine qo0 1 [(1, .go (owns 4 0 1))] [4, 16, 18] [(17, .int .i64 0)] ?_
         refine od_ ?_
         refine a1 3 rfl ?_
         refine qo0 1 [(3, .go (owns 5 0 1))] [4, 17, 18] [] ?_
         refine od_ ?_
         refine tk (m := 0) [4, 5] [] [4] [(5, .int .i64 0), (6, .int .i64 6)] ([]) #[true, true, true, true, true, true] al0 ?_
         exact any_weak hm [4, 5, 6] (by kernel_rfl) rfl rfl rfl
        ·
         refine qo0 1 [(3, .go (owns 5 0 1))] [4, 7, 18] [] ?_
         refine od_ ?_
         refine a1 1 rfl ?_
         refine qo0 1 [(1, .go (owns 4 0 1))] [4, 18] [(17, .int .i64 0)] ?_
         refine od_ ?_
         refine tk (m := 0) [4, 5] [] [4] [(5, .int .i64 0), (6, .int .i64 6)] ([]) #[true, true, true, true, true, true] al0 ?_
         exact any_weak hm [4, 5, 6] (by kernel_rfl) rfl rfl rfl
       ·
        refine qo0 1 [(1, .go (owns 4 0 1))] [4, 8, 18] [(17, .int .i64 0)] ?_
        refine od_ ?_
        refine a1 0 rfl ?_
        refine qo0 1 [(0, .go (owns 0 0 1))] [4, 17, 18] [(16, .agg #[.slice none 0 0])] ?_
        refine od_ ?_
        refine a1 3 rfl ?_
        refine qo0 1 [(3, .go (owns 5 0 1))] [4, 17, 18] [] ?_
        refine od_ ?_
        refine tk (m := 0) [4, 5] [] [4] [(5, .int .i64 0), (6, .int .i64 6)] ([]) #[true, true, true, true, true, true] al0 ?_
        exact any_weak hm [4, 5, 6] (by kernel_rfl) rfl rfl rfl
      refine any_nil (by kernel_rfl) ?_
      refine ds_ (rt (owns 5 0 1) (.tuple #[.agg #[.slice none 0 0], .int .i64 0, .int .i64 6]) ?_)
      exact fun w' hw => by rw [openV_full q6 q157 (open_end hI (by omega)) q284]; exact ⟨none, 0, 0, [], rfl, SlO.nil, hw.below, hw.sub (List.nil_sublist _)⟩
     ·
      refine qa [(1, .no)] [0, 1, 2, 5] [(32, .bool false)] ([¬ (((j : Nat) : Int) = (32 : Int))]) (al1 q284) (ds_ (f_ (at_skip (ds_ (sq_ (ma [(1, .fit), (2, .go (owns 3 0 1))] [0, 1, 2, 5] (fun _ => []) (fun _ L => (L.set 3 (bx (γ2 0) (#[.int .i64 ((j + 1 : Nat))]) 3))) (fun _ => [Fit .i64 ((j + 1 : Nat))]) (fun _ => (al1 (fit64 (by omega) (by omega)))) (fun _ => ds_ (sq_ ?_))))))))
      refine at_any (by kernel_rfl) ?_
      refine tk (m := 9) [0, 1, 2, 3, 5] [] [1, 2] [(35, .pointer (some ⟨γ153 0, 0, none⟩)), (38, .pointer (some ⟨γ153 0, 0, none⟩)), (40, .int .i64 ((j : Nat)))] ([]) #[true, true, true, true, false, true, false, false, false, false, false, false, false, false] al0 ?_
      refine any_cutG 4 #[true, true, true, true, true, true, true, true, true, true, false, false, false, false] (fun γ316 => [(35, .pointer (some ⟨γ153 0, 0, none⟩)), (39, .slice (some ⟨g31, 0, none⟩) n cq31), (40, .int .i64 ((j : Nat))), (44, .slice (some ⟨γ316 0, 0, none⟩) 1 1)]) (fun γ316 => [bx (γ316 0) (#[.int .i64 ((j + 1 : Nat)), .int .i64 own, .int .i64 0, .bool false, .bool false]) 40, bx (γ153 0) (#[.slice (some ⟨g31, 0, none⟩) n cq31]) 24, bx (γ4 1) (#[.slice none 0 0]) 24, bx (γ4 0) (#[.slice p n cap]) 24, bx (γ2 0) (#[.int .i64 ((j + 1 : Nat))]) 3, bx (γ1 2) (#[.slice none 0 0]) 24, bx (γ1 1) (#[.int .i64 own]) 3, bx (γ1 0) (#[.slice p n cap]) 24, bx g31 cs31 40]) (fun γ316 => ?_) (fun hm => ?_)
      rotate_left
      ·
       refine any_fork [4, 6, 7] (by kernel_rfl) (by simp) (each_cons _ rfl ?_ (each_cons _ rfl ?_ (each_cons _ rfl ?_ (each_nil))))
       ·
        refine qo0 1 [(4, .go (owns 0 0 1))] [1, 2, 35, 40] [(39, .slice (some ⟨g31, 0, none⟩) n cq31)] ?_
        refine od_ ?_
        refine any_fork [6, 7] (by kernel_rfl) (by simp) (each_cons _ rfl ?_ (each_cons _ rfl ?_ (each_nil)))
        ·
         refine qo0 1 [(6, .go (owns 3 0 1))] [1, 35, 39, 40] [(41, .int .i64 ((j + 1 : Nat)))] ?_
         refine od_ ?_
         refine a1 7 rfl ?_
         refine qo0 1 [(7, .go (owns 5 0 1))] [35, 39, 40, 41] [(42, .int .i64 own)] ?_
         refine od_ ?_
         refine tk (m := 5) [8] [] [35, 39, 40] [(43, .agg #[.int .i64 ((j + 1 : Nat)), .int .i64 own, .int .i64 0, .bool false, .bool false])] ([]) #[true, true, true, true, true, true, true, true, true, false, false, false, false, false] al0 ?_
         refine a1 9 rfl ?_
         refine mo0 1 [] [35, 39, 40] (fun γ321 => [(44, .slice (some ⟨γ321 0, 0, none⟩) 1 1)]) (fun γ321 L => bx (γ321 0) (#[.int .i64 ((j + 1 : Nat)), .int .i64 own, .int .i64 0, .bool false, .bool false]) 40 :: L) (fun γ321 => ?_)
         refine od_ ?_
         exact any_weak (hm fun i => [γ321 0].getD i 0) [35, 39, 40, 44] (by kernel_rfl) rfl rfl rfl
        ·
         refine qo0 1 [(7, .go (owns 5 0 1))] [2, 35, 39, 40] [(42, .int .i64 own)] ?_
         refine od_ ?_
         refine a1 6 rfl ?_
         refine qo0 1 [(6, .go (owns 3 0 1))] [35, 39, 40, 42] [(41, .int .i64 ((j + 1 : Nat)))] ?_
         refine od_ ?_
         refine tk (m := 5) [8] [] [35, 39, 40] [(43, .agg #[.int .i64 ((j + 1 : Nat)), .int .i64 own, .int .i64 0, .bool false, .bool false])] ([]) #[true, true, true, true, true, true, true, true, true, false, false, false, false, false] al0 ?_
         refine a1 9 rfl ?_
         refine mo0 1 [] [35, 39, 40] (fun γ325 => [(44, .slice (some ⟨γ325 0, 0, none⟩) 1 1)]) (fun γ325 L => bx (γ325 0) (#[.int .i64 ((j + 1 : Nat)), .int .i64 own, .int .i64 0, .bool false, .bool false]) 40 :: L) (fun γ325 => ?_)
         refine od_ ?_
         exact any_weak (hm fun i => [γ325 0].getD i 0) [35, 39, 40, 44] (by kernel_rfl) rfl rfl rfl
       ·
        refine qo0 1 [(6, .go (owns 3 0 1))] [1, 35, 38, 40] [(41, .int .i64 ((j + 1 : Nat)))] ?_
        refine od_ ?_
        refine any_fork [4, 7] (by kernel_rfl) (by simp) (each_cons _ rfl ?_ (each_cons _ rfl ?_ (each_nil)))
        ·
         refine qo0 1 [(4, .go (owns 0 0 1))] [1, 35, 40, 41] [(39, .slice (some ⟨g31, 0, none⟩) n cq31)] ?_
         refine od_ ?_
         refine a1 7 rfl ?_
         refine qo0 1 [(7, .go (owns 5 0 1))] [35, 39, 40, 41] [(42, .int .i64 own)] ?_
         refine od_ ?_
         refine tk (m := 5) [8] [] [35, 39, 40] [(43, .agg #[.int .i64 ((j + 1 : Nat)), .int .i64 own, .int .i64 0, .bool false, .bool false])] ([]) #[true, true, true, true, true, true, true, true, true, false, false, false, false, false] al0 ?_
         refine a1 9 rfl ?_
         refine mo0 1 [] [35, 39, 40] (fun γ330 => [(44, .slice (some ⟨γ330 0, 0, none⟩) 1 1)]) (fun γ330 L => bx (γ330 0) (#[.int .i64 ((j + 1 : Nat)), .int .i64 own, .int .i64 0, .bool false, .bool false]) 40 :: L) (fun γ330 => ?_)
         refine od_ ?_
         exact any_weak (hm fun i => [γ330 0].getD i 0) [35, 39, 40, 44] (by kernel_rfl) rfl rfl rfl
        ·
         refine qo0 1 [(7, .go (owns 5 0 1))] [35, 38, 40, 41] [(42, .int .i64 own)] ?_
         refine od_ ?_
         refine tk (m := 6) [8] [] [35, 38, 40] [(43, .agg #[.int .i64 ((j + 1 : Nat)), .int .i64 own, .int .i64 0, .bool false, .bool false])] ([]) #[true, true, true, true, false, true, true, true, true, false, false, false, false, false] al0 ?_
         refine any_fork [4, 9] (by kernel_rfl) (by simp) (each_cons _ rfl ?_ (each_cons _ rfl ?_ (each_nil)))
         ·
          refine qo0 1 [(4, .go (owns 0 0 1))] [35, 40, 43] [(39, .slice (some ⟨g31, 0, none⟩) n cq31)] ?_
          refine od_ ?_
          refine a1 9 rfl ?_
          refine mo0 1 [] [35, 39, 40] (fun γ334 => [(44, .slice (some ⟨γ334 0, 0, none⟩) 1 1)]) (fun γ334 L => bx (γ334 0) (#[.int .i64 ((j + 1 : Nat)), .int .i64 own, .int .i64 0, .bool false, .bool false]) 40 :: L) (fun γ334 => ?_)
          refine od_ ?_
          exact any_weak (hm fun i => [γ334 0].getD i 0) [35, 39, 40, 44] (by kernel_rfl) rfl rfl rfl
         ·
          refine mo0 1 [] [35, 38, 40] (fun γ335 => [(44, .slice (some ⟨γ335 0, 0, none⟩) 1 1)]) (fun γ335 L => bx (γ335 0) (#[.int .i64 ((j + 1 : Nat)), .int .i64 own, .int .i64 0, .bool false, .bool false]) 40 :: L) (fun γ335 => ?_)
          refine od_ ?_
          refine a1 4 rfl ?_
          refine qo0 1 [(4, .go (owns 1 0 1))] [35, 40, 44] [(39, .slice (some ⟨g31, 0, none⟩) n cq31)] ?_
          refine od_ ?_
          exact any_weak (hm fun i => [γ335 0].getD i 0) [35, 39, 40, 44] (by kernel_rfl) rfl rfl rfl
       ·
        refine qo0 1 [(7, .go (owns 5 0 1))] [2, 35, 38, 40] [(42, .int .i64 own)] ?_
        refine od_ ?_
        refine any_fork [4, 6] (by kernel_rfl) (by simp) (each_cons _ rfl ?_ (each_cons _ rfl ?_ (each_nil)))
        ·
         refine qo0 1 [(4, .go (owns 0 0 1))] [2, 35, 40, 42] [(39, .slice (some ⟨g31, 0, none⟩) n cq31)] ?_
         refine od_ ?_
         refine a1 6 rfl ?_
         refine qo0 1 [(6, .go (owns 3 0 1))] [35, 39, 40, 42] [(41, .int .i64 ((j + 1 : Nat)))] ?_
         refine od_ ?_
         refine tk (m := 5) [8] [] [35, 39, 40] [(43, .agg #[.int .i64 ((j + 1 : Nat)), .int .i64 own, .int .i64 0, .bool false, .bool false])] ([]) #[true, true, true, true, true, true, true, true, true, false, false, false, false, false] al0 ?_
         refine a1 9 rfl ?_
         refine mo0 1 [] [35, 39, 40] (fun γ341 => [(44, .slice (some ⟨γ341 0, 0, none⟩) 1 1)]) (fun γ341 L => bx (γ341 0) (#[.int .i64 ((j + 1 : Nat)), .int .i64 own, .int .i64 0, .bool false, .bool false]) 40 :: L) (fun γ341 => ?_)
         refine od_ ?_
         exact any_weak (hm fun i => [γ341 0].getD i 0) [35, 39, 40, 44] (by kernel_rfl) rfl rfl rfl
        ·
         refine qo0 1 [(6, .go (owns 3 0 1))] [35, 38, 40, 42] [(41, .int .i64 ((j + 1 : Nat)))] ?_
         refine od_ ?_
         refine tk (m := 6) [8] [] [35, 38, 40] [(43, .agg #[.int .i64 ((j + 1 : Nat)), .int .i64 own, .int .i64 0, .bool false, .bool false])] ([]) #[true, true, true, true, false, true, true, true, true, false, false, false, false, false] al0 ?_
         refine any_fork [4, 9] (by kernel_rfl) (by simp) (each_cons _ rfl ?_ (each_cons _ rfl ?_ (each_nil)))
         ·
          refine qo0 1 [(4, .go (owns 0 0 1))] [35, 40, 43] [(39, .slice (some ⟨g31, 0, none⟩) n cq31)] ?_
          refine od_ ?_
          refine a1 9 rfl ?_
          refine mo0 1 [] [35, 39, 40] (fun γ345 => [(44, .slice (some ⟨γ345 0, 0, none⟩) 1 1)]) (fun γ345 L => bx (γ345 0) (#[.int .i64 ((j + 1 : Nat)), .int .i64 own, .int .i64 0, .bool false, .bool false]) 40 :: L) (fun γ345 => ?_)
          refine od_ ?_
          exact any_weak (hm fun i => [γ345 0].getD i 0) [35, 39, 40, 44] (by kernel_rfl) rfl rfl rfl
         ·
          refine mo0 1 [] [35, 38, 40] (fun γ346 => [(44, .slice (some ⟨γ346 0, 0, none⟩) 1 1)]) (fun γ346 L => bx (γ346 0) (#[.int .i64 ((j + 1 : Nat)), .int .i64 own, .int .i64 0, .bool false, .bool false]) 40 :: L) (fun γ346 => ?_)
          refine od_ ?_
          refine a1 4 rfl ?_
          refine qo0 1 [(4, .go (owns 1 0 1))] [35, 40, 44] [(39, .slice (some ⟨g31, 0, none⟩) n cq31)] ?_
          refine od_ ?_
          exact any_weak (hm fun i => [γ346 0].getD i 0) [35, 39, 40, 44] (by kernel_rfl) rfl rfl rfl
      refine a1 10 rfl ?_
      refine cP (fun v L' => ∃ q capq Y, v = .slice q (n + 1) capq ∧ L' = [bx (γ153 0) (#[.slice (some ⟨g31, 0, none⟩) n cq31]) 24, bx (γ4 1) (#[.slice none 0 0]) 24, bx (γ4 0) (#[.slice p n cap]) 24, bx (γ2 0) (#[.int .i64 ((j + 1 : Nat))]) 3, bx (γ1 2) (#[.slice none 0 0]) 24, bx (γ1 1) (#[.int .i64 own]) 3, bx (γ1 0) (#[.slice p n cap]) 24] ++ (Y ++ []) ∧ SlO 40 Y q (n + 1) capq (l.take j ++ [⟨(j + 1 : Nat), own, 0, false, false⟩] ++ l.drop j)) Try.call56 (fun w hw => (insert_d _ ([bx (γ153 0) (#[.slice (some ⟨g31, 0, none⟩) n cq31]) 24, bx (γ4 1) (#[.slice none 0 0]) 24, bx (γ4 0) (#[.slice p n cap]) 24, bx (γ2 0) (#[.int .i64 ((j + 1 : Nat))]) 3, bx (γ1 2) (#[.slice none 0 0]) 24, bx (γ1 1) (#[.int .i64 own]) 3, bx (γ1 0) (#[.slice p n cap]) 24] ++ []) [bx g31 cs31 40] (some ⟨g31, 0, none⟩) n cq31 l j (γ316 0) (#[.int .i64 ((j + 1 : Nat)), .int .i64 own, .int .i64 0, .bool false, .bool false]) 1 ([⟨(j + 1 : Nat), own, 0, false, false⟩]) w (hw.pull (A := [bx (γ153 0) (#[.slice (some ⟨g31, 0, none⟩) n cq31]) 24, bx (γ4 1) (#[.slice none 0 0]) 24, bx (γ4 0) (#[.slice p n cap]) 24, bx (γ2 0) (#[.int .i64 ((j + 1 : Nat))]) 3, bx (γ1 2) (#[.slice none 0 0]) 24, bx (γ1 1) (#[.int .i64 own]) 3, bx (γ1 0) (#[.slice p n cap]) 24]) (Y := [bx g31 cs31 40]) (R := [])) hO31 (by rfl) (by rfl) (by omega) (by omega) (by omega) (by omega)).mono fun e w' ⟨q, capq, Y', he, hO, hY⟩ => ⟨_, _, he, ⟨q, capq, Y', rfl, rfl, hO⟩, hY.push⟩) ?_
      rintro v348 L348 ⟨q348, cq348, Y348, rfl, rfl, hO348⟩
      refine od_ ?_
      refine tk (m := 1) [11, 12] [] [45] [(47, .pointer (some ⟨γ153 0, 0, none⟩))] ([]) #[true, true, true, true, true, true, true, true, true, true, true, true, true, false] al0 ?_
      refine a1 13 rfl ?_
      refine mo0 1 [(13, .go (owns 0 0 1))] [] (fun _ => []) (fun _ L => (L.set 0 (bx (γ153 0) (#[.slice q348 (n + 1) cq348]) 24))) (fun _ => ?_)
      refine od_ ?_
      refine any_nil (by kernel_rfl) ?_
      refine ds_ (sq_ (qa0 [] [] [(4, .int .i64 0)] (ds_ (bk ([]) (.int .i64 0) (qo0 1 [] [4, 7] [(8, .int .i64 0)] (on_ (ds_ (sq_ (qa0 [] [4, 7, 8] [(22, .bool false)] (ds_ (f_ (at_skip (ds_ (sq_ (ma0 [(0, .go (owns 0 0 1)), (1, .go (owns 1 0 1))] [4] (fun _ => [(5, .int .i64 0)]) (fun _ L => (L.set 1 (bx (γ4 1) (#[.slice q348 (n + 1) cq348]) 24))) (fun _ => ds_ (bk (owns 1 0 1) (.tuple #[.agg #[.slice q348 (n + 1) cq348], .int .i64 0]) (mo0 6 [(7, .go (owns 0 0 1))] [4, 7] (fun γ355 => [(8, .pointer (some ⟨γ355 0, 0, none⟩)), (9, .int .i64 0)]) (fun γ355 L => bx (γ355 0) (#[.slice q348 (n + 1) cq348]) 24 :: L) (fun γ355 => on_ (ds_ (sq_ ?_)))))))))))))))))))))
      refine at_any (by kernel_rfl) ?_
      refine tk (m := 5) [2] [] [4, 7, 8] [(18, .int .i64 0)] ([]) #[false, false, true, false, false, false] al0 ?_
      refine any_cut 0 #[true, true, true, true, true, true] ([(4, .pointer (some ⟨γ1 2, 0, none⟩)), (5, .int .i64 ((j + 1 : Nat))), (6, .int .i64 0)]) (bx (γ355 0) (#[.slice q348 (n + 1) cq348]) 24 :: bx (γ153 0) (#[.slice q348 (n + 1) cq348]) 24 :: bx (γ4 1) (#[.slice q348 (n + 1) cq348]) 24 :: bx (γ4 0) (#[.slice p n cap]) 24 :: bx (γ2 0) (#[.int .i64 ((j + 1 : Nat))]) 3 :: bx (γ1 2) (#[.slice q348 (n + 1) cq348]) 24 :: bx (γ1 1) (#[.int .i64 own]) 3 :: bx (γ1 0) (#[.slice p n cap]) 24 :: (Y348 ++ [])) ?_ (fun hm => ?_)
      rotate_left
      ·
       refine any_fork [0, 1] (by kernel_rfl) (by simp) (each_cons _ rfl ?_ (each_cons _ rfl ?_ (each_nil)))
       ·
        refine qo0 1 [(0, .go (owns 0 0 1))] [4, 7, 18] [(16, .agg #[.slice q348 (n + 1) cq348])] ?_
        refine od_ ?_
        refine any_fork [1, 3] (by kernel_rfl) (by simp) (each_cons _ rfl ?_ (each_cons _ rfl ?_ (each_nil)))
        ·
         refine qo0 1 [(1, .go (owns 4 0 1))] [4, 16, 18] [(17, .int .i64 ((j + 1 : Nat)))] ?_
         refine od_ ?_
         refine a1 3 rfl ?_
         refine mo0 1 [(3, .go (owns 5 0 1))] [4, 17, 18] (fun _ => []) (fun _ L => (L.set 5 (bx (γ1 2) (#[.slice q348 (n + 1) cq348]) 24))) (fun _ => ?_)
         refine od_ ?_
         refine tk (m := 0) [4, 5] [] [4] [(5, .int .i64 ((j + 1 : Nat))), (6, .int .i64 0)] ([]) #[true, true, true, true, true, true] al0 ?_
         exact any_weak hm [4, 5, 6] (by kernel_rfl) rfl rfl rfl
        ·
         refine mo0 1 [(3, .go (owns 5 0 1))] [4, 7, 18] (fun _ => []) (fun _ L => (L.set 5 (bx (γ1 2) (#[.slice q348 (n + 1) cq348]) 24))) (fun _ => ?_)
         refine od_ ?_
         refine a1 1 rfl ?_
         refine qo0 1 [(1, .go (owns 4 0 1))] [4, 18] [(17, .int .i64 ((j + 1 : Nat)))] ?_
         refine od_ ?_
         refine tk (m := 0) [4, 5] [] [4] [(5, .int .i64 ((j + 1 : Nat))), (6, .int .i64 0)] ([]) #[true, true, true, true, true, true] al0 ?_
         exact any_weak hm [4, 5, 6] (by kernel_rfl) rfl rfl rfl
       ·
        refine qo0 1 [(1, .go (owns 4 0 1))] [4, 8, 18] [(17, .int .i64 ((j + 1 : Nat)))] ?_
        refine od_ ?_
        refine a1 0 rfl ?_
        refine qo0 1 [(0, .go (owns 0 0 1))] [4, 17, 18] [(16, .agg #[.slice q348 (n + 1) cq348])] ?_
        refine od_ ?_
        refine a1 3 rfl ?_
        refine mo0 1 [(3, .go (owns 5 0 1))] [4, 17, 18] (fun _ => []) (fun _ L => (L.set 5 (bx (γ1 2) (#[.slice q348 (n + 1) cq348]) 24))) (fun _ => ?_)
        refine od_ ?_
        refine tk (m := 0) [4, 5] [] [4] [(5, .int .i64 ((j + 1 : Nat))), (6, .int .i64 0)] ([]) #[true, true, true, true, true, true] al0 ?_
        exact any_weak hm [4, 5, 6] (by kernel_rfl) rfl rfl rfl
      refine any_nil (by kernel_rfl) ?_
      refine ds_ (rt (owns 5 0 1) (.tuple #[.agg #[.slice q348 (n + 1) cq348], .int .i64 ((j + 1 : Nat)), .int .i64 0]) ?_)
      exact fun w' hw => by rw [openV_ok q6 q157 (open_end hI (by omega)) q284]; exact ⟨_, _, _, _, rfl, hO348, hw.below, ((hw.tailN 8).sub (List.sublist_append_left Y348 ([])))⟩
end Go.Proofs.Ytfhlmijdokfdpaa

/-! event.Link. -/
namespace Go.Proofs.Ytfhlmijdokfdpaa
open Go Go.RowKit

set_option maxRecDepth 100000 in
theorem link_d (p : Option Addr) (n cap : Nat) (l : List Port) (a b : Int) (w : World)
 (hsl : Sv w p l) (hn : n = l.length) (hb : n ≤ 1000)
 : Calls Try.prog 29 #[.agg #[.slice p n cap], .int .i64 a, .int .i64 b] w fun e w' => ∃ q m capq Y, e = .returned (.tuple #[.agg #[.slice q m capq], .int .i64 (linkV l a b).2]) ∧ SlO 40 Y q m capq (linkV l a b).1 ∧ Below w.heap.size w w' ∧ Hs w Y w' := by
 refine enter (Hs.start w) Try.func29 rfl Try.ntmps29 rfl (sq_ (ma0 [] [] (fun γ1 => [(3, .pointer (some ⟨γ1 0, 0, none⟩)), (4, .pointer (some ⟨γ1 1, 0, none⟩)), (5, .pointer (some ⟨γ1 2, 0, none⟩)), (6, .pointer (some ⟨γ1 3, 0, none⟩))]) (fun γ1 L => bx (γ1 3) (#[.slice none 0 0]) 24 :: bx (γ1 2) (#[.int .i64 b]) 3 :: bx (γ1 1) (#[.int .i64 a]) 3 :: bx (γ1 0) (#[.slice p n cap]) 24 :: L) (fun γ1 => ds_ (sq_ (ao_ (qo0 2 [(0, .go (owns 3 0 1))] [6] [(8, .agg #[.slice p n cap]), (9, .func (.func 57) #[] #[.pointer (some ⟨γ1 1, 0, none⟩), .pointer (some ⟨γ1 2, 0, none⟩)])] (ops_inline (g := 54) (args := #[.agg #[.slice p n cap], .func (.func 57) #[] #[.pointer (some ⟨γ1 1, 0, none⟩), .pointer (some ⟨γ1 2, 0, none⟩)]]) (by kernel_rfl) (by kernel_rfl) (by kernel_rfl) (fun args w => Try.call54 args w) Try.func54 rfl Try.ntmps54 rfl (sq_ (ma0 [] [1] (fun γ3 => [(2, .pointer (some ⟨γ3 0, 0, none⟩)), (4, .pointer (some ⟨γ3 1, 0, none⟩))]) (fun γ3 L => bx (γ3 1) (#[.slice none 0 0]) 24 :: bx (γ3 0) (#[.slice p n cap]) 24 :: L) (fun γ3 => ds_ (sq_ (sq_ (ao_ (qo0 1 [(0, .go (owns 1 0 1))] [1, 2, 4] [(9, .agg #[.slice p n cap])] ?_))))))))))))))
 rcases q5 : rightB l with _ | _
 ·
  refine cD (.int .i64 260) Try.call16 (fun w hw => by have := check_d p n cap l w (hsl.kept hw.below) hn hb; rw [q5] at this; exact this) (qo0 1 [] [1, 2, 4] [(6, .int .i64 260)] (on_ (ds_ (sq_ (qa0 [] [1, 2, 4, 6] [(12, .bool true)] (ds_ (t_ (sq_ (qa0 [(2, .go (owns 0 0 1))] [4] [(5, .int .i64 260)] (ds_ (bk (owns 0 0 1) (.tuple #[.agg #[.slice none 0 0], .int .i64 260]) (qo0 4 [(5, .go (owns 2 0 1))] [6] [(7, .int .i64 260)] (on_ (ds_ (rt (owns 2 0 1) (.tuple #[.agg #[.slice none 0 0], .int .i64 260]) ?_)))))))))))))))
  exact fun w' hw => by rw [linkV_bad q5]; exact ⟨none, 0, 0, [], rfl, SlO.nil, hw.below, hw.sub (List.nil_sublist _)⟩
 ·
  refine cD (.int .i64 0) Try.call16 (fun w hw => by have := check_d p n cap l w (hsl.kept hw.below) hn hb; rw [q5] at this; exact this) (qo0 1 [] [1, 2, 4] [(6, .int .i64 0)] (on_ (ds_ (sq_ (qa0 [] [1, 2, 4, 6] [(12, .bool false)] (ds_ (f_ (at_skip (ds_ (sq_ (ao_ (qo0 2 [(1, .go (owns 1 0 1))] [1, 4] [(16, .slice p n cap)] (cP (fun v L' => ∃ q capq Y, v = .slice q n capq ∧ L' = List.take 6 ([bx (γ3 1) (#[.slice none 0 0]) 24, bx (γ3 0) (#[.slice p n cap]) 24, bx (γ1 3) (#[.slice none 0 0]) 24, bx (γ1 2) (#[.int .i64 b]) 3, bx (γ1 1) (#[.int .i64 a]) 3, bx (γ1 0) (#[.slice p n cap]) 24]) ++ (Y ++ List.drop 6 ([bx (γ3 1) (#[.slice none 0 0]) 24, bx (γ3 0) (#[.slice p n cap]) 24, bx (γ1 3) (#[.slice none 0 0]) 24, bx (γ1 2) (#[.int .i64 b]) 3, bx (γ1 1) (#[.int .i64 a]) 3, bx (γ1 0) (#[.slice p n cap]) 24])) ∧ SlO 40 Y q n capq l) Try.call72 (fun w hw => (clone_d p n cap l w (hsl.kept hw.below) hn (by omega)).mono fun e w' ⟨q, capq, Y, he, hO, hb, hY⟩ => ⟨_, _, he, ⟨q, capq, Y, rfl, rfl, hO⟩, hw.join hb hY 6⟩) ?_)))))))))))))
  rintro v13 L13 ⟨q13, cq13, Y13, rfl, rfl, hO13⟩
  have hnq13 := hO13.len
  rcases hO13.parts with ⟨rfl, rfl, hz13⟩ | ⟨g13, cs13, rfl, rfl, hOw13⟩
  ·
   refine mo0 3 [(5, .go (owns 0 0 1))] [1, 4] (fun γ14 => [(7, .pointer (some ⟨γ14 0, 0, none⟩))]) (fun γ14 L => bx (γ14 0) (#[.slice none n cq13]) 24 :: L) (fun γ14 => on_ (ds_ (sq_ (sq_ (ao_ (qo0 1 [] [4, 7] [(19, .func (.func 57) #[] #[.pointer (some ⟨γ1 1, 0, none⟩), .pointer (some ⟨γ1 2, 0, none⟩)])] (ops_inline (g := 57) (args := #[.pointer (some ⟨γ14 0, 0, none⟩), .pointer (some ⟨γ1 1, 0, none⟩), .pointer (some ⟨γ1 2, 0, none⟩)]) (by kernel_rfl) (by kernel_rfl) (by kernel_rfl) (fun args w => Try.call57 args w) Try.func57 rfl Try.ntmps57 rfl (sq_ (qa0 [] [0, 1, 2] [] (ds_ (sq_ ?_)))))))))))
   refine at_calm rfl (by kernel_rfl) (by kernel_rfl) ?_
   refine cm 5 [(3, .go (owns 0 0 1)), (4, .go (owns 5 0 1))] [0, 1, 2] [(10, .slice none n cq13), (11, .int .i64 a)] ([]) (by kernel_rfl) rfl al0 ?_
   rcases hg18 : getB l a with _ | y18
   ·
    refine cK (.pointer none) Try.call32 (fun w hw => by have := port_d none n cq13 l a w (hO13.atN (A := []) hw) hnq13 (by omega) (ris_all (right_ris q5)) (ris_asc l 0 (right_ris q5)); rw [portV_none hg18] at this; exact this) ?_
    refine cm 5 [(9, .go (owns 0 0 1)), (10, .go (owns 4 0 1))] [1, 2, 12] [(16, .slice none n cq13), (17, .int .i64 b)] ([]) (by kernel_rfl) rfl al0 ?_
    rcases hg20 : getB l b with _ | y20
    ·
     refine cK (.pointer none) Try.call32 (fun w hw => by have := port_d none n cq13 l b w (hO13.atN (A := []) hw) hnq13 (by omega) (ris_all (right_ris q5)) (ris_asc l 0 (right_ris q5)); rw [portV_none hg20] at this; exact this) ?_
     refine cm 2 [] [1, 2] [(5, .pointer none), (6, .pointer none)] ([]) (by kernel_rfl) rfl al0 ?_
     refine calm_nil' ?_
     refine ds_ (sq_ (at_block (sq_ (qa0 [] [1, 2, 5, 6] [(19, .bool true)] (ds_ (t_ (sq_ (qa0 [] [] [(4, .int .i64 4)] (ds_ (bk ([]) (.int .i64 4) (qo0 1 [] [4, 7] [(8, .int .i64 4)] (on_ (ds_ (sq_ (qa0 [] [4, 7, 8] [(22, .bool true)] (ds_ (t_ (sq_ (qa0 [(2, .go (owns 1 0 1))] [4] [(5, .int .i64 4)] (ds_ (bk (owns 1 0 1) (.tuple #[.agg #[.slice none 0 0], .int .i64 4]) (qo0 4 [(5, .go (owns 3 0 1))] [6] [(7, .int .i64 4)] (on_ (ds_ (rt (owns 3 0 1) (.tuple #[.agg #[.slice none 0 0], .int .i64 4]) ?_)))))))))))))))))))))))))
     exact fun w' hw => by rw [linkV_n1 q5 hg18]; exact ⟨none, 0, 0, [], rfl, SlO.nil, hw.below, hw.sub (List.nil_sublist _)⟩
    ·
     have hy20 := (get_pos (ris_asc l 0 (right_ris q5)) hg20).1
     exact absurd (List.getElem?_eq_some_iff.1 hy20).1 (by omega)
   ·
    have hy18 := (get_pos (ris_asc l 0 (right_ris q5)) hg18).1
    exact absurd (List.getElem?_eq_some_iff.1 hy18).1 (by omega)
  ·
   refine mo0 3 [(5, .go (owns 0 0 1))] [1, 4] (fun γ30 => [(7, .pointer (some ⟨γ30 0, 0, none⟩))]) (fun γ30 L => bx (γ30 0) (#[.slice (some ⟨g13, 0, none⟩) n cq13]) 24 :: L) (fun γ30 => on_ (ds_ (sq_ (sq_ (ao_ (qo0 1 [] [4, 7] [(19, .func (.func 57) #[] #[.pointer (some ⟨γ1 1, 0, none⟩), .pointer (some ⟨γ1 2, 0, none⟩)])] (ops_inline (g := 57) (args := #[.pointer (some ⟨γ30 0, 0, none⟩), .pointer (some ⟨γ1 1, 0, none⟩), .pointer (some ⟨γ1 2, 0, none⟩)]) (by kernel_rfl) (by kernel_rfl) (by kernel_rfl) (fun args w => Try.call57 args w) Try.func57 rfl Try.ntmps57 rfl (sq_ (qa0 [] [0, 1, 2] [] (ds_ (sq_ ?_)))))))))))
   refine at_calm rfl (by kernel_rfl) (by kernel_rfl) ?_
   refine cm 5 [(3, .go (owns 0 0 1)), (4, .go (owns 5 0 1))] [0, 1, 2] [(10, .slice (some ⟨g13, 0, none⟩) n cq13), (11, .int .i64 a)] ([]) (by kernel_rfl) rfl al0 ?_
   rcases hg34 : getB l a with _ | y34
   ·
    refine cK (.pointer none) Try.call32 (fun w hw => by have := port_d (some ⟨g13, 0, none⟩) n cq13 l a w (hO13.atN (A := [_, _, _, _, _, _, _]) hw) hnq13 (by omega) (ris_all (right_ris q5)) (ris_asc l 0 (right_ris q5)); rw [portV_none hg34] at this; exact this) ?_
    refine cm 5 [(9, .go (owns 0 0 1)), (10, .go (owns 4 0 1))] [1, 2, 12] [(16, .slice (some ⟨g13, 0, none⟩) n cq13), (17, .int .i64 b)] ([]) (by kernel_rfl) rfl al0 ?_
    rcases hg36 : getB l b with _ | y36
    ·
     refine cK (.pointer none) Try.call32 (fun w hw => by have := port_d (some ⟨g13, 0, none⟩) n cq13 l b w (hO13.atN (A := [_, _, _, _, _, _, _]) hw) hnq13 (by omega) (ris_all (right_ris q5)) (ris_asc l 0 (right_ris q5)); rw [portV_none hg36] at this; exact this) ?_
     refine cm 2 [] [1, 2] [(5, .pointer none), (6, .pointer none)] ([]) (by kernel_rfl) rfl al0 ?_
     refine calm_nil' ?_
     refine ds_ (sq_ (at_block (sq_ (qa0 [] [1, 2, 5, 6] [(19, .bool true)] (ds_ (t_ (sq_ (qa0 [] [] [(4, .int .i64 4)] (ds_ (bk ([]) (.int .i64 4) (qo0 1 [] [4, 7] [(8, .int .i64 4)] (on_ (ds_ (sq_ (qa0 [] [4, 7, 8] [(22, .bool true)] (ds_ (t_ (sq_ (qa0 [(2, .go (owns 1 0 1))] [4] [(5, .int .i64 4)] (ds_ (bk (owns 1 0 1) (.tuple #[.agg #[.slice none 0 0], .int .i64 4]) (qo0 4 [(5, .go (owns 3 0 1))] [6] [(7, .int .i64 4)] (on_ (ds_ (rt (owns 3 0 1) (.tuple #[.agg #[.slice none 0 0], .int .i64 4]) ?_)))))))))))))))))))))))))
     exact fun w' hw => by rw [linkV_n1 q5 hg34]; exact ⟨none, 0, 0, [], rfl, SlO.nil, hw.below, hw.sub (List.nil_sublist _)⟩
    ·
     have hy36 := (get_pos (ris_asc l 0 (right_ris q5)) hg36).1
     refine cK (.pointer (some ⟨g13, 0 + (posB l b) * 5, none⟩)) Try.call32 (fun w hw => by have := port_d (some ⟨g13, 0, none⟩) n cq13 l b w (hO13.atN (A := [_, _, _, _, _, _, _]) hw) hnq13 (by omega) (ris_all (right_ris q5)) (ris_asc l 0 (right_ris q5)); rw [portV_some hg36] at this; exact this) ?_
     refine cm 2 [] [1, 2] [(5, .pointer none), (6, .pointer (some ⟨g13, 0 + (posB l b) * 5, none⟩))] ([]) (by kernel_rfl) rfl al0 ?_
     refine calm_nil' ?_
     refine ds_ (sq_ (at_block (sq_ (qa0 [] [1, 2, 5, 6] [(19, .bool true)] (ds_ (t_ (sq_ (qa0 [] [] [(4, .int .i64 4)] (ds_ (bk ([]) (.int .i64 4) (qo0 1 [] [4, 7] [(8, .int .i64 4)] (on_ (ds_ (sq_ (qa0 [] [4, 7, 8] [(22, .bool true)] (ds_ (t_ (sq_ (qa0 [(2, .go (owns 1 0 1))] [4] [(5, .int .i64 4)] (ds_ (bk (owns 1 0 1) (.tuple #[.agg #[.slice none 0 0], .int .i64 4]) (qo0 4 [(5, .go (owns 3 0 1))] [6] [(7, .int .i64 4)] (on_ (ds_ (rt (owns 3 0 1) (.tuple #[.agg #[.slice none 0 0], .int .i64 4]) ?_)))))))))))))))))))))))))
     exact fun w' hw => by rw [linkV_n1 q5 hg34]; exact ⟨none, 0, 0, [], rfl, SlO.nil, hw.below, hw.sub (List.nil_sublist _)⟩
   ·
    have hy34 := (get_pos (ris_asc l 0 (right_ris q5)) hg34).1
    refine cK (.pointer (some ⟨g13, 0 + (posB l a) * 5, none⟩)) Try.call32 (fun w hw => by have := port_d (some ⟨g13, 0, none⟩) n cq13 l a w (hO13.atN (A := [_, _, _, _, _, _, _]) hw) hnq13 (by omega) (ris_all (right_ris q5)) (ris_asc l 0 (right_ris q5)); rw [portV_some hg34] at this; exact this) ?_
    refine cm 5 [(9, .go (owns 0 0 1)), (10, .go (owns 4 0 1))] [1, 2, 12] [(16, .slice (some ⟨g13, 0, none⟩) n cq13), (17, .int .i64 b)] ([]) (by kernel_rfl) rfl al0 ?_
    rcases hg54 : getB l b with _ | y54
    ·
     refine cK (.pointer none) Try.call32 (fun w hw => by have := port_d (some ⟨g13, 0, none⟩) n cq13 l b w (hO13.atN (A := [_, _, _, _, _, _, _]) hw) hnq13 (by omega) (ris_all (right_ris q5)) (ris_asc l 0 (right_ris q5)); rw [portV_none hg54] at this; exact this) ?_
     refine cm 2 [] [1, 2] [(5, .pointer (some ⟨g13, 0 + (posB l a) * 5, none⟩)), (6, .pointer none)] ([]) (by kernel_rfl) rfl al0 ?_
     refine calm_nil' ?_
     refine ds_ (sq_ (at_block (sq_ (qa0 [] [1, 2, 5, 6] [(19, .bool true)] (ds_ (t_ (sq_ (qa0 [] [] [(4, .int .i64 4)] (ds_ (bk ([]) (.int .i64 4) (qo0 1 [] [4, 7] [(8, .int .i64 4)] (on_ (ds_ (sq_ (qa0 [] [4, 7, 8] [(22, .bool true)] (ds_ (t_ (sq_ (qa0 [(2, .go (owns 1 0 1))] [4] [(5, .int .i64 4)] (ds_ (bk (owns 1 0 1) (.tuple #[.agg #[.slice none 0 0], .int .i64 4]) (qo0 4 [(5, .go (owns 3 0 1))] [6] [(7, .int .i64 4)] (on_ (ds_ (rt (owns 3 0 1) (.tuple #[.agg #[.slice none 0 0], .int .i64 4]) ?_)))))))))))))))))))))))))
     exact fun w' hw => by rw [linkV_n2 q5 hg54]; exact ⟨none, 0, 0, [], rfl, SlO.nil, hw.below, hw.sub (List.nil_sublist _)⟩
    ·
     have hy54 := (get_pos (ris_asc l 0 (right_ris q5)) hg54).1
     refine cK (.pointer (some ⟨g13, 0 + (posB l b) * 5, none⟩)) Try.call32 (fun w hw => by have := port_d (some ⟨g13, 0, none⟩) n cq13 l b w (hO13.atN (A := [_, _, _, _, _, _, _]) hw) hnq13 (by omega) (ris_all (right_ris q5)) (ris_asc l 0 (right_ris q5)); rw [portV_some hg54] at this; exact this) ?_
     refine cm 2 [] [1, 2] [(5, .pointer (some ⟨g13, 0 + (posB l a) * 5, none⟩)), (6, .pointer (some ⟨g13, 0 + (posB l b) * 5, none⟩))] ([]) (by kernel_rfl) rfl al0 ?_
     refine calm_nil' ?_
     refine ds_ (sq_ (at_block (sq_ (qa0 [] [1, 2, 5, 6] [(19, .bool false)] (ds_ (f_ (sq_ (ao_ (qo0 2 [] [1, 2, 5, 6] [(27, .pointer (some ⟨g13, 0 + (posB l a) * 5, none⟩)), (28, .pointer (some ⟨g13, 0 + (posB l b) * 5, none⟩))] ?_)))))))))
     by_cases q66 : (a : Int) = (b : Int)
     ·
      refine ops_eqp (g := g13) (o1 := 0 + (posB l a) * 5) (o2 := 0 + (posB l b) * 5) true 7 rfl (by kernel_rfl) (by kernel_rfl) (by kernel_rfl) (by kernel_rfl) Try.underlying65 rfl (show (5 : Nat) ≠ 0 from by decide) (by kernel_rfl) rfl ⟨fun _ => rfl, fun _ => by rw [q66]⟩ (qo0 1 [] [1, 2, 5, 6] [(26, .bool true)] (on_ (ds_ (t_ (sq_ (qa0 [] [] [(4, .int .i64 2)] (ds_ (bk ([]) (.int .i64 2) (qo0 1 [] [4, 7] [(8, .int .i64 2)] (on_ (ds_ (sq_ (qa0 [] [4, 7, 8] [(22, .bool true)] (ds_ (t_ (sq_ (qa0 [(2, .go (owns 1 0 1))] [4] [(5, .int .i64 2)] (ds_ (bk (owns 1 0 1) (.tuple #[.agg #[.slice none 0 0], .int .i64 2]) (qo0 4 [(5, .go (owns 3 0 1))] [6] [(7, .int .i64 2)] (on_ (ds_ (rt (owns 3 0 1) (.tuple #[.agg #[.slice none 0 0], .int .i64 2]) ?_)))))))))))))))))))))))
      exact fun w' hw => by rw [linkV_same q5 hg34 hg54 q66]; exact ⟨none, 0, 0, [], rfl, SlO.nil, hw.below, hw.sub (List.nil_sublist _)⟩
     ·
      refine ops_eqp (g := g13) (o1 := 0 + (posB l a) * 5) (o2 := 0 + (posB l b) * 5) false 7 rfl (by kernel_rfl) (by kernel_rfl) (by kernel_rfl) (by kernel_rfl) Try.underlying65 rfl (show (5 : Nat) ≠ 0 from by decide) (by kernel_rfl) rfl ⟨fun e => absurd (pos_inj q5 hg34 hg54 (by omega)) q66, fun e => nomatch e⟩ (qo0 1 [] [1, 2, 5, 6] [(26, .bool false)] (on_ (ds_ (f_ (sq_ ?_)))))
      by_cases q75 : (y34.peer : Int) ≠ (0 : Int)
      ·
       refine qa [(3, .go (ownps 7 (0 + (posB l a) * 5 + 2) [.int .i64 y34.peer])), (4, .yes)] [1, 2, 5, 6] [(30, .bool true)] (acellsP cs13 (0 + (posB l a) * 5 + 2) [.int .i64 y34.peer] ++ ([(y34.peer : Int) ≠ (0 : Int)])) (alA (rda_part ((hOw13.rdx hnq13 hy34)) 2 _ rfl) (al1 q75)) (ds_ (t_ (sq_ (qa0 [] [] [(4, .int .i64 261)] (ds_ (bk ([]) (.int .i64 261) (qo0 1 [] [4, 7] [(8, .int .i64 261)] (on_ (ds_ (sq_ (qa0 [] [4, 7, 8] [(22, .bool true)] (ds_ (t_ (sq_ (qa0 [(2, .go (owns 1 0 1))] [4] [(5, .int .i64 261)] (ds_ (bk (owns 1 0 1) (.tuple #[.agg #[.slice none 0 0], .int .i64 261]) (qo0 4 [(5, .go (owns 3 0 1))] [6] [(7, .int .i64 261)] (on_ (ds_ (rt (owns 3 0 1) (.tuple #[.agg #[.slice none 0 0], .int .i64 261]) ?_)))))))))))))))))))))
       exact fun w' hw => by rw [linkV_has q5 hg34 hg54 q66 (by omega)]; exact ⟨none, 0, 0, [], rfl, SlO.nil, hw.below, hw.sub (List.nil_sublist _)⟩
      ·
       by_cases q83 : (y54.peer : Int) ≠ (0 : Int)
       ·
        refine qa [(3, .go (ownps 7 (0 + (posB l a) * 5 + 2) [.int .i64 y34.peer])), (4, .no), (9, .go (ownps 7 (0 + (posB l b) * 5 + 2) [.int .i64 y54.peer])), (10, .yes)] [1, 2, 5, 6] [(30, .bool true)] (acellsP cs13 (0 + (posB l a) * 5 + 2) [.int .i64 y34.peer] ++ ([¬ ((y34.peer : Int) ≠ (0 : Int))] ++ (acellsP cs13 (0 + (posB l b) * 5 + 2) [.int .i64 y54.peer] ++ ([(y54.peer : Int) ≠ (0 : Int)])))) (alA (rda_part ((hOw13.rdx hnq13 hy34)) 2 _ rfl) (alA (al1 q75) (alA (rda_part ((hOw13.rdx hnq13 hy54)) 2 _ rfl) (al1 q83)))) (ds_ (t_ (sq_ (qa0 [] [] [(4, .int .i64 261)] (ds_ (bk ([]) (.int .i64 261) (qo0 1 [] [4, 7] [(8, .int .i64 261)] (on_ (ds_ (sq_ (qa0 [] [4, 7, 8] [(22, .bool true)] (ds_ (t_ (sq_ (qa0 [(2, .go (owns 1 0 1))] [4] [(5, .int .i64 261)] (ds_ (bk (owns 1 0 1) (.tuple #[.agg #[.slice none 0 0], .int .i64 261]) (qo0 4 [(5, .go (owns 3 0 1))] [6] [(7, .int .i64 261)] (on_ (ds_ (rt (owns 3 0 1) (.tuple #[.agg #[.slice none 0 0], .int .i64 261]) ?_)))))))))))))))))))))
        exact fun w' hw => by rw [linkV_has q5 hg34 hg54 q66 (by omega)]; exact ⟨none, 0, 0, [], rfl, SlO.nil, hw.below, hw.sub (List.nil_sublist _)⟩
       ·
        refine qa [(3, .go (ownps 7 (0 + (posB l a) * 5 + 2) [.int .i64 y34.peer])), (4, .no), (9, .go (ownps 7 (0 + (posB l b) * 5 + 2) [.int .i64 y54.peer])), (10, .no)] [1, 2, 5, 6] [(30, .bool false)] (acellsP cs13 (0 + (posB l a) * 5 + 2) [.int .i64 y34.peer] ++ ([¬ ((y34.peer : Int) ≠ (0 : Int))] ++ (acellsP cs13 (0 + (posB l b) * 5 + 2) [.int .i64 y54.peer] ++ ([¬ ((y54.peer : Int) ≠ (0 : Int))])))) (alA (rda_part ((hOw13.rdx hnq13 hy34)) 2 _ rfl) (alA (al1 q75) (alA (rda_part ((hOw13.rdx hnq13 hy54)) 2 _ rfl) (al1 q83)))) (ds_ (f_ (at_skip (done_block (ds_ (sq_ ?_))))))
        refine at_any (by kernel_rfl) ?_
        refine tk (m := 8) [0, 1] [] [1, 2] [(43, .pointer (some ⟨g13, 0 + (posB l a) * 5, none⟩)), (44, .pointer (some ⟨g13, 0 + (posB l b) * 5, none⟩))] ([]) #[true, true, false, false, false, false, false, false, false, false] al0 ?_
        refine any_cut 1 #[true, true, true, true, true, true, true, true, true, false] ([(46, .int .i64 a), (50, .pointer (some ⟨g13, 0 + (posB l b) * 5 + 2, none⟩))]) ([bx (γ30 0) (#[.slice (some ⟨g13, 0, none⟩) n cq13]) 24, bx (γ3 1) (#[.slice none 0 0]) 24, bx (γ3 0) (#[.slice p n cap]) 24, bx (γ1 3) (#[.slice none 0 0]) 24, bx (γ1 2) (#[.int .i64 b]) 3, bx (γ1 1) (#[.int .i64 a]) 3, bx (γ1 0) (#[.slice p n cap]) 24, bx g13 ((cs13).setIfInBounds (0 + (posB l a) * 5 + 2) (.int .i64 b)) 40]) ?_ (fun hm => ?_)
        rotate_left
        ·
         refine any_fork [2, 3] (by kernel_rfl) (by simp) (each_cons _ rfl ?_ (each_cons _ rfl ?_ (each_nil)))
         ·
          refine qo0 1 [(2, .go (owns 4 0 1))] [1, 43, 44] [(45, .int .i64 b)] ?_
          refine od_ ?_
          refine tk (m := 5) [4, 5] [] [1, 44, 45] [(48, .pointer (some ⟨g13, 0 + (posB l a) * 5 + 2, none⟩))] ([]) #[true, true, true, false, true, true, false, false, false, false] al0 ?_
          refine any_fork [3, 6] (by kernel_rfl) (by simp) (each_cons _ rfl ?_ (each_cons _ rfl ?_ (each_nil)))
          ·
           refine qo0 1 [(3, .go (owns 5 0 1))] [44, 45, 48] [(46, .int .i64 a)] ?_
           refine od_ ?_
           refine a1 6 rfl ?_
           refine mo 1 [(6, .go (ownps 7 (0 + (posB l a) * 5 + 2) [undef]))] [44, 46] (fun _ => []) (fun _ L => (L.set 7 (bx g13 ((cs13).setIfInBounds (0 + (posB l a) * 5 + 2) (.int .i64 b)) 40))) (fun _ => [0 + (posB l a) * 5 + 2 < (cs13).size]) (fun _ => (al1 (hOw13.room hnq13 hy34 (f := 2) (by decide)))) (fun _ => ?_)
           refine od_ ?_
           refine tk (m := 1) [7, 8] [] [46] [(50, .pointer (some ⟨g13, 0 + (posB l b) * 5 + 2, none⟩))] ([]) #[true, true, true, true, true, true, true, true, true, false] al0 ?_
           exact any_weak hm [46, 50] (by kernel_rfl) rfl rfl rfl
          ·
           refine mo 1 [(6, .go (ownps 7 (0 + (posB l a) * 5 + 2) [undef]))] [1, 44] (fun _ => []) (fun _ L => (L.set 7 (bx g13 ((cs13).setIfInBounds (0 + (posB l a) * 5 + 2) (.int .i64 b)) 40))) (fun _ => [0 + (posB l a) * 5 + 2 < (cs13).size]) (fun _ => (al1 (hOw13.room hnq13 hy34 (f := 2) (by decide)))) (fun _ => ?_)
           refine od_ ?_
           refine a1 3 rfl ?_
           refine qo0 1 [(3, .go (owns 5 0 1))] [44] [(46, .int .i64 a)] ?_
           refine od_ ?_
           refine tk (m := 1) [7, 8] [] [46] [(50, .pointer (some ⟨g13, 0 + (posB l b) * 5 + 2, none⟩))] ([]) #[true, true, true, true, true, true, true, true, true, false] al0 ?_
           exact any_weak hm [46, 50] (by kernel_rfl) rfl rfl rfl
         ·
          refine qo0 1 [(3, .go (owns 5 0 1))] [2, 43, 44] [(46, .int .i64 a)] ?_
          refine od_ ?_
          refine a1 2 rfl ?_
          refine qo0 1 [(2, .go (owns 4 0 1))] [43, 44, 46] [(45, .int .i64 b)] ?_
          refine od_ ?_
          refine tk (m := 4) [4, 5] [] [44, 45, 46] [(48, .pointer (some ⟨g13, 0 + (posB l a) * 5 + 2, none⟩))] ([]) #[true, true, true, true, true, true, false, false, false, false] al0 ?_
          refine a1 6 rfl ?_
          refine mo 1 [(6, .go (ownps 7 (0 + (posB l a) * 5 + 2) [undef]))] [44, 46] (fun _ => []) (fun _ L => (L.set 7 (bx g13 ((cs13).setIfInBounds (0 + (posB l a) * 5 + 2) (.int .i64 b)) 40))) (fun _ => [0 + (posB l a) * 5 + 2 < (cs13).size]) (fun _ => (al1 (hOw13.room hnq13 hy34 (f := 2) (by decide)))) (fun _ => ?_)
          refine od_ ?_
          refine tk (m := 1) [7, 8] [] [46] [(50, .pointer (some ⟨g13, 0 + (posB l b) * 5 + 2, none⟩))] ([]) #[true, true, true, true, true, true, true, true, true, false] al0 ?_
          exact any_weak hm [46, 50] (by kernel_rfl) rfl rfl rfl
        refine a1 9 rfl ?_
        refine mo 1 [(9, .go (ownps 7 (0 + (posB l b) * 5 + 2) [undef]))] [] (fun _ => []) (fun _ L => (L.set 7 (bx g13 (((cs13).setIfInBounds (0 + (posB l a) * 5 + 2) (.int .i64 b)).setIfInBounds (0 + (posB l b) * 5 + 2) (.int .i64 a)) 40))) (fun _ => [0 + (posB l b) * 5 + 2 < ((cs13).setIfInBounds (0 + (posB l a) * 5 + 2) (.int .i64 b)).size]) (fun _ => (al1 ((hOw13.put (x' := (⟨y34.num, y34.vcpu, b, y34.pending, y34.masked⟩ : Port)) hnq13 hy34 (f := 2) (by decide) rfl).room (len_set hnq13) (get_set_ne (fun e => q66 (pos_inj q5 hg34 hg54 e)) hy54) (f := 2) (by decide)))) (fun _ => ?_)
        refine od_ ?_
        refine any_nil (by kernel_rfl) ?_
        refine ds_ (sq_ (qa0 [] [] [(4, .int .i64 0)] (ds_ (bk ([]) (.int .i64 0) (qo0 1 [] [4, 7] [(8, .int .i64 0)] (on_ (ds_ (sq_ (qa0 [] [4, 7, 8] [(22, .bool false)] (ds_ (f_ (at_skip (ds_ (sq_ (ma0 [(0, .go (owns 0 0 1)), (1, .go (owns 1 0 1))] [4] (fun _ => [(5, .int .i64 0)]) (fun _ L => (L.set 1 (bx (γ3 1) (#[.slice (some ⟨g13, 0, none⟩) n cq13]) 24))) (fun _ => ds_ (bk (owns 1 0 1) (.tuple #[.agg #[.slice (some ⟨g13, 0, none⟩) n cq13], .int .i64 0]) (mo0 4 [(5, .go (owns 3 0 1))] [6] (fun _ => [(7, .int .i64 0)]) (fun _ L => (L.set 3 (bx (γ1 3) (#[.slice (some ⟨g13, 0, none⟩) n cq13]) 24))) (fun _ => on_ (ds_ (rt (owns 3 0 1) (.tuple #[.agg #[.slice (some ⟨g13, 0, none⟩) n cq13], .int .i64 0]) ?_)))))))))))))))))))))
        exact fun w' hw => by rw [linkV_ok q5 hg34 hg54 q66 ⟨by omega, by omega⟩]; exact ⟨_, _, _, _, rfl, (SlO.ofOwn ((hOw13.put (x' := (⟨y34.num, y34.vcpu, b, y34.pending, y34.masked⟩ : Port)) hnq13 hy34 (f := 2) (by decide) rfl).put (x' := (⟨y54.num, y54.vcpu, a, y54.pending, y54.masked⟩ : Port)) (len_set hnq13) (get_set_ne (fun e => q66 (pos_inj q5 hg34 hg54 e)) hy54) (f := 2) (by decide) rfl) (len_set (len_set hnq13))), hw.below, hw.tailN 7⟩
end Go.Proofs.Ytfhlmijdokfdpaa

/-! wakes. -/
namespace Go.Proofs.Ytfhlmijdokfdpaa
open Go Go.RowKit

set_option maxRecDepth 100000 in
theorem wakes_d  (w : World)
 : Calls Try.prog 10 #[] w fun e w' => e = .returned (.bool true) ∧ Below w.heap.size w w' := by
 refine enter (Hs.start w) Try.func10 rfl Try.ntmps10 rfl (sq_ (qa0 [] [] [] (ds_ (sq_ (ao_ (qo0 1 [] [] [(10, .agg #[.slice none 0 0])] (cP (fun v L' => ∃ q m capq Y, v = .tuple #[.agg #[.slice q m capq], .int .i64 1, .int .i64 0] ∧ L' = List.take 0 ([]) ++ (Y ++ List.drop 0 ([])) ∧ SlO 40 Y q m capq ([⟨1, 1, 0, false, false⟩] : List Port)) Try.call28 (fun w hw => by have := open_d none 0 0 ([] : List Port) 1 w Sv.nil rfl (by omega); rw [wk1] at this; exact this.mono fun e w' ⟨q, m, capq, Y, he, hO, hb, hY⟩ => ⟨_, _, he, ⟨q, m, capq, Y, rfl, rfl, hO⟩, hw.join hb hY 0⟩) ?_)))))))
 rintro v3 L3 ⟨q3, m3, cq3, Y3, rfl, rfl, hO3⟩
 have hm3 := hO3.len
 simp only [List.length_cons, List.length_nil] at hm3
 refine mo0 8 [(7, .go (owns 0 0 1))] [] (fun γ4 => [(1, .pointer (some ⟨γ4 0, 0, none⟩)), (2, .int .i64 1), (3, .int .i64 0)]) (fun γ4 L => bx (γ4 0) (#[.slice q3 m3 cq3]) 24 :: L) (fun γ4 => on_ (ds_ (sq_ (ao_ (qo0 1 [(0, .go (owns 0 0 1))] [1, 2, 3] [(16, .agg #[.slice q3 m3 cq3])] (cP (fun v L' => ∃ q m capq Y, v = .tuple #[.agg #[.slice q m capq], .int .i64 2, .int .i64 0] ∧ L' = List.take 1 (bx (γ4 0) (#[.slice q3 m3 cq3]) 24 :: (Y3 ++ [])) ++ (Y ++ List.drop 1 (bx (γ4 0) (#[.slice q3 m3 cq3]) 24 :: (Y3 ++ []))) ∧ SlO 40 Y q m capq ([⟨1, 1, 0, false, false⟩, ⟨2, 2, 0, false, false⟩] : List Port)) Try.call28 (fun w hw => by have := open_d q3 m3 cq3 ([⟨1, 1, 0, false, false⟩] : List Port) 2 w (hO3.atN (A := [_]) hw) hO3.len (by omega); rw [wk2] at this; exact this.mono fun e w' ⟨q, m, capq, Y, he, hO, hb, hY⟩ => ⟨_, _, he, ⟨q, m, capq, Y, rfl, rfl, hO⟩, hw.join hb hY 1⟩) ?_))))))
 rintro v6 L6 ⟨q6, m6, cq6, Y6, rfl, rfl, hO6⟩
 have hm6 := hO6.len
 simp only [List.length_cons, List.length_nil] at hm6
 refine mo0 7 [(6, .go (owns 0 0 1))] [1, 2, 3] (fun _ => [(4, .int .i64 2), (5, .int .i64 0)]) (fun _ L => (L.set 0 (bx (γ4 0) (#[.slice q6 m6 cq6]) 24))) (fun _ => on_ (ds_ (sq_ (ao_ (qo0 3 [(0, .go (owns 0 0 1))] [1, 2, 3, 4, 5] [(22, .agg #[.slice q6 m6 cq6]), (23, .int .i64 1), (24, .int .i64 2)] (cP (fun v L' => ∃ q m capq Y, v = .tuple #[.agg #[.slice q m capq], .int .i64 0] ∧ L' = List.take 1 (bx (γ4 0) (#[.slice q6 m6 cq6]) 24 :: (Y6 ++ (Y3 ++ []))) ++ (Y ++ List.drop 1 (bx (γ4 0) (#[.slice q6 m6 cq6]) 24 :: (Y6 ++ (Y3 ++ [])))) ∧ SlO 40 Y q m capq ([⟨1, 1, 2, false, false⟩, ⟨2, 2, 1, false, false⟩] : List Port)) Try.call29 (fun w hw => by have := link_d q6 m6 cq6 ([⟨1, 1, 0, false, false⟩, ⟨2, 2, 0, false, false⟩] : List Port) 1 2 w (hO6.atN (A := [_]) hw) hO6.len (by omega); rw [wk3] at this; exact this.mono fun e w' ⟨q, m, capq, Y, he, hO, hb, hY⟩ => ⟨_, _, he, ⟨q, m, capq, Y, rfl, rfl, hO⟩, hw.join hb hY 1⟩) ?_))))))
 rintro v9 L9 ⟨q9, m9, cq9, Y9, rfl, rfl, hO9⟩
 have hm9 := hO9.len
 simp only [List.length_cons, List.length_nil] at hm9
 refine mo0 5 [(7, .go (owns 0 0 1))] [1, 2, 3, 4, 5] (fun _ => [(6, .int .i64 0)]) (fun _ L => (L.set 0 (bx (γ4 0) (#[.slice q9 m9 cq9]) 24))) (fun _ => on_ (ds_ (sq_ (ao_ (qo0 2 [(0, .go (owns 0 0 1))] [1, 2, 3, 4, 5, 6] [(29, .agg #[.slice q9 m9 cq9]), (30, .int .i64 1)] (cP (fun v L' => ∃ q m capq Y, v = .tuple #[.agg #[.slice q m capq], .int .i64 2, .int .i64 0] ∧ L' = List.take 1 (bx (γ4 0) (#[.slice q9 m9 cq9]) 24 :: (Y9 ++ (Y6 ++ (Y3 ++ [])))) ++ (Y ++ List.drop 1 (bx (γ4 0) (#[.slice q9 m9 cq9]) 24 :: (Y9 ++ (Y6 ++ (Y3 ++ []))))) ∧ SlO 40 Y q m capq ([⟨1, 1, 2, false, false⟩, ⟨2, 2, 1, true, false⟩] : List Port)) Try.call30 (fun w hw => by have := send_d q9 m9 cq9 ([⟨1, 1, 2, false, false⟩, ⟨2, 2, 1, false, false⟩] : List Port) 1 w (hO9.atN (A := [_]) hw) hO9.len (by omega); rw [wk4] at this; exact this.mono fun e w' ⟨q, m, capq, Y, he, hO, hb, hY⟩ => ⟨_, _, he, ⟨q, m, capq, Y, rfl, rfl, hO⟩, hw.join hb hY 1⟩) ?_))))))
 rintro v12 L12 ⟨q12, m12, cq12, Y12, rfl, rfl, hO12⟩
 have hm12 := hO12.len
 simp only [List.length_cons, List.length_nil] at hm12
 refine mo0 7 [(7, .go (owns 0 0 1))] [1, 2, 3, 4, 5, 6] (fun _ => [(7, .int .i64 2), (8, .int .i64 0)]) (fun _ L => (L.set 0 (bx (γ4 0) (#[.slice q12 m12 cq12]) 24))) (fun _ => on_ (ds_ (sq_ (ao_ (qo0 28 [(27, .go (owns 0 0 1))] [] [(61, .bool true), (62, .agg #[.slice q12 m12 cq12])] (cP (fun v L' => ∃ q m capq Y, v = .slice q m capq ∧ L' = List.take 1 (bx (γ4 0) (#[.slice q12 m12 cq12]) 24 :: (Y12 ++ (Y9 ++ (Y6 ++ (Y3 ++ []))))) ++ (Y ++ List.drop 1 (bx (γ4 0) (#[.slice q12 m12 cq12]) 24 :: (Y12 ++ (Y9 ++ (Y6 ++ (Y3 ++ [])))))) ∧ SlO 3 Y q m capq ([2] : List Int)) Try.call22 (fun w hw => by have := edue_d q12 m12 cq12 ([⟨1, 1, 2, false, false⟩, ⟨2, 2, 1, true, false⟩] : List Port) 2 w (hO12.atN (A := [_]) hw) hO12.len (by omega); rw [wk5] at this; exact this.mono fun e w' ⟨q, m, capq, Y, he, hO, hb, hY⟩ => ⟨_, _, he, ⟨q, m, capq, Y, rfl, rfl, hO⟩, hw.join hb hY 1⟩) ?_))))))
 rintro v15 L15 ⟨q15, m15, cq15, Y15, rfl, rfl, hO15⟩
 have hm15 := hO15.len
 refine qo 4 [(30, .yes)] [] [(0, .bool true)] ([((m15 : Nat) : Int) = (1 : Int)]) (al1 ((by rw [hm15]; rfl))) (on_ (ds_ (rt ([]) (.bool true) ?_)))
 exact fun w' hw => ⟨rfl, hw.below⟩
end Go.Proofs.Ytfhlmijdokfdpaa

/-! What the laws of chapter 16 are handed; Bools compared. -/
namespace Go.Proofs.Ytfhlmijdokfdpaa
open Go Go.RowKit

/-- A poll that is asked. -/
structure Asked where
  vcpu : Int
  np : Option Addr
  nn : Nat
  ncap : Nat
  ns : List Int
def Asked.enc (x : Asked) : List Value := [.int .i64 x.vcpu, .slice x.np x.nn x.ncap]
instance : Enc Asked := ⟨Asked.enc, 2, fun _ => rfl, fun x v h => by simp [Asked.enc] at h; rcases h with rfl | rfl <;> rfl, by decide⟩
theorem pollV_bad {l : List Port} {own : Int} {ns : List Int} (h : rightB l = false) : pollV l own ns = (false, 260) := by simp [pollV, h]
theorem bool_eqRun (op : BinOp) (hop : op = .eql ∨ op = .neq) (x y : Operand) (a b r : Bool) (hr : r = (if op = .eql then a == b else !(a == b))) : EqRun Try.prog op 4 x y (.bool a) (.bool b) r := by
  intro w
  subst hr
  have hg : Try.prog.eqGuardType Try.prog.depth 4 = false := by kernel_rfl
  have key : (Op.equal 4 (.bool a) (.bool b)).run Try.prog w = .ok (a == b) w := by
    unfold Op.equal
    rw [show Op.maxDepth = 9999 + 1 from rfl]
    exact run_equalIn_bool' w 9999 4 a b Try.underlying4
  have guard : (eqGuard op 4 x y (.bool a) (.bool b)).run Try.prog w = .ok () w := by
    unfold eqGuard
    rcases hop with rfl | rfl <;> simp [hg]
  rw [Sem.run_bind, guard]
  simp only [Result.andThen_ok]
  rcases hop with rfl | rfl <;> simp [binOp, Sem.run_bind, key]
theorem bool_same {x y : Operand} (a : Bool) : EqRun Try.prog .neq 4 x y (.bool a) (.bool a) false := bool_eqRun _ (.inr rfl) x y a a _ (by simp)
theorem bool_same' {x y : Operand} (a : Bool) : EqRun Try.prog .eql 4 x y (.bool a) (.bool a) true := bool_eqRun _ (.inl rfl) x y a a _ (by simp)
theorem bool_ne {x y : Operand} (a b : Bool) : EqRun Try.prog .neq 4 x y (.bool a) (.bool b) (!(a == b)) := bool_eqRun _ (.inr rfl) x y a b _ (by simp)
theorem bool_eq {x y : Operand} (a b : Bool) : EqRun Try.prog .eql 4 x y (.bool a) (.bool b) (a == b) := bool_eqRun _ (.inl rfl) x y a b _ (by simp)
/-- Ports, as an element of a row of them. -/
structure PortsA where
  p : Option Addr
  n : Nat
  cap : Nat
  l : List Port
def PortsA.enc (x : PortsA) : List Value := [.slice x.p x.n x.cap]
instance : Enc PortsA := ⟨PortsA.enc, 1, fun _ => rfl, fun x v h => by simp [PortsA.enc] at h; subst h; rfl, by decide⟩
theorem eGet_bad {l : List Port} {k : Int} (h : rightB l = false) : eGet l k = none := by simp [eGet, h]
theorem eGet_right {l : List Port} {k : Int} (h : rightB l = true) : eGet l k = getB l k := by simp [eGet, h]
end Go.Proofs.Ytfhlmijdokfdpaa

/-! Chapter 16: what an op of the laws does, in plain Lean. -/
namespace Go.Proofs.Ytfhlmijdokfdpaa
open Go Go.RowKit

/-- What is done. -/
structure OpA where
  kind : Int
  a : Int
  b : Int
  vcpu : Int
  on : Bool
def OpA.enc (x : OpA) : List Value := [.int .i64 x.kind, .int .i64 x.a, .int .i64 x.b, .int .i64 x.vcpu, .bool x.on]
instance : Enc OpA := ⟨OpA.enc, 5, fun _ => rfl, fun x v h => by simp [OpA.enc] at h; rcases h with rfl | rfl | rfl | rfl | rfl <;> rfl, by decide⟩
/-- The rest by twelve. -/
def kdI (k : Int) : Int := Int.tmod (IntKind.u64.wrap k) 12
def raiF (x : Port) : Port := ⟨x.num, x.vcpu, x.peer, true, x.masked⟩
def masF (b : Bool) (x : Port) : Port := ⟨x.num, x.vcpu, x.peer, x.pending, b⟩
/-- What the layer makes of it. -/
def runV (l : List Port) (o : OpA) : List Port × Int × Bool × Int :=
  if kdI o.kind = 0 then ((openV l o.vcpu).1, (openV l o.vcpu).2.1, false, (openV l o.vcpu).2.2)
  else if kdI o.kind = 1 then ((openV l o.vcpu).1, (openV l o.vcpu).2.1, false, (openV l o.vcpu).2.2)
  else if kdI o.kind = 2 then ((linkV l o.a o.b).1, 0, false, (linkV l o.a o.b).2)
  else if kdI o.kind = 3 then ((closeV l o.a).1, 0, false, (closeV l o.a).2)
  else if kdI o.kind = 4 then ((dropV l o.vcpu).1, (dropV l o.vcpu).2.1, false, (dropV l o.vcpu).2.2)
  else if kdI o.kind = 5 then ((sendV l o.a).1, (sendV l o.a).2.1, false, (sendV l o.a).2.2)
  else if kdI o.kind = 6 then ((sendV l o.a).1, (sendV l o.a).2.1, false, (sendV l o.a).2.2)
  else if kdI o.kind = 7 then ((sendV l o.a).1, (sendV l o.a).2.1, false, (sendV l o.a).2.2)
  else if kdI o.kind = 8 then ((turnV l o.a raiF).1, (turnV l o.a raiF).2.1, false, (turnV l o.a raiF).2.2)
  else if kdI o.kind = 9 then ((turnV l o.a (masF o.on)).1, (turnV l o.a (masF o.on)).2.1, false, (turnV l o.a (masF o.on)).2.2)
  else if kdI o.kind = 10 then ((bindV l o.a o.vcpu).1, (bindV l o.a o.vcpu).2.1, false, (bindV l o.a o.vcpu).2.2)
  else ((clearV l o.a).1, 0, (clearV l o.a).2.1, (clearV l o.a).2.2)
end Go.Proofs.Ytfhlmijdokfdpaa

/-! Ports: what every change keeps, in plain Lean. -/
namespace Go.Proofs.Ytfhlmijdokfdpaa
open Go Go.RowKit

/-- Rows that may be, told by what is in them. -/
structure Good (l : List Port) : Prop where
  rise : l.Pairwise fun x y => x.num < y.num
  num : ∀ x ∈ l, 1 ≤ x.num ∧ x.num ≤ 32 ∧ vcpuB x.vcpu = true
  peer : ∀ x ∈ l, x.peer = 0 ∨ ∃ y ∈ l, y.num = x.peer ∧ y.peer = x.num ∧ y.num ≠ x.num
section
variable {l : List Port} {k n own : Int} {x y z : Port} {f : Port → Port} {p : Port → Bool}
theorem rise_inj (h : l.Pairwise fun x y => x.num < y.num) (hx : x ∈ l) (hy : y ∈ l) (e : x.num = y.num) : x = y := by
  obtain ⟨i, hi⟩ := List.mem_iff_getElem?.1 hx
  obtain ⟨j, hj⟩ := List.mem_iff_getElem?.1 hy
  obtain ⟨hi1, hi2⟩ := List.getElem?_eq_some_iff.1 hi
  obtain ⟨hj1, hj2⟩ := List.getElem?_eq_some_iff.1 hj
  have hp := List.pairwise_iff_getElem.1 h
  rcases Nat.lt_trichotomy i j with h1 | h1 | h1
  · have := hp i j hi1 hj1 h1; rw [hi2, hj2] at this; omega
  · subst h1; rw [← hi2, ← hj2]
  · have := hp j i hj1 hi1 h1; rw [hi2, hj2] at this; omega
theorem get_iff (h : l.Pairwise fun x y => x.num < y.num) : getB l k = some x ↔ x ∈ l ∧ x.num = k := by
  constructor
  · intro hg; exact ⟨(get_yes hg).1, (get_yes hg).2.1⟩
  · rintro ⟨hm, rfl⟩
    cases hg : getB l x.num with
    | none =>
      have := get_none hg
      have hh : hasB l x.num = true := List.any_eq_true.2 ⟨x, hm, decide_eq_true rfl⟩
      rw [hh] at this; cases this
    | some y => rw [rise_inj h (get_yes hg).1 hm (get_yes hg).2.1]
theorem get_no : getB l k = none ↔ ∀ x ∈ l, x.num ≠ k := by
  unfold getB
  rw [List.find?_eq_none]
  simp
theorem ris_iff : ∀ (l : List Port) (c : Int), risB c l = true ↔ (l.Pairwise fun x y => x.num < y.num) ∧ ∀ x ∈ l, c < x.num ∧ x.num ≤ 32 ∧ vcpuB x.vcpu = true
  | [], _ => by simp [risB]
  | a :: l, c => by
    rw [risB, List.pairwise_cons]
    simp only [Bool.and_eq_true, decide_eq_true_eq, ris_iff l a.num, List.mem_cons, forall_eq_or_imp]
    constructor
    · rintro ⟨⟨⟨h1, h2⟩, h3⟩, h4, h5⟩
      exact ⟨⟨fun y hy => (h5 y hy).1, h4⟩, ⟨h1, h2, h3⟩, fun y hy => ⟨by have := (h5 y hy).1; omega, (h5 y hy).2⟩⟩
    · rintro ⟨⟨h1, h2⟩, ⟨h3, h4, h5⟩, h6⟩
      exact ⟨⟨⟨h3, h4⟩, h5⟩, h2, fun y hy => ⟨h1 y hy, (h6 y hy).2⟩⟩
theorem right_iff : rightB l = true ↔ Good l := by
  unfold rightB
  rw [Bool.and_eq_true, List.all_eq_true, ris_iff]
  have key : (l.Pairwise fun x y => x.num < y.num) → ∀ x ∈ l, (linkB l x = true ↔ (x.peer = 0 ∨ ∃ y ∈ l, y.num = x.peer ∧ y.peer = x.num ∧ y.num ≠ x.num)) := by
    intro hp x hx
    by_cases h0 : x.peer = 0
    · rw [link_zero h0]; simp [h0]
    · cases hg : getB l x.peer with
      | none =>
        rw [link_none h0 hg]
        have := get_no.1 hg
        simp only [Bool.false_eq_true, false_iff, not_or, not_exists, not_and]
        exact ⟨h0, fun y hy e => absurd e (this y hy)⟩
      | some y =>
        rw [link_some h0 hg]
        obtain ⟨hy, hn⟩ := (get_iff hp).1 hg
        simp only [Bool.and_eq_true, decide_eq_true_eq, Bool.not_eq_true', decide_eq_false_iff_not]
        constructor
        · rintro ⟨a, b⟩; exact .inr ⟨y, hy, hn, a, b⟩
        · rintro (a | ⟨y', hy', a, b, c⟩)
          · exact absurd a h0
          · have : y' = y := rise_inj hp hy' hy (by omega)
            subst this; exact ⟨b, c⟩
  constructor
  · rintro ⟨⟨h1, h2⟩, h3⟩
    exact ⟨h1, fun x hx => ⟨by have := (h2 x hx).1; omega, (h2 x hx).2⟩, fun x hx => (key h1 x hx).1 (h3 x hx)⟩
  · rintro ⟨h1, h2, h3⟩
    exact ⟨⟨h1, fun x hx => ⟨by have := (h2 x hx).1; omega, (h2 x hx).2⟩⟩, fun x hx => (key h1 x hx).2 (h3 x hx)⟩
theorem good_map (h : Good l) (h1 : ∀ x ∈ l, (f x).num = x.num ∧ (f x).peer = x.peer ∧ vcpuB (f x).vcpu = true) : Good (l.map f) := by
  refine ⟨?_, fun y hy => ?_, fun y hy => ?_⟩
  · rw [List.pairwise_map]
    refine List.Pairwise.imp_of_mem (fun {a b} ha hb hab => ?_) h.rise
    rw [(h1 a ha).1, (h1 b hb).1]; exact hab
  · obtain ⟨x, hx, rfl⟩ := List.mem_map.1 hy
    rw [(h1 x hx).1]
    exact ⟨(h.num x hx).1, (h.num x hx).2.1, (h1 x hx).2.2⟩
  · obtain ⟨x, hx, rfl⟩ := List.mem_map.1 hy
    rw [(h1 x hx).1, (h1 x hx).2.1]
    rcases h.peer x hx with h0 | ⟨y, hy, a, b, c⟩
    · exact .inl h0
    · exact .inr ⟨f y, List.mem_map.2 ⟨y, hy, rfl⟩, by rw [(h1 y hy).1]; exact a, by rw [(h1 y hy).2.1]; exact b, by rw [(h1 y hy).1]; exact c⟩
/-- One port put in the place of another. -/
def putF (z : Port) (x : Port) : Port := if x.num = z.num then z else x
theorem set_put (h : Good l) (hx : getB l z.num = some x) : l.set (posB l z.num) z = l.map (putF z) := by
  have ha : Asc l := fun i j a b hij hi hj => by
    obtain ⟨hi1, hi2⟩ := List.getElem?_eq_some_iff.1 hi
    obtain ⟨hj1, hj2⟩ := List.getElem?_eq_some_iff.1 hj
    have := List.pairwise_iff_getElem.1 h.rise i j hi1 hj1 hij
    rwa [hi2, hj2] at this
  obtain ⟨h1, h2⟩ := get_pos ha hx
  have hn := (get_yes hx).2.1
  apply List.ext_getElem?
  intro i
  rw [List.getElem?_set, List.getElem?_map]
  by_cases hi : posB l z.num = i
  · subst hi
    rw [if_pos rfl, if_pos h2, h1]
    simp [putF, hn]
  · rw [if_neg hi]
    rcases he : l[i]? with _ | y
    · rfl
    · have : ¬ y.num = z.num := fun e => by
        rcases Nat.lt_trichotomy (posB l z.num) i with h3 | h3 | h3
        · have := ha _ _ _ _ h3 h1 he; omega
        · exact hi h3
        · have := ha _ _ _ _ h3 he h1; omega
      simp [putF, this]
theorem good_put (h : Good l) (hx : x ∈ l) (hn : z.num = x.num) (hp : z.peer = x.peer) (hv : vcpuB z.vcpu = true) : Good (l.map (putF z)) := by
  refine good_map h fun y hy => ?_
  unfold putF
  by_cases e : y.num = z.num
  · have : y = x := rise_inj h.rise hy hx (by omega)
    subst this
    rw [if_pos e]; exact ⟨hn, hp, hv⟩
  · rw [if_neg e]; exact ⟨rfl, rfl, (h.num y hy).2.2⟩
theorem mem_put (h : Good l) (hx : x ∈ l) (hn : z.num = x.num) : y ∈ l.map (putF z) ↔ y = z ∨ (y ∈ l ∧ y.num ≠ z.num) := by
  rw [List.mem_map]
  constructor
  · rintro ⟨a, ha, rfl⟩
    unfold putF
    by_cases e : a.num = z.num
    · rw [if_pos e]; exact .inl rfl
    · rw [if_neg e]; exact .inr ⟨ha, e⟩
  · rintro (rfl | ⟨hy, e⟩)
    · exact ⟨x, hx, by unfold putF; rw [if_pos hn.symm]⟩
    · exact ⟨y, hy, by unfold putF; rw [if_neg e]⟩
/-! ### removing -/
theorem such_num (h : Good l) (hx : x ∈ l) : x.num ∈ suchL p l ↔ p x = true := by
  unfold suchL
  rw [List.mem_map]
  constructor
  · rintro ⟨y, hy, e⟩
    obtain ⟨hm, hp⟩ := List.mem_filter.1 hy
    rw [rise_inj h.rise hx hm e.symm]; exact hp
  · intro hp; exact ⟨x, List.mem_filter.2 ⟨hx, hp⟩, rfl⟩
theorem mem_such : k ∈ suchL p l ↔ ∃ x ∈ l, p x = true ∧ x.num = k := by
  unfold suchL
  rw [List.mem_map]
  constructor
  · rintro ⟨y, hy, e⟩
    obtain ⟨hm, hp⟩ := List.mem_filter.1 hy
    exact ⟨y, hm, hp, e⟩
  · rintro ⟨y, hm, hp, e⟩; exact ⟨y, List.mem_filter.2 ⟨hm, hp⟩, e⟩
theorem unl_num {g : List Int} : (unl g x).num = x.num := by unfold unl; split <;> rfl
theorem unl_vcpu {g : List Int} : (unl g x).vcpu = x.vcpu := by unfold unl; split <;> rfl
theorem unl_pending {g : List Int} : (unl g x).pending = x.pending := by unfold unl; split <;> rfl
theorem unl_masked {g : List Int} : (unl g x).masked = x.masked := by unfold unl; split <;> rfl
theorem unl_peer {g : List Int} : (unl g x).peer = if x.peer ∈ g then 0 else x.peer := by unfold unl; split <;> rfl
theorem mem_remove : y ∈ removeV p l ↔ ∃ x ∈ l, p x = false ∧ y = unl (suchL p l) x := by
  unfold removeV
  rw [List.mem_map]
  constructor
  · rintro ⟨x, hx, rfl⟩
    obtain ⟨hm, hp⟩ := List.mem_filter.1 hx
    exact ⟨x, hm, by simpa using hp, rfl⟩
  · rintro ⟨x, hm, hp, rfl⟩; exact ⟨x, List.mem_filter.2 ⟨hm, by simp [hp]⟩, rfl⟩
theorem good_remove (h : Good l) : Good (removeV p l) := by
  refine ⟨?_, fun y hy => ?_, fun y hy => ?_⟩
  · unfold removeV
    rw [List.pairwise_map]
    refine List.Pairwise.imp (fun {a b} hab => ?_) (h.rise.filter _)
    rw [unl_num, unl_num]; exact hab
  · obtain ⟨x, hx, _, rfl⟩ := mem_remove.1 hy
    rw [unl_num, unl_vcpu]; exact h.num x hx
  · obtain ⟨x, hx, hp, rfl⟩ := mem_remove.1 hy
    rw [unl_num, unl_peer]
    split
    · exact .inl rfl
    · rename_i hne
      rcases h.peer x hx with h0 | ⟨z, hz, a, b, c⟩
      · exact .inl h0
      · right
        have hz2 : p z = false := by
          cases hpz : p z with
          | false => rfl
          | true => exact absurd (mem_such.2 ⟨z, hz, hpz, a⟩) hne
        refine ⟨unl (suchL p l) z, mem_remove.2 ⟨z, hz, hz2, rfl⟩, by rw [unl_num]; exact a, ?_, by rw [unl_num]; exact c⟩
        rw [unl_peer, if_neg]
        · exact b
        · intro hm
          rw [b] at hm
          rw [such_num h hx] at hm
          rw [hp] at hm; cases hm
/-! ### opening -/
theorem openI_spec : ∀ (l : List Port) (c : Nat), risB (c : Int) l = true → ∃ i, i ≤ l.length ∧ openI l c = c + i ∧ (∀ x ∈ l.take i, x.num < ((c + i + 1 : Nat) : Int)) ∧ (∀ x ∈ l.drop i, ((c + i + 1 : Nat) : Int) < x.num) ∧ ∀ n : Int, (c : Int) < n → n < ((c + i + 1 : Nat) : Int) → ∃ x ∈ l, x.num = n
  | [], c, _ => ⟨0, Nat.le_refl _, rfl, fun _ h => by simp at h, fun _ h => by simp at h, fun n h1 h2 => by omega⟩
  | a :: l, c, h => by
    have h' := (ris_iff (a :: l) c).1 h
    rw [risB] at h
    simp only [Bool.and_eq_true, decide_eq_true_eq] at h
    by_cases e : a.num = ((c + 1 : Nat) : Int)
    · have h2 := h.2
      rw [e] at h2
      obtain ⟨i, hi, ho, h3, h4, h5⟩ := openI_spec l (c + 1) h2
      refine ⟨i + 1, by simp; omega, by rw [openI, if_pos e, ho]; omega, fun x hx => ?_, fun x hx => ?_, fun n hn1 hn2 => ?_⟩
      · rw [List.take_succ_cons] at hx
        rcases List.mem_cons.1 hx with rfl | hx
        · omega
        · have := h3 x hx; omega
      · rw [List.drop_succ_cons] at hx
        have := h4 x hx; omega
      · by_cases hn : n = a.num
        · exact ⟨a, List.mem_cons_self .., hn.symm⟩
        · obtain ⟨x, hx, hxn⟩ := h5 n (by omega) (by omega)
          exact ⟨x, List.mem_cons_of_mem _ hx, hxn⟩
    · refine ⟨0, Nat.zero_le _, by rw [openI, if_neg e]; rfl, fun _ h => by simp at h, fun x hx => ?_, fun n h1 h2 => by omega⟩
      rw [List.drop_zero] at hx
      have ha := h.1.1.1
      rcases List.mem_cons.1 hx with rfl | hx
      · omega
      · have := (ris_mem l a.num h.2 x hx).1; omega
theorem good_open (h : Good l) (hv : vcpuB own = true) (h32 : ¬ openI l 0 = 32) : Good (l.take (openI l 0) ++ [⟨((openI l 0 + 1 : Nat) : Int), own, 0, false, false⟩] ++ l.drop (openI l 0)) ∧ openI l 0 < 32 ∧ ∀ x ∈ l, x.num ≠ ((openI l 0 + 1 : Nat) : Int) := by
  obtain ⟨i, hi, ho, h3, h4, h5⟩ := openI_spec l 0 (by rw [← right_iff] at h; exact right_ris h)
  rw [Nat.zero_add] at ho h3 h4 h5
  have hi32 : i ≤ 32 := by
    by_cases h0 : i = 0
    · omega
    · obtain ⟨x, hx, hn⟩ := h5 i (by omega) (by omega)
      have := (h.num x hx).2.1; omega
  rw [ho] at h32 ⊢
  have hne : ∀ x ∈ l, x.num ≠ ((i + 1 : Nat) : Int) := fun x hx => by
    rw [← List.take_append_drop i l] at hx
    rcases List.mem_append.1 hx with hx | hx
    · have := h3 x hx; omega
    · have := h4 x hx; omega
  refine ⟨⟨?_, fun x hx => ?_, fun x hx => ?_⟩, by omega, hne⟩
  · rw [List.append_assoc, List.pairwise_append, List.pairwise_append]
    have hp := h.rise
    rw [← List.take_append_drop i l, List.pairwise_append] at hp
    refine ⟨hp.1, ⟨by simp, hp.2.1, fun a ha b hb => ?_⟩, fun a ha b hb => ?_⟩
    · rcases List.mem_singleton.1 ha with rfl; exact h4 b hb
    · rcases List.mem_append.1 hb with hb | hb
      · rcases List.mem_singleton.1 hb with rfl; exact h3 a ha
      · exact hp.2.2 a ha b hb
  · rcases List.mem_append.1 hx with hx | hx
    · rcases List.mem_append.1 hx with hx | hx
      · exact h.num x (List.mem_of_mem_take hx)
      · rcases List.mem_singleton.1 hx with rfl; exact ⟨show (1 : Int) ≤ ((i + 1 : Nat) : Int) by omega, show ((i + 1 : Nat) : Int) ≤ 32 by omega, hv⟩
    · exact h.num x (List.mem_of_mem_drop hx)
  · have hup : ∀ y ∈ l, y ∈ l.take i ++ [⟨((i + 1 : Nat) : Int), own, 0, false, false⟩] ++ l.drop i := fun y hy => by
      rw [← List.take_append_drop i l] at hy
      rcases List.mem_append.1 hy with hy | hy
      · simp [hy]
      · simp [hy]
    have old : ∀ y ∈ l, y.peer = 0 ∨ ∃ z ∈ l.take i ++ [⟨((i + 1 : Nat) : Int), own, 0, false, false⟩] ++ l.drop i, z.num = y.peer ∧ z.peer = y.num ∧ z.num ≠ y.num := fun y hy => by
      rcases h.peer y hy with h0 | ⟨z, hz, a, b, c⟩
      · exact .inl h0
      · exact .inr ⟨z, hup z hz, a, b, c⟩
    rcases List.mem_append.1 hx with hx | hx
    · rcases List.mem_append.1 hx with hx | hx
      · exact old x (List.mem_of_mem_take hx)
      · rcases List.mem_singleton.1 hx with rfl; exact .inl rfl
    · exact old x (List.mem_of_mem_drop hx)
theorem mem_open {i : Nat} {z : Port} : y ∈ l.take i ++ [z] ++ l.drop i ↔ y ∈ l ∨ y = z := by
  have : y ∈ l ↔ y ∈ l.take i ∨ y ∈ l.drop i := by
    conv => lhs; rw [← List.take_append_drop i l]
    exact List.mem_append
  rw [this]
  simp only [List.mem_append, List.mem_singleton]
  constructor
  · rintro ((h | h) | h)
    · exact .inl (.inl h)
    · exact .inr h
    · exact .inl (.inr h)
  · rintro ((h | h) | h)
    · exact .inl (.inl h)
    · exact .inr h
    · exact .inl (.inr h)
end
end Go.Proofs.Ytfhlmijdokfdpaa

/-! The walker: maps of one's own with whole numbers for keys. -/
namespace Go.Proofs.Ytfhlmijdokfdpaa
open Go Go.RowKit

/-- What a map holds: its entries, the oldest first. -/
def mget {β : Type} : List (Int × β) → Int → Option β
  | [], _ => none
  | p :: D, k => if p.1 = k then some p.2 else mget D k
def mupd {β : Type} : List (Int × β) → Int → β → List (Int × β)
  | [], k, v => [(k, v)]
  | p :: D, k, v => if p.1 = k then (k, v) :: D else p :: mupd D k v
structure MapIs {β : Type} (ik : IntKind) (enc : β → Value) (es : Array MapEntry) (D : List (Int × β)) : Prop where
  keys : es.toList.map (fun e => (e.key, e.val)) = D.map fun p => (.int ik p.1, enc p.2)
section
variable {β : Type} {ik : IntKind} {enc : β → Value} {es : Array MapEntry} {D : List (Int × β)} {k : Int} {v : β} {ck : Nat}
theorem MapIs.nil : MapIs ik enc #[] ([] : List (Int × β)) := ⟨rfl⟩
theorem MapIs.size (h : MapIs ik enc es D) : es.size = D.length := by
  have := congrArg List.length h.keys
  simpa using this
theorem findNow_is : ∀ (l : List MapEntry) (D : List (Int × β)) (i : Nat), l.map (fun e => (e.key, e.val)) = D.map (fun p => (Value.int ik p.1, enc p.2)) →
    (Instr.findNow (.int ik) (.int ik k) l i = some none ∧ mget D k = none ∧ ∀ u, mupd D k u = D ++ [(k, u)]) ∨
    ∃ j b, Instr.findNow (.int ik) (.int ik k) l i = some (some (i + j, enc b)) ∧ mget D k = some b ∧ j < D.length ∧ (D[j]?).map (·.1) = some k ∧ ∀ u, mupd D k u = D.set j (k, u)
  | [], [], i, _ => .inl ⟨rfl, rfl, fun _ => rfl⟩
  | [], _ :: _, _, h => by simp at h
  | _ :: _, [], _, h => by simp at h
  | e :: l, p :: D, i, h => by
    simp only [List.map_cons, List.cons.injEq, Prod.mk.injEq] at h
    obtain ⟨⟨h1, h2⟩, h3⟩ := h
    by_cases hk : k = p.1
    · subst hk
      right
      refine ⟨0, p.2, ?_, by simp [mget], by simp, by simp, fun u => by simp [mupd]⟩
      simp [Instr.findNow, h1, Instr.sameNow, h2]
    · have hb : (k == p.1) = false := by simpa using hk
      have hk' : ¬ p.1 = k := fun e => hk e.symm
      rcases findNow_is l D (i + 1) h3 with ⟨a, b, c⟩ | ⟨j, b, a, c, d, e1, f⟩
      · left
        refine ⟨?_, by simp [mget, hk', b], fun u => by simp [mupd, hk', c u]⟩
        simp [Instr.findNow, h1, Instr.sameNow, hb, a]
      · right
        refine ⟨j + 1, b, ?_, by simp [mget, hk', c], by simp; omega, by simpa using e1, fun u => by simp [mupd, hk', f u]⟩
        simp only [Instr.findNow, h1, Instr.sameNow, if_true, hb, a]
        rw [show i + 1 + j = i + (j + 1) by omega]
variable {P : Program} {w : World} {t kt et : TypeId} {r : Nat}
theorem keys_ok (h : MapIs ik enc es D) : ∀ x ∈ es.toList, MapKept.IsKey (.int ik) x.key := fun x hx => by
  have : (x.key, x.val) ∈ es.toList.map (fun e => (e.key, e.val)) := List.mem_map.2 ⟨x, hx, rfl⟩
  rw [h.keys] at this
  obtain ⟨p, _, hp⟩ := List.mem_map.1 this
  have hk : x.key = .int ik p.1 := (congrArg Prod.fst hp).symm
  rw [hk]; rfl
theorem run_lookupM (ht : P.underlying t = some (.map kt et)) (hk : P.underlying kt = some (.int ik)) {i : TypeInfo} {z : Value} (hi : P.info? et = some i) (hz : i.zero = some z) (hb : w.heap[r]? = some (.map es ck)) (hM : MapIs ik enc es D) (c : Bool) :
    (Instr.lookup t (.map (some r)) (.int ik k) c).run P w = .ok (if c then .tuple #[((mget D k).map enc).getD z, .bool (mget D k).isSome] else ((mget D k).map enc).getD z) w := by
  have hck : ∀ e, (Instr.checkKey e 10000 kt (.int ik k)).run P w = .ok () w := fun e => MapKept.run_checkKey (n := 9999) hk (show MapKept.IsKey (.int ik) (.int ik k) from rfl) e
  rcases findNow_is es.toList D 0 hM.keys (k := k) with ⟨a, b, _⟩ | ⟨j, b, a, c', _, _, _⟩
  · have hf := MapKept.run_findKey (P := P) (w := w) (kt := kt) hk a
    cases c <;> simp [Instr.lookup, run_underlying ht, MapKept.run_getObj_map hb, hck, hf, zeroValue, typeInfo, hi, hz, b]
  · have hf := MapKept.run_findKey (P := P) (w := w) (kt := kt) hk a
    cases c <;> simp [Instr.lookup, run_underlying ht, MapKept.run_getObj_map hb, hck, hf, c']
theorem run_updateM (ht : P.underlying t = some (.map kt et)) (hk : P.underlying kt = some (.int ik)) (hb : w.heap[r]? = some (.map es ck)) (hM : MapIs ik enc es D) (v : β) :
    ∃ es' ck', (Instr.mapUpdate t (.map (some r)) (.int ik k) (enc v)).run P w = .ok () { w with heap := w.heap.setIfInBounds r (.map es' ck') } ∧ MapIs ik enc es' (mupd D k v) := by
  have hkk : MapKept.IsKey (.int ik) (.int ik k) := rfl
  have hck : ∀ e, (Instr.checkKey e 10000 kt (.int ik k)).run P w = .ok () w := fun e => MapKept.run_checkKey (n := 9999) hk hkk e
  rcases findNow_is es.toList D 0 hM.keys (k := k) with ⟨a, _, b⟩ | ⟨j, b, a, c', hj, hjk, d⟩
  · have hf := MapKept.run_findKey (P := P) (w := w) (kt := kt) hk a
    refine ⟨es.push ⟨.int ik k, enc v, ck⟩, ck + 1, ?_, ⟨?_⟩⟩
    · simp [Instr.mapUpdate, run_underlying ht, MapKept.run_getObj_map hb, hck, hf, MapKept.run_setObj_map _ hb]
    · rw [b v, Array.toList_push, List.map_append, List.map_append, hM.keys]; rfl
  · have hf := MapKept.run_findKey (P := P) (w := w) (kt := kt) hk a
    have hsz := hM.size
    have hjs : j < es.size := by omega
    have hkey : es[j].key = .int ik k := by
      have h1 := congrArg (fun z => z[j]?) hM.keys
      simp only [List.getElem?_map, Array.getElem?_toList, Array.getElem?_eq_getElem hjs, Option.map_some] at h1
      rcases hD : D[j]? with _ | p
      · rw [hD] at hjk; cases hjk
      · rw [hD] at hjk h1
        simp only [Option.map_some, Option.some.injEq, Prod.mk.injEq] at hjk h1
        rw [h1.1, hjk]
    refine ⟨es.modify j fun e => { e with key := .int ik k, val := enc v }, ck, ?_, ⟨?_⟩⟩
    · have hj2 : es[j]? = some es[j] := Array.getElem?_eq_getElem hjs
      simp only [Nat.zero_add] at hf
      simp [Instr.mapUpdate, run_underlying ht, MapKept.run_getObj_map hb, hck, hf, hj2, hkey, MapKept.run_keyThatStays hkk, MapKept.run_setObj_map _ hb]
    · rw [d v]
      apply List.ext_getElem?
      intro i
      rw [List.getElem?_map, List.getElem?_map, Array.getElem?_toList, Array.getElem?_modify, List.getElem?_set]
      have h1 := congrArg (fun z => z[i]?) hM.keys
      simp only [List.getElem?_map, Array.getElem?_toList] at h1
      by_cases hij : j = i
      · subst hij
        rw [if_pos rfl, if_pos rfl, if_pos hj, Array.getElem?_eq_getElem hjs]; rfl
      · rw [if_neg hij, if_neg hij, h1]
end

section
variable {E : Env} {k : List Fr} {l : Sl} {L : List Ob} {all os : List Oper} {o : Oper} {i : Nat}
/-- A map's type, asked by the kernel. -/
def mapB (P : Program) (t : TypeId) (ik : IntKind) (z : Value) : Prop := ∃ kt et, P.underlying t = some (.map kt et) ∧ P.underlying kt = some (.int ik) ∧ (P.info? et).bind (fun i => i.zero) = some z
theorem map_getD {β : Type} (f : β → Value) (o : Option β) (z : β) : (o.map f).getD (f z) = f (o.getD z) := by cases o <;> rfl
theorem ops_lookup {β : Type} {ik : IntKind} {enc : β → Value} {es : Array MapEntry} {ck : Nat} {D : List (Int × β)} (j : Nat) {t : TypeId} {x y : Operand} {c : Bool} {g : Nat} {kk : Int} (z u : Value) (ho : o.op = .lookup t x y c) (hw : wantL all l o = some true) (hd : (okD E.n o.dst && knownO l o) = true)
    (hx : look l x = .map (some g)) (hy : look l y = .int ik kk) (hT : mapB E.P t ik z) (hj : L[j]? = some (g, .map es ck)) (hM : MapIs ik enc es D) (hu : (if c then .tuple #[((mget D kk).map enc).getD z, .bool (mget D kk).isSome] else ((mget D kk).map enc).getD z) = u)
    (h : Ops E k all os (i + 1) (putL o.dst u l) L) : Ops E k all (o :: os) i l L := by
  obtain ⟨kt, et, h1, h2, h34⟩ := hT
  obtain ⟨inf, h3, h4⟩ := Option.bind_eq_some_iff.1 h34
  refine ⟨fun a w ha hs => ?_⟩
  simp only [Bool.and_eq_true] at hd
  have hg := wantL_spec ha hw
  refine wpListIn_step fun K hK => ?_
  rw [if_pos hg]
  refine ⟨fun _ _ => trivial, ?_⟩
  rw [Oper.semAt_eq _ _ _ (fun c e => by rw [ho] at e; cases e), look_exec ha hd.2]
  have hr := run_lookupM h1 h2 h3 h4 (hs.row j hj) hM (k := kk) c
  have e : (execOp (look l) o).run E.P w = .ok (.value u) w := by
    simp [execOp, ho, hx, hy, hr, hu]
  rw [e]
  exact hK _ _ (h.out _ _ (ha.put hd.1 _) hs)
theorem ops_update {β : Type} {ik : IntKind} {enc : β → Value} {es : Array MapEntry} {ck : Nat} {D : List (Int × β)} (j : Nat) {t : TypeId} {x y v : Operand} {g : Nat} {kk : Int} (b : β) (z : Value) (ho : o.op = .mapUpdate t x y v) (hw : wantL all l o = some true) (hd : (okD E.n o.dst && knownO l o) = true)
    (hx : look l x = .map (some g)) (hy : look l y = .int ik kk) (hv : look l v = enc b) (hT : mapB E.P t ik z) (hj : L[j]? = some (g, .map es ck)) (hM : MapIs ik enc es D)
    (h : ∀ es' ck', MapIs ik enc es' (mupd D kk b) → Ops E k all os (i + 1) (putL o.dst undef l) (L.set j (g, .map es' ck'))) : Ops E k all (o :: os) i l L := by
  obtain ⟨kt, et, h1, h2, h34⟩ := hT
  obtain ⟨inf, h3, h4⟩ := Option.bind_eq_some_iff.1 h34
  refine ⟨fun a w ha hs => ?_⟩
  simp only [Bool.and_eq_true] at hd
  have hg := wantL_spec ha hw
  refine wpListIn_step fun K hK => ?_
  rw [if_pos hg]
  refine ⟨fun _ _ => trivial, ?_⟩
  rw [Oper.semAt_eq _ _ _ (fun c e => by rw [ho] at e; cases e), look_exec ha hd.2]
  obtain ⟨es', ck', hr, hM'⟩ := run_updateM h1 h2 (hs.row j hj) hM (k := kk) b
  have e : (execOp (look l) o).run E.P w = .ok .skip { w with heap := w.heap.setIfInBounds g (.map es' ck') } := by
    simp [execOp, ho, hx, hy, hv, hr]
  rw [e]
  exact hK _ _ ((h es' ck' hM').out _ _ (ha.put hd.1 _) (hs.turn j hj (turn_obj (hs.row j hj) _)))
end
end Go.Proofs.Ytfhlmijdokfdpaa

/-! Ports: what an op does, told by what is in the rows. -/
namespace Go.Proofs.Ytfhlmijdokfdpaa
open Go Go.RowKit

section
variable {l : List Port} {k n own a b : Int} {x y z : Port} {f : Port → Port} {p : Port → Bool} {o : OpA}
theorem kd_range (k : Int) : 0 ≤ kdI k ∧ kdI k < 12 := by
  unfold kdI
  have h : 0 ≤ IntKind.u64.wrap k := by
    simp only [IntKind.wrap, IntKind.bits, IntKind.signed]
    simp only [Bool.false_and, Bool.false_eq_true, if_false]
    exact Int.emod_nonneg _ (by decide)
  rw [Int.tmod_eq_emod_of_nonneg h]
  omega
theorem get_map (h : Good l) (hf : ∀ x ∈ l, (f x).num = x.num) (hx : x ∈ l) : getB (l.map f) x.num = some (f x) := by
  have hp : (l.map f).Pairwise fun x y => x.num < y.num := by
    rw [List.pairwise_map]
    refine List.Pairwise.imp_of_mem (fun {a b} ha hb hab => ?_) h.rise
    rw [hf a ha, hf b hb]; exact hab
  exact (get_iff hp).2 ⟨List.mem_map.2 ⟨x, hx, rfl⟩, hf x hx⟩
theorem get_remove (h : Good l) (hx : x ∈ l) : getB (removeV p l) x.num = if p x = true then none else some (unl (suchL p l) x) := by
  have hg := good_remove (p := p) h
  split
  · rename_i hp
    rw [get_no]
    intro y hy e
    obtain ⟨z, hz, hpz, rfl⟩ := mem_remove.1 hy
    rw [unl_num] at e
    rw [rise_inj h.rise hz hx e, hp] at hpz; cases hpz
  · rename_i hp
    exact (get_iff hg.rise).2 ⟨mem_remove.2 ⟨x, hx, by simpa using hp, rfl⟩, unl_num⟩
/-! ### what each mover leaves, where there is no error -/
theorem open_good (h : Good l) (he : (openV l own).2.2 = 0) : vcpuB own = true ∧ ¬ openI l 0 = 32 ∧ openV l own = (l.take (openI l 0) ++ [⟨((openI l 0 + 1 : Nat) : Int), own, 0, false, false⟩] ++ l.drop (openI l 0), ((openI l 0 + 1 : Nat) : Int), 0) := by
  have hr := right_iff.2 h
  unfold openV at he ⊢
  rw [if_pos hr] at he ⊢
  by_cases hv : vcpuB own = true
  · rw [if_pos hv] at he ⊢
    by_cases h32 : openI l 0 = 32
    · rw [if_pos h32] at he; cases he
    · rw [if_neg h32]; exact ⟨hv, h32, rfl⟩
  · rw [if_neg hv] at he; cases he
def linF (a b : Int) (x : Port) : Port := if x.num = a then ⟨x.num, x.vcpu, b, x.pending, x.masked⟩ else if x.num = b then ⟨x.num, x.vcpu, a, x.pending, x.masked⟩ else x
theorem link_good (h : Good l) (he : (linkV l a b).2 = 0) : ∃ x y, x ∈ l ∧ y ∈ l ∧ x.num = a ∧ y.num = b ∧ a ≠ b ∧ x.peer = 0 ∧ y.peer = 0 ∧ linkV l a b = (l.map (linF a b), 0) := by
  have hr := right_iff.2 h
  unfold linkV at he ⊢
  rw [if_pos hr] at he ⊢
  cases hx : getB l a with
  | none => rw [hx] at he; cases he
  | some x =>
    rw [hx] at he
    cases hy : getB l b with
    | none => rw [hy] at he; cases he
    | some y =>
      rw [hy] at he
      simp only at he ⊢
      by_cases e : a = b
      · rw [if_pos e] at he; cases he
      · rw [if_neg e] at he ⊢
        by_cases e0 : x.peer = 0 ∧ y.peer = 0
        · rw [if_pos e0]
          obtain ⟨hx1, hx2⟩ := (get_iff h.rise).1 hx
          obtain ⟨hy1, hy2⟩ := (get_iff h.rise).1 hy
          refine ⟨x, y, hx1, hy1, hx2, hy2, e, e0.1, e0.2, ?_⟩
          congr 1
          have s1 := set_put (z := ⟨x.num, x.vcpu, b, x.pending, x.masked⟩) h (x := x) (by simp only; rw [hx2]; exact hx)
          simp only [hx2] at s1
          rw [hx2, s1]
          have hg2 : l.map (putF ⟨a, x.vcpu, b, x.pending, x.masked⟩) = (l.map (putF ⟨a, x.vcpu, b, x.pending, x.masked⟩)) := rfl
          -- the second one: places are as they were
          have hnum : ∀ u : Port, (putF ⟨a, x.vcpu, b, x.pending, x.masked⟩ u).num = u.num := fun u => by unfold putF; split <;> simp_all
          have hpos : posB (l.map (putF ⟨a, x.vcpu, b, x.pending, x.masked⟩)) b = posB l b := by
            unfold posB
            rw [List.takeWhile_map, List.length_map]
            congr 2
            funext u
            simp [hnum]
          rw [← hpos]
          apply List.ext_getElem?
          intro i
          have hra := ris_asc l 0 (right_ris hr)
          obtain ⟨p1, p2⟩ := get_pos hra hy
          rw [hpos, List.getElem?_set, List.getElem?_map]
          by_cases hi : posB l b = i
          · subst hi
            rw [if_pos rfl, if_pos (by simpa using p2), List.getElem?_map, p1]
            simp [linF, hy2, Ne.symm e]
          · rw [if_neg hi, List.getElem?_map]
            rcases hu : l[i]? with _ | u
            · rfl
            · have hub : ¬ u.num = b := fun eu => by
                rcases Nat.lt_trichotomy (posB l b) i with h3 | h3 | h3
                · have := hra _ _ _ _ h3 p1 hu; omega
                · exact hi h3
                · have := hra _ _ _ _ h3 hu p1; omega
              by_cases hua : u.num = a
              · have : u = x := rise_inj h.rise (List.mem_of_getElem? hu) hx1 (by omega)
                subst this
                simp [putF, linF, hua]
              · simp [putF, linF, hua, hub]
        · rw [if_neg e0] at he; cases he
theorem close_good (h : Good l) (he : (closeV l k).2 = 0) : closeV l k = (removeV (isNum k) l, 0) := by
  have hr := right_iff.2 h
  unfold closeV at he ⊢
  rw [if_pos hr] at he ⊢
  split at he
  · cases he
  · rename_i hn; rw [if_neg hn]
theorem drop_good (h : Good l) (he : (dropV l own).2.2 = 0) : (dropV l own).1 = removeV (isOwn own) l := by
  have hr := right_iff.2 h
  unfold dropV at he ⊢
  rw [if_pos hr] at he ⊢
  split at he
  · rename_i hn; rw [if_pos hn]
  · cases he
def waN (y z : Port) : Int := if dueB z = true ∧ (dueB y = false ∨ y.vcpu ≠ z.vcpu) then z.vcpu else 0
theorem turnP_map (h : Good l) (hy : y ∈ l) (hn : z.num = y.num) : turnP l y z = (l.map (putF z), waN y z, 0) := by
  unfold turnP waN
  have := set_put (z := z) h (x := y) (by rw [hn]; exact (get_iff h.rise).2 ⟨hy, rfl⟩)
  rw [← hn, this]
theorem send_good (h : Good l) (he : (sendV l k).2.2 = 0) : ∃ x y, x ∈ l ∧ y ∈ l ∧ x.num = k ∧ x.peer = y.num ∧ y.peer = k ∧ sendV l k = (l.map (putF (raiF y)), waN y (raiF y), 0) := by
  have hr := right_iff.2 h
  cases hx : getB l k with
  | none => rw [sendV_none hr hx] at he; cases he
  | some x =>
    by_cases h0 : x.peer = 0
    · rw [sendV_alone hr hx h0] at he; cases he
    · obtain ⟨hx1, hx2⟩ := (get_iff h.rise).1 hx
      rcases h.peer x hx1 with h1 | ⟨y, hy, h1, h2, h3⟩
      · exact absurd h1 h0
      · refine ⟨x, y, hx1, hy, hx2, h1.symm, by omega, ?_⟩
        rw [sendV_ok hr hx h0 ((get_iff h.rise).2 ⟨hy, h1⟩)]
        exact turnP_map h hy rfl
theorem turn_good (h : Good l) (hf : ∀ x, (f x).num = x.num) (he : (turnV l k f).2.2 = 0) : ∃ x, x ∈ l ∧ x.num = k ∧ turnV l k f = (l.map (putF (f x)), waN x (f x), 0) := by
  have hr := right_iff.2 h
  cases hx : getB l k with
  | none => rw [turnV_none hr hx] at he; cases he
  | some x =>
    obtain ⟨hx1, hx2⟩ := (get_iff h.rise).1 hx
    exact ⟨x, hx1, hx2, by rw [turnV_ok hr hx]; exact turnP_map h hx1 (hf x)⟩
def binF (own : Int) (x : Port) : Port := ⟨x.num, own, x.peer, x.pending, x.masked⟩
theorem bind_good (h : Good l) (he : (bindV l k own).2.2 = 0) : vcpuB own = true ∧ ∃ x, x ∈ l ∧ x.num = k ∧ bindV l k own = (l.map (putF (binF own x)), waN x (binF own x), 0) := by
  have hr := right_iff.2 h
  by_cases hv : vcpuB own = true
  · cases hx : getB l k with
    | none => rw [bindV_none hr hv hx] at he; cases he
    | some x =>
      obtain ⟨hx1, hx2⟩ := (get_iff h.rise).1 hx
      exact ⟨hv, x, hx1, hx2, by rw [bindV_ok hr hv hx]; exact turnP_map (z := binF own x) h hx1 rfl⟩
  · rw [bindV_arg hr (by simpa using hv)] at he; cases he
def cleF (x : Port) : Port := ⟨x.num, x.vcpu, x.peer, false, x.masked⟩
theorem clear_good (h : Good l) (he : (clearV l k).2.2 = 0) : ∃ x, x ∈ l ∧ x.num = k ∧ (clearV l k).1 = l.map (putF (cleF x)) := by
  have hr := right_iff.2 h
  cases hx : getB l k with
  | none => rw [clearV_none hr hx] at he; cases he
  | some x =>
    obtain ⟨hx1, hx2⟩ := (get_iff h.rise).1 hx
    refine ⟨x, hx1, hx2, ?_⟩
    rw [clearV_ok hr hx]
    exact set_put (z := cleF x) h (x := x) ((get_iff h.rise).2 ⟨hx1, rfl⟩)
theorem putF_num : (putF z x).num = x.num := by unfold putF; split <;> simp_all
/-- What stays, what goes. -/
def StayOk (kd a vcpu : Int) (x : Port) (g : Option Port) : Prop :=
  (g = none ↔ (kd = 3 ∧ x.num = a ∨ kd = 4 ∧ x.vcpu = vcpu)) ∧ ∀ y, g = some y → (x.pending = true → y.pending = false → kd = 11 ∧ x.num = a) ∧ (x.pending = false → y.pending = true → (5 ≤ kd ∧ kd < 8 ∧ x.peer = a) ∨ (kd = 8 ∧ x.num = a))
/-- Who has come. -/
def Had (l : List Port) (y : Port) : Prop := ∃ x ∈ l, x.num = y.num ∧ x.vcpu = y.vcpu ∧ dueB x = true
def Came (l l' : List Port) (w : Int) : Prop := (∀ y ∈ l', dueB y = true → ¬ Had l y → y.vcpu = w ∧ 0 < w) ∧ (0 < w → ∃ y ∈ l', dueB y = true ∧ ¬ Had l y)
def wokN (kd n : Int) : Int := if 5 ≤ kd ∧ kd ≤ 10 then n else 0
theorem vcpu_pos (h : vcpuB n = true) : 0 < n := by
  unfold vcpuB at h
  simp only [Bool.and_eq_true, decide_eq_true_eq] at h; omega
theorem came_put (h : Good l) (hx : x ∈ l) (hn : z.num = x.num) (hv : vcpuB z.vcpu = true) : Came l (l.map (putF z)) (waN x z) := by
  have hz : Had l z ↔ (dueB x = true ∧ x.vcpu = z.vcpu) := by
    constructor
    · rintro ⟨u, hu, h1, h2, h3⟩
      have : u = x := rise_inj h.rise hu hx (by omega)
      subst this; exact ⟨h3, h2⟩
    · rintro ⟨h1, h2⟩; exact ⟨x, hx, hn.symm, h2, h1⟩
  unfold Came waN
  refine ⟨fun y hy hd hn' => ?_, fun hw => ?_⟩
  · rcases (mem_put h hx hn).1 hy with rfl | ⟨hy, _⟩
    · rw [hz] at hn'
      have : dueB x = false ∨ x.vcpu ≠ y.vcpu := by
        cases hdx : dueB x with
        | false => exact .inl rfl
        | true => exact .inr fun e => hn' ⟨hdx, e⟩
      rw [if_pos ⟨hd, this⟩]
      exact ⟨rfl, vcpu_pos hv⟩
    · exact absurd ⟨y, hy, rfl, rfl, hd⟩ hn'
  · split at hw
    · rename_i hc
      refine ⟨z, (mem_put h hx hn).2 (.inl rfl), hc.1, fun hh => ?_⟩
      rw [hz] at hh
      rcases hc.2 with e | e
      · rw [hh.1] at e; cases e
      · exact e hh.2
    · omega
theorem came_none {l' : List Port} (h : ∀ y ∈ l', dueB y = true → Had l y) : Came l l' 0 := ⟨fun y hy hd hn => absurd (h y hy hd) hn, fun h => by omega⟩
theorem due_eq (h1 : x.pending = y.pending) (h2 : x.masked = y.masked) : dueB x = dueB y := by unfold dueB; rw [h1, h2]
/-- All that is asked of an op, where there is no error. -/
structure RunOk (l l' : List Port) (o : OpA) (n : Int) : Prop where
  good : Good l'
  stay : ∀ x ∈ l, StayOk (kdI o.kind) o.a o.vcpu x (getB l' x.num)
  came : Came l l' (wokN (kdI o.kind) n)
theorem stay_map (h : Good l) (hf : ∀ x ∈ l, (f x).num = x.num) (h3 : ¬ kdI o.kind = 3) (h4 : ¬ kdI o.kind = 4) (hx : x ∈ l)
    (h1 : x.pending = true → (f x).pending = false → kdI o.kind = 11 ∧ x.num = o.a) (h2 : x.pending = false → (f x).pending = true → (5 ≤ kdI o.kind ∧ kdI o.kind < 8 ∧ x.peer = o.a) ∨ (kdI o.kind = 8 ∧ x.num = o.a)) :
    StayOk (kdI o.kind) o.a o.vcpu x (getB (l.map f) x.num) := by
  rw [get_map h hf hx]
  refine ⟨⟨fun e => (by cases e), fun e => ?_⟩, fun y e => ?_⟩
  · rcases e with e | e
    · exact absurd e.1 h3
    · exact absurd e.1 h4
  · cases e; exact ⟨h1, h2⟩
/-- A change of one port. -/
theorem ok_put (h : Good l) (hx : x ∈ l) (hn : z.num = x.num) (hp : z.peer = x.peer) (hv : vcpuB z.vcpu = true) (h3 : ¬ kdI o.kind = 3) (h4 : ¬ kdI o.kind = 4)
    (h1 : x.pending = true → z.pending = false → kdI o.kind = 11 ∧ x.num = o.a) (h2 : x.pending = false → z.pending = true → (5 ≤ kdI o.kind ∧ kdI o.kind < 8 ∧ x.peer = o.a) ∨ (kdI o.kind = 8 ∧ x.num = o.a))
    (hc : Came l (l.map (putF z)) (wokN (kdI o.kind) n)) : RunOk l (l.map (putF z)) o n := by
  refine ⟨good_put h hx hn hp hv, fun y hy => ?_, hc⟩
  refine stay_map h (fun _ _ => putF_num) h3 h4 hy ?_ ?_
  · by_cases e : y.num = z.num
    · have : y = x := rise_inj h.rise hy hx (by omega)
      subst this
      rw [show putF z y = z from if_pos e]; exact h1
    · rw [show putF z y = y from if_neg e]; intro a b; rw [a] at b; cases b
  · by_cases e : y.num = z.num
    · have : y = x := rise_inj h.rise hy hx (by omega)
      subst this
      rw [show putF z y = z from if_pos e]; exact h2
    · rw [show putF z y = y from if_neg e]; intro a b; rw [a] at b; cases b
theorem ok_open (h : Good l) (he : (openV l own).2.2 = 0) (hk : kdI o.kind = 0 ∨ kdI o.kind = 1) : RunOk l (openV l own).1 o n := by
  obtain ⟨hv, h32, e⟩ := open_good h he
  obtain ⟨hg, _, hne⟩ := good_open h hv h32
  rw [e]
  refine ⟨hg, fun x hx => ?_, ?_⟩
  · have : getB (l.take (openI l 0) ++ [⟨((openI l 0 + 1 : Nat) : Int), own, 0, false, false⟩] ++ l.drop (openI l 0)) x.num = some x := (get_iff hg.rise).2 ⟨mem_open.2 (.inl hx), rfl⟩
    simp only
    rw [this]
    refine ⟨⟨fun e => (by cases e), fun e => ?_⟩, fun y e => ?_⟩
    · rcases e with e | e <;> omega
    · cases e; exact ⟨fun a b => (by rw [a] at b; cases b), fun a b => (by rw [a] at b; cases b)⟩
  · have : wokN (kdI o.kind) n = 0 := by unfold wokN; rw [if_neg (by omega)]
    rw [this]
    refine came_none fun y hy hd => ?_
    rcases mem_open.1 hy with hy | rfl
    · exact ⟨y, hy, rfl, rfl, hd⟩
    · cases hd
theorem ok_link (h : Good l) (he : (linkV l a b).2 = 0) (hk : kdI o.kind = 2) : RunOk l (linkV l a b).1 o n := by
  obtain ⟨x, y, hx, hy, hxa, hyb, hab, hx0, hy0, e⟩ := link_good h he
  rw [e]
  have f1 : ∀ u : Port, (linF a b u).num = u.num := fun u => by
    unfold linF; repeat' split
    all_goals rfl
  have f2 : ∀ u : Port, (linF a b u).vcpu = u.vcpu := fun u => by
    unfold linF; repeat' split
    all_goals rfl
  have f3 : ∀ u : Port, (linF a b u).pending = u.pending := fun u => by
    unfold linF; repeat' split
    all_goals rfl
  have f4 : ∀ u : Port, (linF a b u).masked = u.masked := fun u => by
    unfold linF; repeat' split
    all_goals rfl
  have ha : linF a b x = ⟨x.num, x.vcpu, b, x.pending, x.masked⟩ := if_pos hxa
  have hb : linF a b y = ⟨y.num, y.vcpu, a, y.pending, y.masked⟩ := by unfold linF; rw [if_neg (by omega), if_pos hyb]
  refine ⟨⟨?_, fun u hu => ?_, fun u hu => ?_⟩, fun u hu => ?_, ?_⟩
  · rw [List.pairwise_map]
    refine List.Pairwise.imp (fun {c d} hcd => ?_) h.rise
    rw [f1, f1]; exact hcd
  · obtain ⟨v, hv, rfl⟩ := List.mem_map.1 hu
    rw [f1, f2]; exact h.num v hv
  · obtain ⟨v, hv, rfl⟩ := List.mem_map.1 hu
    by_cases e1 : v.num = a
    · have : v = x := rise_inj h.rise hv hx (by omega)
      subst this
      right
      exact ⟨linF a b y, List.mem_map.2 ⟨y, hy, rfl⟩, by rw [ha, f1]; exact hyb, by rw [hb, f1]; exact e1.symm, by rw [f1, f1]; omega⟩
    · by_cases e2 : v.num = b
      · have : v = y := rise_inj h.rise hv hy (by omega)
        subst this
        right
        exact ⟨linF a b x, List.mem_map.2 ⟨x, hx, rfl⟩, by rw [hb, f1]; exact hxa, by rw [ha, f1]; exact e2.symm, by rw [f1, f1]; omega⟩
      · have hv2 : linF a b v = v := by unfold linF; rw [if_neg e1, if_neg e2]
        rw [hv2]
        rcases h.peer v hv with h0 | ⟨z, hz, z1, z2, z3⟩
        · exact .inl h0
        · right
          have hz2 : linF a b z = z := by
            unfold linF
            rw [if_neg, if_neg]
            · intro e; have : z = y := rise_inj h.rise hz hy (by omega)
              subst this; have := (h.num v hv).1; omega
            · intro e; have : z = x := rise_inj h.rise hz hx (by omega)
              subst this; have := (h.num v hv).1; omega
          exact ⟨z, List.mem_map.2 ⟨z, hz, hz2⟩, z1, z2, z3⟩
  · exact stay_map h (fun u _ => f1 u) (by omega) (by omega) hu (fun a b => by rw [f3, a] at b; cases b) (fun a b => by rw [f3, a] at b; cases b)
  · have : wokN (kdI o.kind) n = 0 := by unfold wokN; rw [if_neg (by omega)]
    rw [this]
    refine came_none fun u hu hd => ?_
    obtain ⟨v, hv, rfl⟩ := List.mem_map.1 hu
    exact ⟨v, hv, (f1 v).symm, (f2 v).symm, by rw [← hd]; exact due_eq (f3 v).symm (f4 v).symm⟩
theorem ok_remove (h : Good l) (hp : ∀ x ∈ l, p x = true ↔ (kdI o.kind = 3 ∧ x.num = o.a ∨ kdI o.kind = 4 ∧ x.vcpu = o.vcpu)) (hk : kdI o.kind = 3 ∨ kdI o.kind = 4) : RunOk l (removeV p l) o n := by
  refine ⟨good_remove h, fun x hx => ?_, ?_⟩
  · rw [get_remove h hx]
    refine ⟨?_, fun y e => ?_⟩
    · rw [← hp x hx]
      split
      · rename_i e; simp [e]
      · rename_i e; simp [e]
    · split at e
      · cases e
      · cases e
        rw [unl_pending]
        exact ⟨fun a b => (by rw [a] at b; cases b), fun a b => (by rw [a] at b; cases b)⟩
  · have : wokN (kdI o.kind) n = 0 := by unfold wokN; rw [if_neg (by omega)]
    rw [this]
    refine came_none fun u hu hd => ?_
    obtain ⟨v, hv, _, rfl⟩ := mem_remove.1 hu
    exact ⟨v, hv, unl_num.symm, unl_vcpu.symm, by rw [← hd]; exact due_eq unl_pending.symm unl_masked.symm⟩
theorem run_ok (h : Good l) (he : (runV l o).2.2.2 = 0) : RunOk l (runV l o).1 o (runV l o).2.1 := by
  have hr := kd_range o.kind
  unfold runV at he ⊢
  by_cases k0 : kdI o.kind = 0
  · simp only [if_pos k0] at he ⊢; exact ok_open h he (.inl k0)
  · by_cases k1 : kdI o.kind = 1
    · simp only [if_neg k0, if_pos k1] at he ⊢; exact ok_open h he (.inr k1)
    · by_cases k2 : kdI o.kind = 2
      · simp only [if_neg k0, if_neg k1, if_pos k2] at he ⊢; exact ok_link h he k2
      · by_cases k3 : kdI o.kind = 3
        · simp only [if_neg k0, if_neg k1, if_neg k2, if_pos k3] at he ⊢
          rw [close_good h he]
          exact ok_remove h (fun x hx => by unfold isNum; simp only [decide_eq_true_eq]; omega) (.inl k3)
        · by_cases k4 : kdI o.kind = 4
          · simp only [if_neg k0, if_neg k1, if_neg k2, if_neg k3, if_pos k4] at he ⊢
            rw [drop_good h he]
            exact ok_remove h (fun x hx => by unfold isOwn; simp only [decide_eq_true_eq]; omega) (.inr k4)
          · have hsend : (sendV l o.a).2.2 = 0 → 5 ≤ kdI o.kind ∧ kdI o.kind < 8 → RunOk l (sendV l o.a).1 o (sendV l o.a).2.1 := fun he hk => by
              obtain ⟨x, y, hx, hy, h1, h2, h3, e⟩ := send_good h he
              rw [e]
              refine ok_put (z := raiF y) h hy rfl rfl (h.num y hy).2.2 k3 k4 (fun _ b => by cases b) (fun _ _ => .inl ⟨hk.1, hk.2, h3⟩) ?_
              unfold wokN; rw [if_pos (by omega)]
              exact came_put (z := raiF y) h hy rfl (h.num y hy).2.2
            by_cases k5 : kdI o.kind = 5
            · simp only [if_neg k0, if_neg k1, if_neg k2, if_neg k3, if_neg k4, if_pos k5] at he ⊢; exact hsend he (by omega)
            · by_cases k6 : kdI o.kind = 6
              · simp only [if_neg k0, if_neg k1, if_neg k2, if_neg k3, if_neg k4, if_neg k5, if_pos k6] at he ⊢; exact hsend he (by omega)
              · by_cases k7 : kdI o.kind = 7
                · simp only [if_neg k0, if_neg k1, if_neg k2, if_neg k3, if_neg k4, if_neg k5, if_neg k6, if_pos k7] at he ⊢; exact hsend he (by omega)
                · by_cases k8 : kdI o.kind = 8
                  · simp only [if_neg k0, if_neg k1, if_neg k2, if_neg k3, if_neg k4, if_neg k5, if_neg k6, if_neg k7, if_pos k8] at he ⊢
                    obtain ⟨x, hx, hn, e⟩ := turn_good (f := raiF) h (fun _ => rfl) he
                    rw [e]
                    refine ok_put (z := raiF x) h hx rfl rfl (h.num x hx).2.2 k3 k4 (fun _ b => by cases b) (fun _ _ => .inr ⟨k8, hn⟩) ?_
                    unfold wokN; rw [if_pos (by omega)]
                    exact came_put (z := raiF x) h hx rfl (h.num x hx).2.2
                  · by_cases k9 : kdI o.kind = 9
                    · simp only [if_neg k0, if_neg k1, if_neg k2, if_neg k3, if_neg k4, if_neg k5, if_neg k6, if_neg k7, if_neg k8, if_pos k9] at he ⊢
                      obtain ⟨x, hx, hn, e⟩ := turn_good (f := masF o.on) h (fun _ => rfl) he
                      rw [e]
                      refine ok_put (z := masF o.on x) h hx rfl rfl (h.num x hx).2.2 k3 k4 (fun a b => by rw [show (masF o.on x).pending = x.pending from rfl, a] at b; cases b) (fun a b => by rw [show (masF o.on x).pending = x.pending from rfl, a] at b; cases b) ?_
                      unfold wokN; rw [if_pos (by omega)]
                      exact came_put (z := masF o.on x) h hx rfl (h.num x hx).2.2
                    · by_cases k10 : kdI o.kind = 10
                      · simp only [if_neg k0, if_neg k1, if_neg k2, if_neg k3, if_neg k4, if_neg k5, if_neg k6, if_neg k7, if_neg k8, if_neg k9, if_pos k10] at he ⊢
                        obtain ⟨hv, x, hx, hn, e⟩ := bind_good h he
                        rw [e]
                        refine ok_put (z := binF o.vcpu x) h hx rfl rfl hv k3 k4 (fun a b => by rw [show (binF o.vcpu x).pending = x.pending from rfl, a] at b; cases b) (fun a b => by rw [show (binF o.vcpu x).pending = x.pending from rfl, a] at b; cases b) ?_
                        unfold wokN; rw [if_pos (by omega)]
                        exact came_put (z := binF o.vcpu x) h hx rfl hv
                      · simp only [if_neg k0, if_neg k1, if_neg k2, if_neg k3, if_neg k4, if_neg k5, if_neg k6, if_neg k7, if_neg k8, if_neg k9, if_neg k10] at he ⊢
                        obtain ⟨x, hx, hn, e⟩ := clear_good h he
                        rw [e]
                        refine ok_put (z := cleF x) h hx rfl rfl (h.num x hx).2.2 k3 k4 (fun _ _ => ⟨by omega, hn⟩) (fun _ b => by cases b) ?_
                        have : wokN (kdI o.kind) 0 = 0 := by unfold wokN; rw [if_neg (by omega)]
                        rw [this]
                        refine came_none fun u hu hd => ?_
                        rcases (mem_put (z := cleF x) h hx rfl).1 hu with rfl | ⟨hu, _⟩
                        · cases hd
                        · exact ⟨u, hu, rfl, rfl, hd⟩
theorem good_len (h : Good l) : l.length ≤ 32 := by
  have := ris_len l 0 (by omega) (right_ris (right_iff.2 h)); omega
theorem good_nil : Good [] := ⟨List.Pairwise.nil, fun _ h => (by cases h), fun _ h => (by cases h)⟩
theorem link_get (h : Good l) (hx : x ∈ l) (h0 : ¬ x.peer = 0) : ∃ y, getB l x.peer = some y ∧ y.peer = x.num ∧ y.num ≠ x.num := by
  rcases h.peer x hx with e | ⟨y, hy, a, b, c⟩
  · exact absurd e h0
  · exact ⟨y, (get_iff h.rise).2 ⟨hy, a⟩, b, c⟩
theorem due_contains (h : Good l) (hx : x ∈ l) {b : Bool} (hq : decide (x.num ∈ suchL (isDue x.vcpu) l) = b) : dueB x = b := by
  rw [← hq]
  have := such_num (p := isDue x.vcpu) h hx
  cases hd : dueB x with
  | true => rw [eq_comm, decide_eq_true_eq, this]; simp [isDue, hd]
  | false => rw [eq_comm, decide_eq_false_iff_not, this]; simp [isDue, hd]
theorem had_none (hg : getB l x.num = none) : ¬ Had l x := by
  rintro ⟨y, hy, e, _⟩
  exact get_no.1 hg y hy e
theorem had_vcpu (h : Good l) (hg : getB l x.num = some y) (hv : ¬ y.vcpu = x.vcpu) : ¬ Had l x := by
  rintro ⟨z, hz, e, e2, _⟩
  obtain ⟨hy, hn⟩ := (get_iff h.rise).1 hg
  have : z = y := rise_inj h.rise hz hy (by omega)
  subst this; exact hv e2
theorem had_due (h : Good l) (hg : getB l x.num = some y) (hv : y.vcpu = x.vcpu) (hq : decide (x.num ∈ suchL (isDue x.vcpu) l) = false) : ¬ Had l x := by
  rintro ⟨z, hz, e, e2, e3⟩
  refine absurd ?_ (of_decide_eq_false hq)
  exact mem_such.2 ⟨z, hz, by simp [isDue, e2, e3], e⟩
theorem had_yes (hq : decide (x.num ∈ suchL (isDue x.vcpu) l) = true) : Had l x := by
  obtain ⟨z, hz, hp, e⟩ := mem_such.1 (of_decide_eq_true hq)
  simp only [isDue, Bool.and_eq_true, decide_eq_true_eq] at hp
  exact ⟨z, hz, e, hp.2, hp.1⟩
/-- The map of who has come, behind the first j. -/
def CameD (l l' : List Port) (W : Int) (D : List (Int × Bool)) (j : Nat) : Prop := (D = [] ∧ ∀ (t : Nat) (y : Port), t < j → l'[t]? = some y → dueB y = true → Had l y) ∨ (D = [(W, true)] ∧ 0 < W)
theorem cameD_start {l' : List Port} {W : Int} : CameD l l' W [] 0 := .inl ⟨rfl, fun _ _ h => by omega⟩
theorem cameD_on {l' : List Port} {W : Int} {D : List (Int × Bool)} {j : Nat} (hD : CameD l l' W D j) (hx : l'[j]? = some x) (hh : dueB x = true → Had l x) : CameD l l' W D (j + 1) := by
  rcases hD with ⟨a, b⟩ | h
  · refine .inl ⟨a, fun t y ht e hd => ?_⟩
    by_cases htj : t = j
    · subst htj; rw [hx] at e; cases e; exact hh hd
    · exact b t y (by omega) e hd
  · exact .inr h
theorem cameD_new {l' : List Port} {W : Int} {D : List (Int × Bool)} {j : Nat} (hD : CameD l l' W D j) (hc : Came l l' W) (hx : l'[j]? = some x) (hd : dueB x = true) (hh : ¬ Had l x) : CameD l l' W (mupd D x.vcpu true) (j + 1) := by
  obtain ⟨h1, h2⟩ := hc.1 x (List.mem_of_getElem? hx) hd hh
  right
  refine ⟨?_, h2⟩
  rcases hD with ⟨rfl, _⟩ | ⟨rfl, _⟩
  · simp [mupd, h1]
  · simp [mupd, h1]
theorem cameD_end {l' : List Port} {W : Int} {D : List (Int × Bool)} {j : Nat} (hD : CameD l l' W D j) (hc : Came l l' W) (hj : l'.length ≤ j) : (D = [] ∧ W ≤ 0) ∨ (D = [(W, true)] ∧ 0 < W) := by
  rcases hD with ⟨a, b⟩ | h
  · refine .inl ⟨a, ?_⟩
    rcases Int.lt_or_le 0 W with hw | hw
    · obtain ⟨y, hy, hd, hn⟩ := hc.2 hw
      obtain ⟨t, ht⟩ := List.mem_iff_getElem?.1 hy
      have := (List.getElem?_eq_some_iff.1 ht).1
      exact absurd (b t y (by omega) ht hd) hn
    · exact hw
  · exact .inr h
theorem mget_one {k : Int} {b : Bool} : (mget [(k, b)] k).getD false = b := by simp [mget]
theorem run_err (h : Good l) (he : (runV l o).2.2.2 ≠ 0) : (runV l o).1 = [] := by
  have hr := right_iff.2 h
  have hopen : ∀ own, (openV l own).2.2 ≠ 0 → (openV l own).1 = [] := fun own he => by
    unfold openV at he ⊢; rw [if_pos hr] at he ⊢
    split at he
    · rename_i hv; rw [if_pos hv]
      split at he
      · rename_i h2; rw [if_pos h2]
      · exact absurd rfl he
    · rename_i hv; rw [if_neg hv]
  have hsend : ∀ k, (sendV l k).2.2 ≠ 0 → (sendV l k).1 = [] := fun k he => by
    cases hx : getB l k with
    | none => rw [sendV_none hr hx]
    | some x =>
      by_cases h0 : x.peer = 0
      · rw [sendV_alone hr hx h0]
      · obtain ⟨y, hy, _⟩ := right_peer hr hx h0
        rw [sendV_ok hr hx h0 hy] at he
        exact absurd rfl he
  have hturn : ∀ k f, (turnV l k f).2.2 ≠ 0 → (turnV l k f).1 = [] := fun k f he => by
    cases hx : getB l k with
    | none => rw [turnV_none hr hx]
    | some x => rw [turnV_ok hr hx] at he; exact absurd rfl he
  unfold runV at he ⊢
  by_cases k0 : kdI o.kind = 0
  · simp only [if_pos k0] at he ⊢; exact hopen _ he
  by_cases k1 : kdI o.kind = 1
  · simp only [if_neg k0, if_pos k1] at he ⊢; exact hopen _ he
  by_cases k2 : kdI o.kind = 2
  · simp only [if_neg k0, if_neg k1, if_pos k2] at he ⊢
    unfold linkV at he ⊢; rw [if_pos hr] at he ⊢
    split at he
    · split at he
      · rename_i e; simp [e]
      · rename_i e
        split at he
        · exact absurd rfl he
        · rename_i e2; simp [e, e2]
    · rfl
  by_cases k3 : kdI o.kind = 3
  · simp only [if_neg k0, if_neg k1, if_neg k2, if_pos k3] at he ⊢
    unfold closeV at he ⊢; rw [if_pos hr] at he ⊢
    split at he
    · rename_i h2; rw [if_pos h2]
    · exact absurd rfl he
  by_cases k4 : kdI o.kind = 4
  · simp only [if_neg k0, if_neg k1, if_neg k2, if_neg k3, if_pos k4] at he ⊢
    unfold dropV at he ⊢; rw [if_pos hr] at he ⊢
    split at he
    · exact absurd rfl he
    · rename_i h2; rw [if_neg h2]
  by_cases k5 : kdI o.kind = 5
  · simp only [if_neg k0, if_neg k1, if_neg k2, if_neg k3, if_neg k4, if_pos k5] at he ⊢; exact hsend _ he
  by_cases k6 : kdI o.kind = 6
  · simp only [if_neg k0, if_neg k1, if_neg k2, if_neg k3, if_neg k4, if_neg k5, if_pos k6] at he ⊢; exact hsend _ he
  by_cases k7 : kdI o.kind = 7
  · simp only [if_neg k0, if_neg k1, if_neg k2, if_neg k3, if_neg k4, if_neg k5, if_neg k6, if_pos k7] at he ⊢; exact hsend _ he
  by_cases k8 : kdI o.kind = 8
  · simp only [if_neg k0, if_neg k1, if_neg k2, if_neg k3, if_neg k4, if_neg k5, if_neg k6, if_neg k7, if_pos k8] at he ⊢; exact hturn _ _ he
  by_cases k9 : kdI o.kind = 9
  · simp only [if_neg k0, if_neg k1, if_neg k2, if_neg k3, if_neg k4, if_neg k5, if_neg k6, if_neg k7, if_neg k8, if_pos k9] at he ⊢; exact hturn _ _ he
  by_cases k10 : kdI o.kind = 10
  · simp only [if_neg k0, if_neg k1, if_neg k2, if_neg k3, if_neg k4, if_neg k5, if_neg k6, if_neg k7, if_neg k8, if_neg k9, if_pos k10] at he ⊢
    unfold bindV at he ⊢; rw [if_pos hr] at he ⊢
    split at he
    · rename_i h2; rw [if_pos h2]; exact hturn _ _ he
    · rename_i h2; rw [if_neg h2]
  · simp only [if_neg k0, if_neg k1, if_neg k2, if_neg k3, if_neg k4, if_neg k5, if_neg k6, if_neg k7, if_neg k8, if_neg k9, if_neg k10] at he ⊢
    cases hx : getB l o.a with
    | none => rw [clearV_none hr hx]
    | some x => rw [clearV_ok hr hx] at he; exact absurd rfl he
end
end Go.Proofs.Ytfhlmijdokfdpaa

/-! Ports: the document's ways of changing them, and that they are the layer's; plain. -/
namespace Go.Proofs.Ytfhlmijdokfdpaa
open Go Go.RowKit

theorem SlO.to {α : Type} [Enc α] {T : TypeId} {Y : List Ob} {p : Option Addr} {n cap : Nat} {l l' : List α} (h : SlO T Y p n cap l) (e : l = l') : SlO T Y p n cap l' := e ▸ h
theorem SlO.le {α : Type} [Enc α] {T : TypeId} {Y : List Ob} {p : Option Addr} {n cap : Nat} {l : List α} (h : SlO T Y p n cap l) : n ≤ cap := by
  rcases h with ⟨_, _, h1, h2, _⟩ | ⟨_, _, _, _, _, h⟩
  · rw [h1, h2]; exact Nat.le_refl _
  · exact h.le
theorem SlO.maxc {α : Type} [Enc α] {T : TypeId} {Y : List Ob} {p : Option Addr} {n cap : Nat} {l : List α} (h : SlO T Y p n cap l) : cap ≤ 9223372036854775807 := by
  rcases h with ⟨_, _, _, h2, _⟩ | ⟨_, _, _, _, _, h⟩
  · rw [h2]; exact Nat.zero_le _
  · exact h.max
def lowL (k : Int) (x : Port) : List Port := if x.num < k then [x] else []
def hiL (k : Int) (x : Port) : List Port := if x.num > k then [x] else []
/-- A row without one port. -/
def wout (k : Int) (x : Port) : List Port := if x.num = k then [] else [if x.peer = k then ⟨x.num, x.vcpu, 0, x.pending, x.masked⟩ else x]
def dropW (ks : List Int) (x : Port) : List Port := if x.num ∈ ks then [] else [unl ks x]
section
variable {l : List Port} {k n own a b nu : Int} {x y z : Port} {p : Port → Bool} {o : OpA}
theorem good_asc (h : Good l) : Asc l := ris_asc l 0 (right_ris (right_iff.2 h))
theorem pos_get (h : Good l) (hy : y ∈ l) (hk : k = y.num) : l[posB l k]? = some y := (get_pos (good_asc h) ((get_iff h.rise).2 ⟨hy, hk.symm⟩)).1
theorem find_posG (h : Good l) (hy : y ∈ l) (hk : k = y.num) : findI l k = ((posB l k : Nat) : Int) := by
  obtain ⟨j, hj, hy2, _⟩ := find_some ((get_iff h.rise).2 ⟨hy, hk.symm⟩)
  have h1 := pos_get h hy hk
  rw [hj]
  have ha := good_asc h
  have : j = posB l k := by
    rcases Nat.lt_trichotomy j (posB l k) with h3 | h3 | h3
    · have := ha _ _ _ _ h3 hy2 h1; omega
    · exact h3
    · have := ha _ _ _ _ h3 h1 hy2; omega
  rw [this]
theorem open_num (h : Good l) (h1 : ∀ i : Int, 1 ≤ i → i < nu → ∃ x ∈ l, x.num = i) (h2 : getB l nu = none) (h0 : 1 ≤ nu) :
    ((openI l 0 : Nat) : Int) + 1 = nu ∧ l.flatMap (lowL nu) = l.take (openI l 0) ∧ l.flatMap (hiL nu) = l.drop (openI l 0) := by
  obtain ⟨i, hi, ho, h3, h4, h5⟩ := openI_spec l 0 (right_ris (right_iff.2 h))
  rw [Nat.zero_add] at ho h3 h4 h5
  have hno := get_no.1 h2
  have hne : ∀ x ∈ l, x.num ≠ ((i + 1 : Nat) : Int) := fun x hx => by
    rw [← List.take_append_drop i l] at hx
    rcases List.mem_append.1 hx with hx | hx
    · have := h3 x hx; omega
    · have := h4 x hx; omega
  have e : ((i : Nat) : Int) + 1 = nu := by
    rcases Int.lt_trichotomy nu (i + 1) with hl | he | hg
    · obtain ⟨x, hx, hn⟩ := h5 nu (by omega) (by omega)
      exact absurd hn (hno x hx)
    · omega
    · obtain ⟨x, hx, hn⟩ := h1 (i + 1) (by omega) hg
      exact absurd (by omega) (hne x hx)
  rw [ho]
  refine ⟨e, ?_, ?_⟩
  · conv => lhs; rw [← List.take_append_drop i l]
    rw [List.flatMap_append]
    have a1 : (l.take i).flatMap (lowL nu) = l.take i := by
      have : ∀ m : List Port, (∀ x ∈ m, x.num < nu) → m.flatMap (lowL nu) = m := fun m => by
        induction m with
        | nil => intro _; rfl
        | cons c m ih => intro hm; rw [List.flatMap_cons, ih (fun x hx => hm x (List.mem_cons_of_mem _ hx))]; simp [lowL, hm c (List.mem_cons_self ..)]
      exact this _ fun x hx => by have := h3 x hx; omega
    have a2 : (l.drop i).flatMap (lowL nu) = [] := by
      rw [List.flatMap_eq_nil_iff]
      intro x hx
      have := h4 x hx
      unfold lowL; rw [if_neg (by omega)]
    rw [a1, a2, List.append_nil]
  · conv => lhs; rw [← List.take_append_drop i l]
    rw [List.flatMap_append]
    have a1 : (l.drop i).flatMap (hiL nu) = l.drop i := by
      have : ∀ m : List Port, (∀ x ∈ m, nu < x.num) → m.flatMap (hiL nu) = m := fun m => by
        induction m with
        | nil => intro _; rfl
        | cons c m ih => intro hm; rw [List.flatMap_cons, ih (fun x hx => hm x (List.mem_cons_of_mem _ hx))]; simp [hiL, hm c (List.mem_cons_self ..)]
      exact this _ fun x hx => by have := h4 x hx; omega
    have a2 : (l.take i).flatMap (hiL nu) = [] := by
      rw [List.flatMap_eq_nil_iff]
      intro x hx
      have := h3 x hx
      unfold hiL; rw [if_neg (by omega)]
    rw [a1, a2, List.nil_append]
theorem ropen_full (h : Good l) (hv : vcpuB own = true) (h1 : ∀ i : Int, 1 ≤ i → i < nu → ∃ x ∈ l, x.num = i) (h2 : getB l nu = none) (h0 : 1 ≤ nu) (h33 : nu ≤ 33) (hg : nu > 32) : openV l own = ([], 0, 6) := by
  have := (open_num h h1 h2 h0).1
  exact openV_full (j := openI l 0) (right_iff.2 h) hv rfl (by omega)
theorem ropen_ok (h : Good l) (hv : vcpuB own = true) (h1 : ∀ i : Int, 1 ≤ i → i < nu → ∃ x ∈ l, x.num = i) (h2 : getB l nu = none) (h0 : 1 ≤ nu) (hg : ¬ nu > 32) : openV l own = (l.flatMap (lowL nu) ++ [⟨nu, own, 0, false, false⟩] ++ l.flatMap (hiL nu), nu, 0) := by
  obtain ⟨e, e1, e2⟩ := open_num h h1 h2 h0
  rw [openV_ok (j := openI l 0) (right_iff.2 h) hv rfl (by omega), e1, e2]
  have : ((openI l 0 + 1 : Nat) : Int) = nu := by omega
  rw [this]
/-! ### links -/
theorem rlink_set (h : Good l) (hx : getB l a = some x) (hy : getB l b = some y) (hab : ¬ a = b) (hx0 : x.peer = 0) (hy0 : y.peer = 0) : linkV l a b = ((l.set (posB l a) ⟨x.num, x.vcpu, b, x.pending, x.masked⟩).set (posB l b) ⟨y.num, y.vcpu, a, y.pending, y.masked⟩, 0) := by
  unfold linkV
  rw [if_pos (right_iff.2 h), hx, hy]
  simp [hab, hx0, hy0]
theorem rlink_same (h : Good l) (hx : getB l a = some x) (hab : a = b) : linkV l a b = ([], 2) := by
  subst hab
  unfold linkV
  rw [if_pos (right_iff.2 h), hx]
  simp
theorem rlink_has (h : Good l) (hx : getB l a = some x) (hy : getB l b = some y) (hab : ¬ a = b) (hp : ¬ (x.peer = 0 ∧ y.peer = 0)) : linkV l a b = ([], 261) := by
  unfold linkV
  rw [if_pos (right_iff.2 h), hx, hy]
  simp only
  rw [if_neg hab, if_neg hp]
theorem rlink_none (h : Good l) (hn : getB l a = none ∨ getB l b = none) : linkV l a b = ([], 4) := by
  unfold linkV
  rw [if_pos (right_iff.2 h)]
  rcases hn with e | e
  · rw [e]
  · rw [e]; cases getB l a <;> rfl
theorem pos_same (h : Good l) (hx : getB l a = some x) (hy : getB l b = some y) (e : ((posB l a : Nat) : Int) = ((posB l b : Nat) : Int)) : a = b := pos_inj (right_iff.2 h) hx hy (by omega)
/-! ### without -/
theorem filter_flat {f : Port → List Port} : ∀ m : List Port, (∀ x ∈ m, f x = if p x = true then [] else [unl (suchL p l) x]) → m.flatMap f = (m.filter fun x => !p x).map (unl (suchL p l))
  | [], _ => rfl
  | c :: m, h => by
    rw [List.flatMap_cons, filter_flat m (fun x hx => h x (List.mem_cons_of_mem _ hx)), h c (List.mem_cons_self ..), List.filter_cons]
    cases hp : p c <;> simp
theorem close_none (h : Good l) (hg : getB l k = none) : closeV l k = ([], 4) := by
  have : suchL (isNum k) l = [] := by
    rw [List.eq_nil_iff_forall_not_mem]
    intro m hm
    obtain ⟨x, hx, hp, _⟩ := mem_such.1 hm
    exact get_no.1 hg x hx (of_decide_eq_true hp)
  unfold closeV
  rw [if_pos (right_iff.2 h), if_pos this]
theorem such_one (h : Good l) (hg : getB l k = some x) (m : Int) : m ∈ suchL (isNum k) l ↔ m = k := by
  obtain ⟨hx, hn⟩ := (get_iff h.rise).1 hg
  rw [mem_such]
  constructor
  · rintro ⟨y, _, hp, e⟩; rw [← e]; exact of_decide_eq_true hp
  · rintro rfl; exact ⟨x, hx, decide_eq_true hn, hn⟩
theorem close_some (h : Good l) (hg : getB l k = some x) : closeV l k = (l.flatMap (wout k), 0) := by
  have hne : ¬ suchL (isNum k) l = [] := fun e => by
    have := (such_one h hg k).2 rfl
    rw [e] at this; cases this
  unfold closeV
  rw [if_pos (right_iff.2 h), if_neg hne]
  congr 1
  unfold removeV
  refine (filter_flat l fun y _ => ?_).symm
  simp only [wout, unl, show isNum k y = decide (y.num = k) from rfl, decide_eq_true_eq, such_one h hg]
theorem dropW_nil (l : List Port) : l.flatMap (dropW []) = l := by
  induction l with
  | nil => rfl
  | cons c l ih => rw [List.flatMap_cons, ih]; simp [dropW, unl]
theorem dropW_snoc (ks : List Int) (k : Int) (l : List Port) : (l.flatMap (dropW ks)).flatMap (wout k) = l.flatMap (dropW (ks ++ [k])) := by
  rw [List.flatMap_assoc]
  congr 1
  funext x
  unfold dropW
  by_cases h1 : x.num ∈ ks
  · simp [h1]
  · by_cases h2 : x.num = k
    · simp [h1, h2, wout, unl_num]
    · simp only [h1, if_false, List.flatMap_cons, List.flatMap_nil, List.append_nil, List.mem_append, List.mem_singleton, h2, or_self, wout, unl_num]
      unfold unl
      by_cases h3 : x.peer ∈ ks
      · simp [h3]
      · simp [h3]
theorem drop_all (h : Good l) (hv : vcpuB own = true) : dropV l own = (l.flatMap (dropW (suchL (isOwn own) l)), (((suchL (isOwn own) l).length : Nat) : Int), 0) := by
  unfold dropV
  rw [if_pos (right_iff.2 h), if_pos hv]
  congr 1
  unfold removeV
  refine (filter_flat l fun x hx => ?_).symm
  unfold dropW
  simp only [such_num h hx]
/-! ### one port in the place of another -/
theorem waN_no (h : ¬ (dueB z = true ∧ (dueB y = false ∨ y.vcpu ≠ z.vcpu))) : waN y z = 0 := if_neg h
theorem waN_yes (h : dueB z = true ∧ (dueB y = false ∨ y.vcpu ≠ z.vcpu)) : waN y z = z.vcpu := if_pos h
theorem send_of (h : Good l) (hx : x ∈ l) (hy : y ∈ l) (hn : x.num = k) (h0 : ¬ x.peer = 0) (hp : x.peer = y.num) : sendV l k = (l.map (putF (raiF y)), waN y (raiF y), 0) := by
  rw [sendV_ok (right_iff.2 h) ((get_iff h.rise).2 ⟨hx, hn⟩) h0 ((get_iff h.rise).2 ⟨hy, hp.symm⟩)]
  exact turnP_map h hy rfl
theorem turn_of {f : Port → Port} (h : Good l) (hf : ∀ x, (f x).num = x.num) (hx : getB l k = some x) : turnV l k f = (l.map (putF (f x)), waN x (f x), 0) := by
  rw [turnV_ok (right_iff.2 h) hx]; exact turnP_map h ((get_iff h.rise).1 hx).1 (hf x)
theorem bind_of (h : Good l) (hv : vcpuB own = true) (hx : getB l k = some x) : bindV l k own = (l.map (putF (binF own x)), waN x (binF own x), 0) := by
  rw [bindV_ok (right_iff.2 h) hv hx]; exact turnP_map (z := binF own x) h ((get_iff h.rise).1 hx).1 rfl
theorem clear_of (h : Good l) (hx : getB l k = some x) : clearV l k = (l.map (putF (cleF x)), x.pending, 0) := by
  obtain ⟨h1, h2⟩ := (get_iff h.rise).1 hx
  rw [clearV_ok (right_iff.2 h) hx]
  congr 1
  exact set_put (z := cleF x) h (x := x) ((get_iff h.rise).2 ⟨h1, rfl⟩)
theorem run_bad (h : rightB l = false) : runV l o = ([], 0, false, 260) := by
  unfold runV
  rw [openV_bad h, closeV_bad h, dropV_bad h, sendV_bad h, turnV_bad h, turnV_bad h, bindV_bad h, clearV_bad h, show linkV l o.a o.b = ([], 260) from by unfold linkV; rw [h]; rfl]
  simp only [ite_self]
theorem run_good (he : (runV l o).2.2.2 = 0) : Good (runV l o).1 := by
  cases hr : rightB l with
  | false => rw [run_bad hr] at he; cases he
  | true => exact (run_ok (right_iff.1 hr) he).good
theorem run_len : (runV l o).1.length ≤ 32 := by
  by_cases he : (runV l o).2.2.2 = 0
  · exact good_len (run_good he)
  · cases hr : rightB l with
    | false => rw [run_bad hr]; exact Nat.zero_le _
    | true => rw [run_err (right_iff.1 hr) he]; exact Nat.zero_le _
def numF (x : Port) : Port := ⟨99, x.vcpu, x.peer, x.pending, x.masked⟩
theorem waN_cle : waN x (cleF x) = 0 := waN_no (fun h => by have := h.1; simp [dueB, cleF] at this)
theorem run_arg (h : Good l) (hk : kdI o.kind = 10) (hv : vcpuB o.vcpu = false) : runV l o = ([], 0, false, 2) := by
  unfold runV; rw [bindV_arg (right_iff.2 h) hv, hk]; rfl
theorem run_none (h : Good l) (h8 : 8 ≤ kdI o.kind) (hg : getB l o.a = none) (hv : kdI o.kind = 10 → vcpuB o.vcpu = true) : runV l o = ([], 0, false, 4) := by
  have hr := right_iff.2 h
  unfold runV
  rw [if_neg (by omega), if_neg (by omega), if_neg (by omega), if_neg (by omega), if_neg (by omega), if_neg (by omega), if_neg (by omega), if_neg (by omega), turnV_none hr hg, turnV_none hr hg, clearV_none hr hg]
  by_cases hk : kdI o.kind = 10
  · rw [bindV_none hr (hv hk) hg]; simp only [ite_self]
  · rw [if_neg hk]; simp only [ite_self]
theorem run_8 (h : Good l) (hk : kdI o.kind = 8) (hg : getB l o.a = some x) : runV l o = (l.map (putF (raiF x)), waN x (raiF x), false, 0) := by
  unfold runV; rw [turn_of h (f := raiF) (fun _ => rfl) hg, hk]; rfl
theorem run_9 (h : Good l) (hk : kdI o.kind = 9) (hg : getB l o.a = some x) : runV l o = (l.map (putF (masF o.on x)), waN x (masF o.on x), false, 0) := by
  unfold runV; rw [turn_of h (f := masF o.on) (fun _ => rfl) hg, hk]; rfl
theorem run_10 (h : Good l) (hk : kdI o.kind = 10) (hv : vcpuB o.vcpu = true) (hg : getB l o.a = some x) : runV l o = (l.map (putF (binF o.vcpu x)), waN x (binF o.vcpu x), false, 0) := by
  unfold runV; rw [bind_of h hv hg, hk]; rfl
theorem run_11 (h : Good l) (h8 : 8 ≤ kdI o.kind) (k8 : ¬ kdI o.kind = 8) (k9 : ¬ kdI o.kind = 9) (k10 : ¬ kdI o.kind = 10) (hg : getB l o.a = some x) : runV l o = (l.map (putF (cleF x)), waN x (cleF x), x.pending, 0) := by
  unfold runV
  rw [if_neg (by omega), if_neg (by omega), if_neg (by omega), if_neg (by omega), if_neg (by omega), if_neg (by omega), if_neg (by omega), if_neg (by omega), if_neg k8, if_neg k9, if_neg k10, clear_of h hg, waN_cle]
end
end Go.Proofs.Ytfhlmijdokfdpaa
