/- Texts of this proof, one behind the other. -/
import Derived.Test.YtfhlmijdokfdpaaZc
import Derived.Test.YtfhlmijdokfdpaaZb
import Derived.Test.YtfhlmijdokfdpaaZe
/-! event.Bind. -/
namespace Go.Proofs.Ytfhlmijdokfdpaa
open Go Go.RowKit

set_option maxRecDepth 100000 in
theorem bind_d (p : Option Addr) (n cap : Nat) (l : List Port) (k own : Int) (w : World)
 (hsl : Sv w p l) (hn : n = l.length) (hb : n ≤ 1000)
 : Calls Try.prog 46 #[.agg #[.slice p n cap], .int .i64 k, .int .i64 own] w fun e w' => ∃ q m capq Y, e = .returned (.tuple #[.agg #[.slice q m capq], .int .i64 (bindV l k own).2.1, .int .i64 (bindV l k own).2.2]) ∧ SlO 40 Y q m capq (bindV l k own).1 ∧ Below w.heap.size w w' ∧ Hs w Y w' := by
 refine enter (Hs.start w) Try.func46 rfl Try.ntmps46 rfl (sq_ (ma0 [] [1] (fun γ1 => [(3, .pointer (some ⟨γ1 0, 0, none⟩)), (5, .pointer (some ⟨γ1 1, 0, none⟩)), (6, .pointer (some ⟨γ1 2, 0, none⟩))]) (fun γ1 L => bx (γ1 2) (#[.slice none 0 0]) 24 :: bx (γ1 1) (#[.int .i64 own]) 3 :: bx (γ1 0) (#[.slice p n cap]) 24 :: L) (fun γ1 => ds_ (sq_ (sq_ (ao_ (qo0 1 [(0, .go (owns 2 0 1))] [1, 3, 5, 6] [(10, .agg #[.slice p n cap])] ?_)))))))
 rcases q3 : rightB l with _ | _
 ·
  refine cD (.int .i64 260) Try.call16 (fun w hw => by have := check_d p n cap l w (hsl.kept hw.below) hn hb; rw [q3] at this; exact this) (qo0 1 [] [1, 3, 5, 6] [(9, .int .i64 260)] (on_ (ds_ (sq_ (qa0 [] [1, 3, 5, 6] [(18, .bool false)] (ds_ (f_ (at_skip (ds_ (sq_ (ao_ (qo0 3 [(0, .go (owns 2 0 1))] [6] [(20, .agg #[.slice p n cap]), (21, .int .i64 k), (22, .func (.func 69) #[] #[.pointer (some ⟨γ1 1, 0, none⟩)])] (ops_inline (g := 40) (args := #[.agg #[.slice p n cap], .int .i64 k, .func (.func 69) #[] #[.pointer (some ⟨γ1 1, 0, none⟩)]]) (by kernel_rfl) (by kernel_rfl) (by kernel_rfl) (fun args w => Try.call40 args w) Try.func40 rfl Try.ntmps40 rfl (sq_ (ma0 [] [] (fun γ7 => [(3, .pointer (some ⟨γ7 0, 0, none⟩)), (4, .pointer (some ⟨γ7 1, 0, none⟩)), (5, .pointer (some ⟨γ7 2, 0, none⟩)), (6, .pointer (some ⟨γ7 3, 0, none⟩))]) (fun γ7 L => bx (γ7 3) (#[.slice none 0 0]) 24 :: bx (γ7 2) (#[.func (.func 69) #[] #[.pointer (some ⟨γ1 1, 0, none⟩)]]) 75 :: bx (γ7 1) (#[.int .i64 k]) 3 :: bx (γ7 0) (#[.slice p n cap]) 24 :: L) (fun γ7 => ds_ (sq_ (ma0 [(1, .go (owns 0 0 1))] [3, 4, 5, 6] (fun γ8 => [(9, .pointer (some ⟨γ8 0, 0, none⟩))]) (fun γ8 L => bx (γ8 0) (#[.int .i64 0]) 3 :: L) (fun γ8 => ds_ (sq_ (ao_ (qo0 2 [(0, .go (owns 4 0 1))] [6, 9] [(13, .agg #[.slice p n cap]), (14, .func (.func 61) #[] #[.pointer (some ⟨γ7 1, 0, none⟩), .pointer (some ⟨γ7 2, 0, none⟩), .pointer (some ⟨γ7 0, 0, none⟩), .pointer (some ⟨γ8 0, 0, none⟩)])] (ops_inline (g := 54) (args := #[.agg #[.slice p n cap], .func (.func 61) #[] #[.pointer (some ⟨γ7 1, 0, none⟩), .pointer (some ⟨γ7 2, 0, none⟩), .pointer (some ⟨γ7 0, 0, none⟩), .pointer (some ⟨γ8 0, 0, none⟩)]]) (by kernel_rfl) (by kernel_rfl) (by kernel_rfl) (fun args w => Try.call54 args w) Try.func54 rfl Try.ntmps54 rfl (sq_ (ma0 [] [1] (fun γ10 => [(2, .pointer (some ⟨γ10 0, 0, none⟩)), (4, .pointer (some ⟨γ10 1, 0, none⟩))]) (fun γ10 L => bx (γ10 1) (#[.slice none 0 0]) 24 :: bx (γ10 0) (#[.slice p n cap]) 24 :: L) (fun γ10 => ds_ (sq_ (sq_ (ao_ (qo0 1 [(0, .go (owns 1 0 1))] [1, 2, 4] [(9, .agg #[.slice p n cap])] (cD (.int .i64 260) Try.call16 (fun w hw => by have := check_d p n cap l w (hsl.kept hw.below) hn hb; rw [q3] at this; exact this) (qo0 1 [] [1, 2, 4] [(6, .int .i64 260)] (on_ (ds_ (sq_ (qa0 [] [1, 2, 4, 6] [(12, .bool true)] (ds_ (t_ (sq_ (qa0 [(2, .go (owns 0 0 1))] [4] [(5, .int .i64 260)] (ds_ (bk (owns 0 0 1) (.tuple #[.agg #[.slice none 0 0], .int .i64 260]) (mo0 6 [(7, .go (owns 0 0 1))] [6, 9] (fun γ15 => [(10, .pointer (some ⟨γ15 0, 0, none⟩)), (11, .int .i64 260)]) (fun γ15 L => bx (γ15 0) (#[.slice none 0 0]) 24 :: L) (fun γ15 => ?_))))))))))))))))))))))))))))))))))))))))))))
  refine on_ (ds_ (sq_ ?_))
  refine at_any (by kernel_rfl) ?_
  refine tk (m := 5) [2] [] [6, 9, 10] [(20, .int .i64 260)] ([]) #[false, false, true, false, false, false] al0 ?_
  refine any_cut 0 #[true, true, true, true, true, true] ([(6, .pointer (some ⟨γ7 3, 0, none⟩)), (7, .int .i64 0), (8, .int .i64 260)]) ([bx (γ15 0) (#[.slice none 0 0]) 24, bx (γ10 1) (#[.slice none 0 0]) 24, bx (γ10 0) (#[.slice p n cap]) 24, bx (γ8 0) (#[.int .i64 0]) 3, bx (γ7 3) (#[.slice none 0 0]) 24, bx (γ7 2) (#[.func (.func 69) #[] #[.pointer (some ⟨γ1 1, 0, none⟩)]]) 75, bx (γ7 1) (#[.int .i64 k]) 3, bx (γ7 0) (#[.slice p n cap]) 24, bx (γ1 2) (#[.slice none 0 0]) 24, bx (γ1 1) (#[.int .i64 own]) 3, bx (γ1 0) (#[.slice p n cap]) 24]) ?_ (fun hm => ?_)
  rotate_left
  ·
   refine any_fork [0, 1] (by kernel_rfl) (by simp) (each_cons _ rfl ?_ (each_cons _ rfl ?_ (each_nil)))
   ·
    refine qo0 1 [(0, .go (owns 0 0 1))] [6, 9, 20] [(18, .agg #[.slice none 0 0])] ?_
    refine od_ ?_
    refine any_fork [1, 3] (by kernel_rfl) (by simp) (each_cons _ rfl ?_ (each_cons _ rfl ?_ (each_nil)))
    ·
     refine qo0 1 [(1, .go (owns 3 0 1))] [6, 18, 20] [(19, .int .i64 0)] ?_
     refine od_ ?_
     refine a1 3 rfl ?_
     refine qo0 1 [(3, .go (owns 4 0 1))] [6, 19, 20] [] ?_
     refine od_ ?_
     refine tk (m := 0) [4, 5] [] [6] [(7, .int .i64 0), (8, .int .i64 260)] ([]) #[true, true, true, true, true, true] al0 ?_
     exact any_weak hm [6, 7, 8] (by kernel_rfl) rfl rfl rfl
    ·
     refine qo0 1 [(3, .go (owns 4 0 1))] [6, 9, 20] [] ?_
     refine od_ ?_
     refine a1 1 rfl ?_
     refine qo0 1 [(1, .go (owns 3 0 1))] [6, 20] [(19, .int .i64 0)] ?_
     refine od_ ?_
     refine tk (m := 0) [4, 5] [] [6] [(7, .int .i64 0), (8, .int .i64 260)] ([]) #[true, true, true, true, true, true] al0 ?_
     exact any_weak hm [6, 7, 8] (by kernel_rfl) rfl rfl rfl
   ·
    refine qo0 1 [(1, .go (owns 3 0 1))] [6, 10, 20] [(19, .int .i64 0)] ?_
    refine od_ ?_
    refine a1 0 rfl ?_
    refine qo0 1 [(0, .go (owns 0 0 1))] [6, 19, 20] [(18, .agg #[.slice none 0 0])] ?_
    refine od_ ?_
    refine a1 3 rfl ?_
    refine qo0 1 [(3, .go (owns 4 0 1))] [6, 19, 20] [] ?_
    refine od_ ?_
    refine tk (m := 0) [4, 5] [] [6] [(7, .int .i64 0), (8, .int .i64 260)] ([]) #[true, true, true, true, true, true] al0 ?_
    exact any_weak hm [6, 7, 8] (by kernel_rfl) rfl rfl rfl
  refine any_nil (by kernel_rfl) ?_
  refine ds_ (bk (owns 4 0 1) (.tuple #[.agg #[.slice none 0 0], .int .i64 0, .int .i64 260]) (qo0 6 [(7, .go (owns 8 0 1))] [6] [(7, .int .i64 0), (8, .int .i64 260)] (on_ (ds_ (rt (owns 8 0 1) (.tuple #[.agg #[.slice none 0 0], .int .i64 0, .int .i64 260]) ?_)))))
  exact fun w' hw => by rw [bindV_bad q3]; exact ⟨none, 0, 0, [], rfl, SlO.nil, hw.below, hw.sub (List.nil_sublist _)⟩
 ·
  refine cD (.int .i64 0) Try.call16 (fun w hw => by have := check_d p n cap l w (hsl.kept hw.below) hn hb; rw [q3] at this; exact this) (qo0 1 [] [1, 3, 5, 6] [(9, .int .i64 0)] (on_ (ds_ (sq_ (ao_ (qo0 4 [(3, .go (owns 1 0 1))] [1, 3, 5, 6] [(14, .bool true), (15, .int .i64 own)] ?_))))))
  rcases q36 : vcpuB own with _ | _
  ·
   refine cD (.bool false) Try.call31 (fun w hw => by have := vcpu_d own w; rw [q36] at this; exact this) (qo0 2 [] [1, 3, 5, 6] [(18, .bool true)] (on_ (ds_ (t_ (sq_ (qa0 [(1, .go (owns 0 0 1))] [6] [(7, .int .i64 0), (8, .int .i64 2)] (ds_ (rt (owns 0 0 1) (.tuple #[.agg #[.slice none 0 0], .int .i64 0, .int .i64 2]) ?_))))))))
   exact fun w' hw => by rw [bindV_arg q3 q36]; exact ⟨none, 0, 0, [], rfl, SlO.nil, hw.below, hw.sub (List.nil_sublist _)⟩
  ·
   refine cD (.bool true) Try.call31 (fun w hw => by have := vcpu_d own w; rw [q36] at this; exact this) (qo0 2 [] [1, 3, 5, 6] [(18, .bool false)] (on_ (ds_ (f_ (at_skip (ds_ (sq_ (ao_ (qo0 3 [(0, .go (owns 2 0 1))] [6] [(20, .agg #[.slice p n cap]), (21, .int .i64 k), (22, .func (.func 69) #[] #[.pointer (some ⟨γ1 1, 0, none⟩)])] (ops_inline (g := 40) (args := #[.agg #[.slice p n cap], .int .i64 k, .func (.func 69) #[] #[.pointer (some ⟨γ1 1, 0, none⟩)]]) (by kernel_rfl) (by kernel_rfl) (by kernel_rfl) (fun args w => Try.call40 args w) Try.func40 rfl Try.ntmps40 rfl (sq_ (ma0 [] [] (fun γ41 => [(3, .pointer (some ⟨γ41 0, 0, none⟩)), (4, .pointer (some ⟨γ41 1, 0, none⟩)), (5, .pointer (some ⟨γ41 2, 0, none⟩)), (6, .pointer (some ⟨γ41 3, 0, none⟩))]) (fun γ41 L => bx (γ41 3) (#[.slice none 0 0]) 24 :: bx (γ41 2) (#[.func (.func 69) #[] #[.pointer (some ⟨γ1 1, 0, none⟩)]]) 75 :: bx (γ41 1) (#[.int .i64 k]) 3 :: bx (γ41 0) (#[.slice p n cap]) 24 :: L) (fun γ41 => ds_ (sq_ (ma0 [(1, .go (owns 0 0 1))] [3, 4, 5, 6] (fun γ42 => [(9, .pointer (some ⟨γ42 0, 0, none⟩))]) (fun γ42 L => bx (γ42 0) (#[.int .i64 0]) 3 :: L) (fun γ42 => ds_ (sq_ (ao_ (qo0 2 [(0, .go (owns 4 0 1))] [6, 9] [(13, .agg #[.slice p n cap]), (14, .func (.func 61) #[] #[.pointer (some ⟨γ41 1, 0, none⟩), .pointer (some ⟨γ41 2, 0, none⟩), .pointer (some ⟨γ41 0, 0, none⟩), .pointer (some ⟨γ42 0, 0, none⟩)])] (ops_inline (g := 54) (args := #[.agg #[.slice p n cap], .func (.func 61) #[] #[.pointer (some ⟨γ41 1, 0, none⟩), .pointer (some ⟨γ41 2, 0, none⟩), .pointer (some ⟨γ41 0, 0, none⟩), .pointer (some ⟨γ42 0, 0, none⟩)]]) (by kernel_rfl) (by kernel_rfl) (by kernel_rfl) (fun args w => Try.call54 args w) Try.func54 rfl Try.ntmps54 rfl (sq_ (ma0 [] [1] (fun γ44 => [(2, .pointer (some ⟨γ44 0, 0, none⟩)), (4, .pointer (some ⟨γ44 1, 0, none⟩))]) (fun γ44 L => bx (γ44 1) (#[.slice none 0 0]) 24 :: bx (γ44 0) (#[.slice p n cap]) 24 :: L) (fun γ44 => ds_ (sq_ (sq_ (ao_ (qo0 1 [(0, .go (owns 1 0 1))] [1, 2, 4] [(9, .agg #[.slice p n cap])] (cD (.int .i64 0) Try.call16 (fun w hw => by have := check_d p n cap l w (hsl.kept hw.below) hn hb; rw [q3] at this; exact this) (qo0 1 [] [1, 2, 4] [(6, .int .i64 0)] (on_ (ds_ (sq_ (qa0 [] [1, 2, 4, 6] [(12, .bool false)] (ds_ (f_ (at_skip (ds_ (sq_ (ao_ (qo0 2 [(1, .go (owns 1 0 1))] [1, 4] [(16, .slice p n cap)] (cP (fun v L' => ∃ q capq Y, v = .slice q n capq ∧ L' = List.take 10 ([bx (γ44 1) (#[.slice none 0 0]) 24, bx (γ44 0) (#[.slice p n cap]) 24, bx (γ42 0) (#[.int .i64 0]) 3, bx (γ41 3) (#[.slice none 0 0]) 24, bx (γ41 2) (#[.func (.func 69) #[] #[.pointer (some ⟨γ1 1, 0, none⟩)]]) 75, bx (γ41 1) (#[.int .i64 k]) 3, bx (γ41 0) (#[.slice p n cap]) 24, bx (γ1 2) (#[.slice none 0 0]) 24, bx (γ1 1) (#[.int .i64 own]) 3, bx (γ1 0) (#[.slice p n cap]) 24]) ++ (Y ++ List.drop 10 ([bx (γ44 1) (#[.slice none 0 0]) 24, bx (γ44 0) (#[.slice p n cap]) 24, bx (γ42 0) (#[.int .i64 0]) 3, bx (γ41 3) (#[.slice none 0 0]) 24, bx (γ41 2) (#[.func (.func 69) #[] #[.pointer (some ⟨γ1 1, 0, none⟩)]]) 75, bx (γ41 1) (#[.int .i64 k]) 3, bx (γ41 0) (#[.slice p n cap]) 24, bx (γ1 2) (#[.slice none 0 0]) 24, bx (γ1 1) (#[.int .i64 own]) 3, bx (γ1 0) (#[.slice p n cap]) 24])) ∧ SlO 40 Y q n capq l) Try.call72 (fun w hw => (clone_d p n cap l w (hsl.kept hw.below) hn (by omega)).mono fun e w' ⟨q, capq, Y, he, hO, hb, hY⟩ => ⟨_, _, he, ⟨q, capq, Y, rfl, rfl, hO⟩, hw.join hb hY 10⟩) ?_)))))))))))))))))))))))))))))))))))))))))
   rintro v49 L49 ⟨q49, cq49, Y49, rfl, rfl, hO49⟩
   have hnq49 := hO49.len
   rcases hO49.parts with ⟨rfl, rfl, hz49⟩ | ⟨g49, cs49, rfl, rfl, hOw49⟩
   ·
    refine mo0 3 [(5, .go (owns 0 0 1))] [1, 4] (fun γ50 => [(7, .pointer (some ⟨γ50 0, 0, none⟩))]) (fun γ50 L => bx (γ50 0) (#[.slice none n cq49]) 24 :: L) (fun γ50 => on_ (ds_ (sq_ (sq_ (ao_ (qo0 1 [] [4, 7] [(19, .func (.func 61) #[] #[.pointer (some ⟨γ41 1, 0, none⟩), .pointer (some ⟨γ41 2, 0, none⟩), .pointer (some ⟨γ41 0, 0, none⟩), .pointer (some ⟨γ42 0, 0, none⟩)])] (ops_inline (g := 61) (args := #[.pointer (some ⟨γ50 0, 0, none⟩), .pointer (some ⟨γ41 1, 0, none⟩), .pointer (some ⟨γ41 2, 0, none⟩), .pointer (some ⟨γ41 0, 0, none⟩), .pointer (some ⟨γ42 0, 0, none⟩)]) (by kernel_rfl) (by kernel_rfl) (by kernel_rfl) (fun args w => Try.call61 args w) Try.func61 rfl Try.ntmps61 rfl (sq_ (qa0 [] [0, 1, 2, 3, 4] [] (ds_ (sq_ ?_)))))))))))
    refine at_calm rfl (by kernel_rfl) (by kernel_rfl) ?_
    refine cm 5 [(3, .go (owns 0 0 1)), (4, .go (owns 6 0 1))] [0, 2, 3, 4] [(14, .slice none n cq49), (15, .int .i64 k)] ([]) (by kernel_rfl) rfl al0 ?_
    rcases hg54 : getB l k with _ | y54
    ·
     refine cK (.pointer none) Try.call32 (fun w hw => by have := port_d none n cq49 l k w (hO49.atN (A := []) hw) hnq49 (by omega) (ris_all (right_ris q3)) (ris_asc l 0 (right_ris q3)); rw [portV_none hg54] at this; exact this) ?_
     refine cm 1 [] [0, 2, 3, 4] [(7, .pointer none)] ([]) (by kernel_rfl) rfl al0 ?_
     refine calm_nil' ?_
     refine ds_ (sq_ (sq_ (qa0 [] [0, 2, 3, 4, 7] [(18, .bool true)] (ds_ (t_ (sq_ (qa0 [] [] [(6, .int .i64 4)] (ds_ (bk ([]) (.int .i64 4) (qo0 1 [] [4, 7] [(8, .int .i64 4)] (on_ (ds_ (sq_ (qa0 [] [4, 7, 8] [(22, .bool true)] (ds_ (t_ (sq_ (qa0 [(2, .go (owns 1 0 1))] [4] [(5, .int .i64 4)] (ds_ (bk (owns 1 0 1) (.tuple #[.agg #[.slice none 0 0], .int .i64 4]) (mo0 6 [(7, .go (owns 0 0 1))] [6, 9] (fun γ61 => [(10, .pointer (some ⟨γ61 0, 0, none⟩)), (11, .int .i64 4)]) (fun γ61 L => bx (γ61 0) (#[.slice none 0 0]) 24 :: L) (fun γ61 => on_ (ds_ (sq_ ?_))))))))))))))))))))))))
     refine at_any (by kernel_rfl) ?_
     refine tk (m := 5) [2] [] [6, 9, 10] [(20, .int .i64 4)] ([]) #[false, false, true, false, false, false] al0 ?_
     refine any_cut 0 #[true, true, true, true, true, true] ([(6, .pointer (some ⟨γ41 3, 0, none⟩)), (7, .int .i64 0), (8, .int .i64 4)]) ([bx (γ61 0) (#[.slice none 0 0]) 24, bx (γ50 0) (#[.slice none n cq49]) 24, bx (γ44 1) (#[.slice none 0 0]) 24, bx (γ44 0) (#[.slice p n cap]) 24, bx (γ42 0) (#[.int .i64 0]) 3, bx (γ41 3) (#[.slice none 0 0]) 24, bx (γ41 2) (#[.func (.func 69) #[] #[.pointer (some ⟨γ1 1, 0, none⟩)]]) 75, bx (γ41 1) (#[.int .i64 k]) 3, bx (γ41 0) (#[.slice p n cap]) 24, bx (γ1 2) (#[.slice none 0 0]) 24, bx (γ1 1) (#[.int .i64 own]) 3, bx (γ1 0) (#[.slice p n cap]) 24]) ?_ (fun hm => ?_)
     rotate_left
     ·
      refine any_fork [0, 1] (by kernel_rfl) (by simp) (each_cons _ rfl ?_ (each_cons _ rfl ?_ (each_nil)))
      ·
       refine qo0 1 [(0, .go (owns 0 0 1))] [6, 9, 20] [(18, .agg #[.slice none 0 0])] ?_
       refine od_ ?_
       refine any_fork [1, 3] (by kernel_rfl) (by simp) (each_cons _ rfl ?_ (each_cons _ rfl ?_ (each_nil)))
       ·
        refine qo0 1 [(1, .go (owns 4 0 1))] [6, 18, 20] [(19, .int .i64 0)] ?_
        refine od_ ?_
        refine a1 3 rfl ?_
        refine qo0 1 [(3, .go (owns 5 0 1))] [6, 19, 20] [] ?_
        refine od_ ?_
        refine tk (m := 0) [4, 5] [] [6] [(7, .int .i64 0), (8, .int .i64 4)] ([]) #[true, true, true, true, true, true] al0 ?_
        exact any_weak hm [6, 7, 8] (by kernel_rfl) rfl rfl rfl
       ·
        refine qo0 1 [(3, .go (owns 5 0 1))] [6, 9, 20] [] ?_
        refine od_ ?_
        refine a1 1 rfl ?_
        refine qo0 1 [(1, .go (owns 4 0 1))] [6, 20] [(19, .int .i64 0)] ?_
        refine od_ ?_
        refine tk (m := 0) [4, 5] [] [6] [(7, .int .i64 0), (8, .int .i64 4)] ([]) #[true, true, true, true, true, true] al0 ?_
        exact any_weak hm [6, 7, 8] (by kernel_rfl) rfl rfl rfl
      ·
       refine qo0 1 [(1, .go (owns 4 0 1))] [6, 10, 20] [(19, .int .i64 0)] ?_
       refine od_ ?_
       refine a1 0 rfl ?_
       refine qo0 1 [(0, .go (owns 0 0 1))] [6, 19, 20] [(18, .agg #[.slice none 0 0])] ?_
       refine od_ ?_
       refine a1 3 rfl ?_
       refine qo0 1 [(3, .go (owns 5 0 1))] [6, 19, 20] [] ?_
       refine od_ ?_
       refine tk (m := 0) [4, 5] [] [6] [(7, .int .i64 0), (8, .int .i64 4)] ([]) #[true, true, true, true, true, true] al0 ?_
       exact any_weak hm [6, 7, 8] (by kernel_rfl) rfl rfl rfl
     refine any_nil (by kernel_rfl) ?_
     refine ds_ (bk (owns 5 0 1) (.tuple #[.agg #[.slice none 0 0], .int .i64 0, .int .i64 4]) (qo0 6 [(7, .go (owns 9 0 1))] [6] [(7, .int .i64 0), (8, .int .i64 4)] (on_ (ds_ (rt (owns 9 0 1) (.tuple #[.agg #[.slice none 0 0], .int .i64 0, .int .i64 4]) ?_)))))
     exact fun w' hw => by rw [bindV_none q3 q36 hg54]; exact ⟨none, 0, 0, [], rfl, SlO.nil, hw.below, hw.sub (List.nil_sublist _)⟩
    ·
     have hy54 := (get_pos (ris_asc l 0 (right_ris q3)) hg54).1
     exact absurd (List.getElem?_eq_some_iff.1 hy54).1 (by omega)
   ·
    refine mo0 3 [(5, .go (owns 0 0 1))] [1, 4] (fun γ81 => [(7, .pointer (some ⟨γ81 0, 0, none⟩))]) (fun γ81 L => bx (γ81 0) (#[.slice (some ⟨g49, 0, none⟩) n cq49]) 24 :: L) (fun γ81 => on_ (ds_ (sq_ (sq_ (ao_ (qo0 1 [] [4, 7] [(19, .func (.func 61) #[] #[.pointer (some ⟨γ41 1, 0, none⟩), .pointer (some ⟨γ41 2, 0, none⟩), .pointer (some ⟨γ41 0, 0, none⟩), .pointer (some ⟨γ42 0, 0, none⟩)])] (ops_inline (g := 61) (args := #[.pointer (some ⟨γ81 0, 0, none⟩), .pointer (some ⟨γ41 1, 0, none⟩), .pointer (some ⟨γ41 2, 0, none⟩), .pointer (some ⟨γ41 0, 0, none⟩), .pointer (some ⟨γ42 0, 0, none⟩)]) (by kernel_rfl) (by kernel_rfl) (by kernel_rfl) (fun args w => Try.call61 args w) Try.func61 rfl Try.ntmps61 rfl (sq_ (qa0 [] [0, 1, 2, 3, 4] [] (ds_ (sq_ ?_)))))))))))
    refine at_calm rfl (by kernel_rfl) (by kernel_rfl) ?_
    refine cm 5 [(3, .go (owns 0 0 1)), (4, .go (owns 6 0 1))] [0, 2, 3, 4] [(14, .slice (some ⟨g49, 0, none⟩) n cq49), (15, .int .i64 k)] ([]) (by kernel_rfl) rfl al0 ?_
    rcases hg85 : getB l k with _ | y85
    ·
     refine cK (.pointer none) Try.call32 (fun w hw => by have := port_d (some ⟨g49, 0, none⟩) n cq49 l k w (hO49.atN (A := [_, _, _, _, _, _, _, _, _, _, _]) hw) hnq49 (by omega) (ris_all (right_ris q3)) (ris_asc l 0 (right_ris q3)); rw [portV_none hg85] at this; exact this) ?_
     refine cm 1 [] [0, 2, 3, 4] [(7, .pointer none)] ([]) (by kernel_rfl) rfl al0 ?_
     refine calm_nil' ?_
     refine ds_ (sq_ (sq_ (qa0 [] [0, 2, 3, 4, 7] [(18, .bool true)] (ds_ (t_ (sq_ (qa0 [] [] [(6, .int .i64 4)] (ds_ (bk ([]) (.int .i64 4) (qo0 1 [] [4, 7] [(8, .int .i64 4)] (on_ (ds_ (sq_ (qa0 [] [4, 7, 8] [(22, .bool true)] (ds_ (t_ (sq_ (qa0 [(2, .go (owns 1 0 1))] [4] [(5, .int .i64 4)] (ds_ (bk (owns 1 0 1) (.tuple #[.agg #[.slice none 0 0], .int .i64 4]) (mo0 6 [(7, .go (owns 0 0 1))] [6, 9] (fun γ92 => [(10, .pointer (some ⟨γ92 0, 0, none⟩)), (11, .int .i64 4)]) (fun γ92 L => bx (γ92 0) (#[.slice none 0 0]) 24 :: L) (fun γ92 => on_ (ds_ (sq_ ?_))))))))))))))))))))))))
     refine at_any (by kernel_rfl) ?_
     refine tk (m := 5) [2] [] [6, 9, 10] [(20, .int .i64 4)] ([]) #[false, false, true, false, false, false] al0 ?_
     refine any_cut 0 #[true, true, true, true, true, true] ([(6, .pointer (some ⟨γ41 3, 0, none⟩)), (7, .int .i64 0), (8, .int .i64 4)]) ([bx (γ92 0) (#[.slice none 0 0]) 24, bx (γ81 0) (#[.slice (some ⟨g49, 0, none⟩) n cq49]) 24, bx (γ44 1) (#[.slice none 0 0]) 24, bx (γ44 0) (#[.slice p n cap]) 24, bx (γ42 0) (#[.int .i64 0]) 3, bx (γ41 3) (#[.slice none 0 0]) 24, bx (γ41 2) (#[.func (.func 69) #[] #[.pointer (some ⟨γ1 1, 0, none⟩)]]) 75, bx (γ41 1) (#[.int .i64 k]) 3, bx (γ41 0) (#[.slice p n cap]) 24, bx (γ1 2) (#[.slice none 0 0]) 24, bx (γ1 1) (#[.int .i64 own]) 3, bx (γ1 0) (#[.slice p n cap]) 24, bx g49 cs49 40]) ?_ (fun hm => ?_)
     rotate_left
     ·
      refine any_fork [0, 1] (by kernel_rfl) (by simp) (each_cons _ rfl ?_ (each_cons _ rfl ?_ (each_nil)))
      ·
       refine qo0 1 [(0, .go (owns 0 0 1))] [6, 9, 20] [(18, .agg #[.slice none 0 0])] ?_
       refine od_ ?_
       refine any_fork [1, 3] (by kernel_rfl) (by simp) (each_cons _ rfl ?_ (each_cons _ rfl ?_ (each_nil)))
       ·
        refine qo0 1 [(1, .go (owns 4 0 1))] [6, 18, 20] [(19, .int .i64 0)] ?_
        refine od_ ?_
        refine a1 3 rfl ?_
        refine qo0 1 [(3, .go (owns 5 0 1))] [6, 19, 20] [] ?_
        refine od_ ?_
        refine tk (m := 0) [4, 5] [] [6] [(7, .int .i64 0), (8, .int .i64 4)] ([]) #[true, true, true, true, true, true] al0 ?_
        exact any_weak hm [6, 7, 8] (by kernel_rfl) rfl rfl rfl
       ·
        refine qo0 1 [(3, .go (owns 5 0 1))] [6, 9, 20] [] ?_
        refine od_ ?_
        refine a1 1 rfl ?_
        refine qo0 1 [(1, .go (owns 4 0 1))] [6, 20] [(19, .int .i64 0)] ?_
        refine od_ ?_
        refine tk (m := 0) [4, 5] [] [6] [(7, .int .i64 0), (8, .int .i64 4)] ([]) #[true, true, true, true, true, true] al0 ?_
        exact any_weak hm [6, 7, 8] (by kernel_rfl) rfl rfl rfl
      ·
       refine qo0 1 [(1, .go (owns 4 0 1))] [6, 10, 20] [(19, .int .i64 0)] ?_
       refine od_ ?_
       refine a1 0 rfl ?_
       refine qo0 1 [(0, .go (owns 0 0 1))] [6, 19, 20] [(18, .agg #[.slice none 0 0])] ?_
       refine od_ ?_
       refine a1 3 rfl ?_
       refine qo0 1 [(3, .go (owns 5 0 1))] [6, 19, 20] [] ?_
       refine od_ ?_
       refine tk (m := 0) [4, 5] [] [6] [(7, .int .i64 0), (8, .int .i64 4)] ([]) #[true, true, true, true, true, true] al0 ?_
       exact any_weak hm [6, 7, 8] (by kernel_rfl) rfl rfl rfl
     refine any_nil (by kernel_rfl) ?_
     refine ds_ (bk (owns 5 0 1) (.tuple #[.agg #[.slice none 0 0], .int .i64 0, .int .i64 4]) (qo0 6 [(7, .go (owns 9 0 1))] [6] [(7, .int .i64 0), (8, .int .i64 4)] (on_ (ds_ (rt (owns 9 0 1) (.tuple #[.agg #[.slice none 0 0], .int .i64 0, .int .i64 4]) ?_)))))
     exact fun w' hw => by rw [bindV_none q3 q36 hg85]; exact ⟨none, 0, 0, [], rfl, SlO.nil, hw.below, hw.sub (List.nil_sublist _)⟩
    ·
     have hy85 := (get_pos (ris_asc l 0 (right_ris q3)) hg85).1
     refine cK (.pointer (some ⟨g49, 0 + (posB l k) * 5, none⟩)) Try.call32 (fun w hw => by have := port_d (some ⟨g49, 0, none⟩) n cq49 l k w (hO49.atN (A := [_, _, _, _, _, _, _, _, _, _, _]) hw) hnq49 (by omega) (ris_all (right_ris q3)) (ris_asc l 0 (right_ris q3)); rw [portV_some hg85] at this; exact this) ?_
     refine cm 1 [] [0, 2, 3, 4] [(7, .pointer (some ⟨g49, 0 + (posB l k) * 5, none⟩))] ([]) (by kernel_rfl) rfl al0 ?_
     refine calm_nil' ?_
     refine ds_ (sq_ (sq_ (qa0 [] [0, 2, 3, 4, 7] [(18, .bool false)] (ds_ (f_ (at_skip (ds_ (sq_ ?_))))))))
     refine at_any (by kernel_rfl) ?_
     refine tk (m := 8) [1, 2, 3, 4] [] [2, 3, 4] [(21, .pointer (some ⟨g49, 0 + (posB l k) * 5, none⟩)), (24, .pointer (some ⟨γ81 0, 0, none⟩))] ([]) #[false, true, true, true, true, false, false, false, false, false, false, false] al0 ?_
     refine any_cut 6 #[true, true, true, true, true, true, false, false, false, false, false, false] ([(3, .pointer (some ⟨γ41 0, 0, none⟩)), (4, .pointer (some ⟨γ42 0, 0, none⟩)), (20, .func (.func 69) #[] #[.pointer (some ⟨γ1 1, 0, none⟩)]), (21, .pointer (some ⟨g49, 0 + (posB l k) * 5, none⟩)), (25, .slice (some ⟨g49, 0, none⟩) n cq49)]) ([bx (γ81 0) (#[.slice (some ⟨g49, 0, none⟩) n cq49]) 24, bx (γ44 1) (#[.slice none 0 0]) 24, bx (γ44 0) (#[.slice p n cap]) 24, bx (γ42 0) (#[.int .i64 0]) 3, bx (γ41 3) (#[.slice none 0 0]) 24, bx (γ41 2) (#[.func (.func 69) #[] #[.pointer (some ⟨γ1 1, 0, none⟩)]]) 75, bx (γ41 1) (#[.int .i64 k]) 3, bx (γ41 0) (#[.slice p n cap]) 24, bx (γ1 2) (#[.slice none 0 0]) 24, bx (γ1 1) (#[.int .i64 own]) 3, bx (γ1 0) (#[.slice p n cap]) 24, bx g49 cs49 40]) ?_ (fun hm => ?_)
     rotate_left
     ·
      refine any_fork [0, 5] (by kernel_rfl) (by simp) (each_cons _ rfl ?_ (each_cons _ rfl ?_ (each_nil)))
      ·
       refine qo0 1 [(0, .go (owns 5 0 1))] [3, 4, 21, 24] [(20, .func (.func 69) #[] #[.pointer (some ⟨γ1 1, 0, none⟩)])] ?_
       refine od_ ?_
       refine a1 5 rfl ?_
       refine qo0 1 [(5, .go (owns 0 0 1))] [3, 4, 20, 21] [(25, .slice (some ⟨g49, 0, none⟩) n cq49)] ?_
       refine od_ ?_
       exact any_weak hm [3, 4, 20, 21, 25] (by kernel_rfl) rfl rfl rfl
      ·
       refine qo0 1 [(5, .go (owns 0 0 1))] [2, 3, 4, 21] [(25, .slice (some ⟨g49, 0, none⟩) n cq49)] ?_
       refine od_ ?_
       refine a1 0 rfl ?_
       refine qo0 1 [(0, .go (owns 5 0 1))] [3, 4, 21, 25] [(20, .func (.func 69) #[] #[.pointer (some ⟨γ1 1, 0, none⟩)])] ?_
       refine od_ ?_
       exact any_weak hm [3, 4, 20, 21, 25] (by kernel_rfl) rfl rfl rfl
     refine a1 6 rfl ?_
     refine ops_inline (g := 69) (args := #[.pointer (some ⟨g49, 0 + (posB l k) * 5, none⟩), .slice (some ⟨g49, 0, none⟩) n cq49, .pointer (some ⟨γ1 1, 0, none⟩)]) (by kernel_rfl) (by kernel_rfl) (by kernel_rfl) (fun args w => Try.call69 args w) Try.func69 rfl Try.ntmps69 rfl (sq_ (qa0 [] [0, 2] [] (ds_ (sq_ (ma [(1, .go (owns 9 0 1)), (4, .go (ownps 11 (0 + (posB l k) * 5 + 1) [undef]))] [0] (fun _ => []) (fun _ L => (L.set 11 (bx g49 ((cs49).setIfInBounds (0 + (posB l k) * 5 + 1) (.int .i64 own)) 40))) (fun _ => [0 + (posB l k) * 5 + 1 < (cs49).size]) (fun _ => (al1 (hOw49.room hnq49 hy85 (f := 1) (by decide)))) (fun _ => ds_ (sq_ (qa0 [] [] [(5, .pointer (some ⟨g49, 0 + (posB l k) * 5, none⟩)), (6, .int .i64 0)] (ds_ (bk ([]) (.tuple #[.pointer (some ⟨g49, 0 + (posB l k) * 5, none⟩), .int .i64 0]) ?_))))))))))
     refine od_ ?_
     refine tk (m := 0) [7, 8, 9, 10, 11] [] [3, 4] [(8, .pointer (some ⟨g49, 0 + (posB l k) * 5, none⟩)), (9, .int .i64 0)] ([]) #[true, true, true, true, true, true, true, true, true, true, true, true] al0 ?_
     refine any_nil (by kernel_rfl) ?_
     refine ds_ (sq_ (sq_ (qa0 [] [3, 4, 8, 9] [(30, .bool false)] (ds_ (f_ (at_skip (ds_ (sq_ ?_))))))))
     refine at_calm rfl (by kernel_rfl) (by kernel_rfl) ?_
     refine cm 6 [(1, .go (owns 7 0 1)), (5, .go (ownps 11 (0 + (posB l k) * 5) [.int .i64 y85.num]))] [4, 8] [(33, .slice p n cap), (37, .int .i64 y85.num)] (acellsP ((cs49).setIfInBounds (0 + (posB l k) * 5 + 1) (.int .i64 own)) (0 + (posB l k) * 5) [.int .i64 y85.num]) (by kernel_rfl) rfl (rda_pre (((hOw49.put (x' := (⟨y85.num, own, y85.peer, y85.pending, y85.masked⟩ : Port)) hnq49 hy85 (f := 1) (by decide) rfl).rdx (len_set hnq49) (get_set hy85))) _ rfl) ?_
     skip
     ·
      obtain ⟨b129, o129, rfl⟩ := hsl.pos (i := posB l y85.num) (List.getElem?_eq_some_iff.1 (get_pos (ris_asc l 0 (right_ris q3)) (get_self hg85)).1).1
      refine cK (.pointer (some ⟨b129, o129 + (posB l y85.num) * 5, none⟩)) Try.call32 (fun w hw => by have := port_d (some ⟨b129, o129, none⟩) n cap l y85.num w (hsl.kept hw.below) hn (by omega) (ris_all (right_ris q3)) (ris_asc l 0 (right_ris q3)); rw [portV_some (get_self hg85)] at this; exact this) ?_
      refine cm 1 [] [4, 8] [(10, .pointer (some ⟨b129, o129 + (posB l y85.num) * 5, none⟩))] ([]) (by kernel_rfl) rfl al0 ?_
      refine calm_nil' ?_
      refine ds_ (sq_ (sq_ ?_))
      refine at_calm rfl (by kernel_rfl) (by kernel_rfl) ?_
      refine cm 3 [(2, .go (ownps 11 (0 + (posB l k) * 5) [.int .i64 y85.num, .int .i64 own, .int .i64 y85.peer, .bool y85.pending, .bool y85.masked]))] [4, 8, 10] [(41, .agg #[.int .i64 y85.num, .int .i64 own, .int .i64 y85.peer, .bool y85.pending, .bool y85.masked])] (acellsP ((cs49).setIfInBounds (0 + (posB l k) * 5 + 1) (.int .i64 own)) (0 + (posB l k) * 5) [.int .i64 y85.num, .int .i64 own, .int .i64 y85.peer, .bool y85.pending, .bool y85.masked]) (by kernel_rfl) rfl (rda_pre (((hOw49.put (x' := (⟨y85.num, own, y85.peer, y85.pending, y85.masked⟩ : Port)) hnq49 hy85 (f := 1) (by decide) rfl).rdx (len_set hnq49) (get_set hy85))) _ rfl) ?_
      rcases q132 : (y85.pending && !y85.masked) with _ | _
      ·
       refine cK (.bool false) Try.call39 (fun w hw => by have := due_d (⟨y85.num, own, y85.peer, y85.pending, y85.masked⟩ : Port) w; rw [show dueB (⟨y85.num, own, y85.peer, y85.pending, y85.masked⟩ : Port) = false from q132] at this; exact this) ?_
       refine cm 18 [] [4, 8] [(60, .bool false)] ([]) (by kernel_rfl) rfl al0 ?_
       refine calm_nil' ?_
       refine ds_ (f_ (at_skip (ds_ (sq_ (qa0 [] [] [(6, .int .i64 0)] (ds_ (bk ([]) (.int .i64 0) (qo0 1 [] [4, 7] [(8, .int .i64 0)] (on_ (ds_ (sq_ (qa0 [] [4, 7, 8] [(22, .bool false)] (ds_ (f_ (at_skip (ds_ (sq_ (ma0 [(0, .go (owns 0 0 1)), (1, .go (owns 1 0 1))] [4] (fun _ => [(5, .int .i64 0)]) (fun _ L => (L.set 1 (bx (γ44 1) (#[.slice (some ⟨g49, 0, none⟩) n cq49]) 24))) (fun _ => ds_ (bk (owns 1 0 1) (.tuple #[.agg #[.slice (some ⟨g49, 0, none⟩) n cq49], .int .i64 0]) (mo0 6 [(7, .go (owns 0 0 1))] [6, 9] (fun γ138 => [(10, .pointer (some ⟨γ138 0, 0, none⟩)), (11, .int .i64 0)]) (fun γ138 L => bx (γ138 0) (#[.slice (some ⟨g49, 0, none⟩) n cq49]) 24 :: L) (fun γ138 => on_ (ds_ (sq_ ?_))))))))))))))))))))))))
       refine at_any (by kernel_rfl) ?_
       refine tk (m := 5) [2] [] [6, 9, 10] [(20, .int .i64 0)] ([]) #[false, false, true, false, false, false] al0 ?_
       refine any_cut 0 #[true, true, true, true, true, true] ([(6, .pointer (some ⟨γ41 3, 0, none⟩)), (7, .int .i64 0), (8, .int .i64 0)]) ([bx (γ138 0) (#[.slice (some ⟨g49, 0, none⟩) n cq49]) 24, bx (γ81 0) (#[.slice (some ⟨g49, 0, none⟩) n cq49]) 24, bx (γ44 1) (#[.slice (some ⟨g49, 0, none⟩) n cq49]) 24, bx (γ44 0) (#[.slice (some ⟨b129, o129, none⟩) n cap]) 24, bx (γ42 0) (#[.int .i64 0]) 3, bx (γ41 3) (#[.slice (some ⟨g49, 0, none⟩) n cq49]) 24, bx (γ41 2) (#[.func (.func 69) #[] #[.pointer (some ⟨γ1 1, 0, none⟩)]]) 75, bx (γ41 1) (#[.int .i64 k]) 3, bx (γ41 0) (#[.slice (some ⟨b129, o129, none⟩) n cap]) 24, bx (γ1 2) (#[.slice none 0 0]) 24, bx (γ1 1) (#[.int .i64 own]) 3, bx (γ1 0) (#[.slice (some ⟨b129, o129, none⟩) n cap]) 24, bx g49 ((cs49).setIfInBounds (0 + (posB l k) * 5 + 1) (.int .i64 own)) 40]) ?_ (fun hm => ?_)
       rotate_left
       ·
        refine any_fork [0, 1] (by kernel_rfl) (by simp) (each_cons _ rfl ?_ (each_cons _ rfl ?_ (each_nil)))
        ·
         refine qo0 1 [(0, .go (owns 0 0 1))] [6, 9, 20] [(18, .agg #[.slice (some ⟨g49, 0, none⟩) n cq49])] ?_
         refine od_ ?_
         refine any_fork [1, 3] (by kernel_rfl) (by simp) (each_cons _ rfl ?_ (each_cons _ rfl ?_ (each_nil)))
         ·
          refine qo0 1 [(1, .go (owns 4 0 1))] [6, 18, 20] [(19, .int .i64 0)] ?_
          refine od_ ?_
          refine a1 3 rfl ?_
          refine mo0 1 [(3, .go (owns 5 0 1))] [6, 19, 20] (fun _ => []) (fun _ L => (L.set 5 (bx (γ41 3) (#[.slice (some ⟨g49, 0, none⟩) n cq49]) 24))) (fun _ => ?_)
          refine od_ ?_
          refine tk (m := 0) [4, 5] [] [6] [(7, .int .i64 0), (8, .int .i64 0)] ([]) #[true, true, true, true, true, true] al0 ?_
          exact any_weak hm [6, 7, 8] (by kernel_rfl) rfl rfl rfl
         ·
          refine mo0 1 [(3, .go (owns 5 0 1))] [6, 9, 20] (fun _ => []) (fun _ L => (L.set 5 (bx (γ41 3) (#[.slice (some ⟨g49, 0, none⟩) n cq49]) 24))) (fun _ => ?_)
          refine od_ ?_
          refine a1 1 rfl ?_
          refine qo0 1 [(1, .go (owns 4 0 1))] [6, 20] [(19, .int .i64 0)] ?_
          refine od_ ?_
          refine tk (m := 0) [4, 5] [] [6] [(7, .int .i64 0), (8, .int .i64 0)] ([]) #[true, true, true, true, true, true] al0 ?_
          exact any_weak hm [6, 7, 8] (by kernel_rfl) rfl rfl rfl
        ·
         refine qo0 1 [(1, .go (owns 4 0 1))] [6, 10, 20] [(19, .int .i64 0)] ?_
         refine od_ ?_
         refine a1 0 rfl ?_
         refine qo0 1 [(0, .go (owns 0 0 1))] [6, 19, 20] [(18, .agg #[.slice (some ⟨g49, 0, none⟩) n cq49])] ?_
         refine od_ ?_
         refine a1 3 rfl ?_
         refine mo0 1 [(3, .go (owns 5 0 1))] [6, 19, 20] (fun _ => []) (fun _ L => (L.set 5 (bx (γ41 3) (#[.slice (some ⟨g49, 0, none⟩) n cq49]) 24))) (fun _ => ?_)
         refine od_ ?_
         refine tk (m := 0) [4, 5] [] [6] [(7, .int .i64 0), (8, .int .i64 0)] ([]) #[true, true, true, true, true, true] al0 ?_
         exact any_weak hm [6, 7, 8] (by kernel_rfl) rfl rfl rfl
       refine any_nil (by kernel_rfl) ?_
       refine ds_ (bk (owns 5 0 1) (.tuple #[.agg #[.slice (some ⟨g49, 0, none⟩) n cq49], .int .i64 0, .int .i64 0]) (mo0 6 [(7, .go (owns 9 0 1))] [6] (fun _ => [(7, .int .i64 0), (8, .int .i64 0)]) (fun _ L => (L.set 9 (bx (γ1 2) (#[.slice (some ⟨g49, 0, none⟩) n cq49]) 24))) (fun _ => on_ (ds_ (rt (owns 9 0 1) (.tuple #[.agg #[.slice (some ⟨g49, 0, none⟩) n cq49], .int .i64 0, .int .i64 0]) ?_)))))
       exact fun w' hw => by rw [bindV_ok q3 q36 hg85, turnP_no (y := y85) (z := (⟨y85.num, own, y85.peer, y85.pending, y85.masked⟩ : Port)) (fun ⟨a, _⟩ => absurd (a.symm.trans q132) (by decide)), pos_of hg85]; exact ⟨_, _, _, _, rfl, (SlO.ofOwn (hOw49.put (x' := (⟨y85.num, own, y85.peer, y85.pending, y85.masked⟩ : Port)) hnq49 hy85 (f := 1) (by decide) rfl) (len_set hnq49)), hw.below, hw.tailN 12⟩
      ·
       refine cK (.bool true) Try.call39 (fun w hw => by have := due_d (⟨y85.num, own, y85.peer, y85.pending, y85.masked⟩ : Port) w; rw [show dueB (⟨y85.num, own, y85.peer, y85.pending, y85.masked⟩ : Port) = true from q132] at this; exact this) ?_
       refine cm 4 [(7, .go (outs b129 (o129 + (posB l y85.num) * 5) [.int .i64 y85.num, .int .i64 y85.vcpu, .int .i64 y85.peer, .bool y85.pending, .bool y85.masked]))] [4, 8, 10] [(43, .bool true), (46, .agg #[.int .i64 y85.num, .int .i64 y85.vcpu, .int .i64 y85.peer, .bool y85.pending, .bool y85.masked])] (cellsP w b129 (o129 + (posB l y85.num) * 5) [.int .i64 y85.num, .int .i64 y85.vcpu, .int .i64 y85.peer, .bool y85.pending, .bool y85.masked]) (by kernel_rfl) rfl (rd_pre (hsl.get (get_pos (ris_asc l 0 (right_ris q3)) (get_self hg85)).1) _ rfl) ?_
       refine cK (.bool true) Try.call39 (fun w hw => by have := due_d (⟨y85.num, y85.vcpu, y85.peer, y85.pending, y85.masked⟩ : Port) w; rw [show dueB (⟨y85.num, y85.vcpu, y85.peer, y85.pending, y85.masked⟩ : Port) = true from q132] at this; exact this) ?_
       by_cases q159 : (y85.vcpu : Int) ≠ (own : Int)
       ·
        refine cm 13 [(14, .go (outs b129 (o129 + (posB l y85.num) * 5 + 1) [.int .i64 y85.vcpu])), (18, .go (ownps 11 (0 + (posB l k) * 5 + 1) [.int .i64 own])), (19, .yes)] [4, 8] [(60, .bool true)] (cellsP w b129 (o129 + (posB l y85.num) * 5 + 1) [.int .i64 y85.vcpu] ++ (acellsP ((cs49).setIfInBounds (0 + (posB l k) * 5 + 1) (.int .i64 own)) (0 + (posB l k) * 5 + 1) [.int .i64 own] ++ ([(y85.vcpu : Int) ≠ (own : Int)]))) (by kernel_rfl) rfl (alA (rd_part (hsl.get (get_pos (ris_asc l 0 (right_ris q3)) (get_self hg85)).1) 1 _ rfl) (alA (rda_part (((hOw49.put (x' := (⟨y85.num, own, y85.peer, y85.pending, y85.masked⟩ : Port)) hnq49 hy85 (f := 1) (by decide) rfl).rdx (len_set hnq49) (get_set hy85))) 1 _ rfl) (al1 q159))) ?_
        refine calm_nil' ?_
        refine ds_ (t_ (ma [(3, .go (ownps 11 (0 + (posB l k) * 5 + 1) [.int .i64 own])), (4, .go (owns 3 0 1))] [] (fun _ => []) (fun _ L => (L.set 3 (bx (γ42 0) (#[.int .i64 own]) 3))) (fun _ => acellsP ((cs49).setIfInBounds (0 + (posB l k) * 5 + 1) (.int .i64 own)) (0 + (posB l k) * 5 + 1) [.int .i64 own]) (fun _ => (rda_part (((hOw49.put (x' := (⟨y85.num, own, y85.peer, y85.pending, y85.masked⟩ : Port)) hnq49 hy85 (f := 1) (by decide) rfl).rdx (len_set hnq49) (get_set hy85))) 1 _ rfl)) (fun _ => ds_ (sq_ (qa0 [] [] [(6, .int .i64 0)] (ds_ (bk ([]) (.int .i64 0) (qo0 1 [] [4, 7] [(8, .int .i64 0)] (on_ (ds_ (sq_ (qa0 [] [4, 7, 8] [(22, .bool false)] (ds_ (f_ (at_skip (ds_ (sq_ (ma0 [(0, .go (owns 0 0 1)), (1, .go (owns 1 0 1))] [4] (fun _ => [(5, .int .i64 0)]) (fun _ L => (L.set 1 (bx (γ44 1) (#[.slice (some ⟨g49, 0, none⟩) n cq49]) 24))) (fun _ => ds_ (bk (owns 1 0 1) (.tuple #[.agg #[.slice (some ⟨g49, 0, none⟩) n cq49], .int .i64 0]) (mo0 6 [(7, .go (owns 0 0 1))] [6, 9] (fun γ166 => [(10, .pointer (some ⟨γ166 0, 0, none⟩)), (11, .int .i64 0)]) (fun γ166 L => bx (γ166 0) (#[.slice (some ⟨g49, 0, none⟩) n cq49]) 24 :: L) (fun γ166 => on_ (ds_ (sq_ ?_))))))))))))))))))))))))
        refine at_any (by kernel_rfl) ?_
        refine tk (m := 5) [2] [] [6, 9, 10] [(20, .int .i64 0)] ([]) #[false, false, true, false, false, false] al0 ?_
        refine any_cut 0 #[true, true, true, true, true, true] ([(6, .pointer (some ⟨γ41 3, 0, none⟩)), (7, .int .i64 own), (8, .int .i64 0)]) ([bx (γ166 0) (#[.slice (some ⟨g49, 0, none⟩) n cq49]) 24, bx (γ81 0) (#[.slice (some ⟨g49, 0, none⟩) n cq49]) 24, bx (γ44 1) (#[.slice (some ⟨g49, 0, none⟩) n cq49]) 24, bx (γ44 0) (#[.slice (some ⟨b129, o129, none⟩) n cap]) 24, bx (γ42 0) (#[.int .i64 own]) 3, bx (γ41 3) (#[.slice (some ⟨g49, 0, none⟩) n cq49]) 24, bx (γ41 2) (#[.func (.func 69) #[] #[.pointer (some ⟨γ1 1, 0, none⟩)]]) 75, bx (γ41 1) (#[.int .i64 k]) 3, bx (γ41 0) (#[.slice (some ⟨b129, o129, none⟩) n cap]) 24, bx (γ1 2) (#[.slice none 0 0]) 24, bx (γ1 1) (#[.int .i64 own]) 3, bx (γ1 0) (#[.slice (some ⟨b129, o129, none⟩) n cap]) 24, bx g49 ((cs49).setIfInBounds (0 + (posB l k) * 5 + 1) (.int .i64 own)) 40]) ?_ (fun hm => ?_)
        rotate_left
        ·
         refine any_fork [0, 1] (by kernel_rfl) (by simp) (each_cons _ rfl ?_ (each_cons _ rfl ?_ (each_nil)))
         ·
          refine qo0 1 [(0, .go (owns 0 0 1))] [6, 9, 20] [(18, .agg #[.slice (some ⟨g49, 0, none⟩) n cq49])] ?_
          refine od_ ?_
          refine any_fork [1, 3] (by kernel_rfl) (by simp) (each_cons _ rfl ?_ (each_cons _ rfl ?_ (each_nil)))
          ·
           refine qo0 1 [(1, .go (owns 4 0 1))] [6, 18, 20] [(19, .int .i64 own)] ?_
           refine od_ ?_
           refine a1 3 rfl ?_
           refine mo0 1 [(3, .go (owns 5 0 1))] [6, 19, 20] (fun _ => []) (fun _ L => (L.set 5 (bx (γ41 3) (#[.slice (some ⟨g49, 0, none⟩) n cq49]) 24))) (fun _ => ?_)
           refine od_ ?_
           refine tk (m := 0) [4, 5] [] [6] [(7, .int .i64 own), (8, .int .i64 0)] ([]) #[true, true, true, true, true, true] al0 ?_
           exact any_weak hm [6, 7, 8] (by kernel_rfl) rfl rfl rfl
          ·
           refine mo0 1 [(3, .go (owns 5 0 1))] [6, 9, 20] (fun _ => []) (fun _ L => (L.set 5 (bx (γ41 3) (#[.slice (some ⟨g49, 0, none⟩) n cq49]) 24))) (fun _ => ?_)
           refine od_ ?_
           refine a1 1 rfl ?_
           refine qo0 1 [(1, .go (owns 4 0 1))] [6, 20] [(19, .int .i64 own)] ?_
           refine od_ ?_
           refine tk (m := 0) [4, 5] [] [6] [(7, .int .i64 own), (8, .int .i64 0)] ([]) #[true, true, true, true, true, true] al0 ?_
           exact any_weak hm [6, 7, 8] (by kernel_rfl) rfl rfl rfl
         ·
          refine qo0 1 [(1, .go (owns 4 0 1))] [6, 10, 20] [(19, .int .i64 own)] ?_
          refine od_ ?_
          refine a1 0 rfl ?_
          refine qo0 1 [(0, .go (owns 0 0 1))] [6, 19, 20] [(18, .agg #[.slice (some ⟨g49, 0, none⟩) n cq49])] ?_
          refine od_ ?_
          refine a1 3 rfl ?_
          refine mo0 1 [(3, .go (owns 5 0 1))] [6, 19, 20] (fun _ => []) (fun _ L => (L.set 5 (bx (γ41 3) (#[.slice (some ⟨g49, 0, none⟩) n cq49]) 24))) (fun _ => ?_)
          refine od_ ?_
          refine tk (m := 0) [4, 5] [] [6] [(7, .int .i64 own), (8, .int .i64 0)] ([]) #[true, true, true, true, true, true] al0 ?_
          exact any_weak hm [6, 7, 8] (by kernel_rfl) rfl rfl rfl
        refine any_nil (by kernel_rfl) ?_
        refine ds_ (bk (owns 5 0 1) (.tuple #[.agg #[.slice (some ⟨g49, 0, none⟩) n cq49], .int .i64 own, .int .i64 0]) (mo0 6 [(7, .go (owns 9 0 1))] [6] (fun _ => [(7, .int .i64 own), (8, .int .i64 0)]) (fun _ L => (L.set 9 (bx (γ1 2) (#[.slice (some ⟨g49, 0, none⟩) n cq49]) 24))) (fun _ => on_ (ds_ (rt (owns 9 0 1) (.tuple #[.agg #[.slice (some ⟨g49, 0, none⟩) n cq49], .int .i64 own, .int .i64 0]) ?_)))))
        exact fun w' hw => by rw [bindV_ok q3 q36 hg85, turnP_yes (y := y85) (z := (⟨y85.num, own, y85.peer, y85.pending, y85.masked⟩ : Port)) q132 (.inr q159), pos_of hg85]; exact ⟨_, _, _, _, rfl, (SlO.ofOwn (hOw49.put (x' := (⟨y85.num, own, y85.peer, y85.pending, y85.masked⟩ : Port)) hnq49 hy85 (f := 1) (by decide) rfl) (len_set hnq49)), hw.below, hw.tailN 12⟩
       ·
        refine cm 13 [(14, .go (outs b129 (o129 + (posB l y85.num) * 5 + 1) [.int .i64 y85.vcpu])), (18, .go (ownps 11 (0 + (posB l k) * 5 + 1) [.int .i64 own])), (19, .no)] [4, 8] [(60, .bool false)] (cellsP w b129 (o129 + (posB l y85.num) * 5 + 1) [.int .i64 y85.vcpu] ++ (acellsP ((cs49).setIfInBounds (0 + (posB l k) * 5 + 1) (.int .i64 own)) (0 + (posB l k) * 5 + 1) [.int .i64 own] ++ ([¬ ((y85.vcpu : Int) ≠ (own : Int))]))) (by kernel_rfl) rfl (alA (rd_part (hsl.get (get_pos (ris_asc l 0 (right_ris q3)) (get_self hg85)).1) 1 _ rfl) (alA (rda_part (((hOw49.put (x' := (⟨y85.num, own, y85.peer, y85.pending, y85.masked⟩ : Port)) hnq49 hy85 (f := 1) (by decide) rfl).rdx (len_set hnq49) (get_set hy85))) 1 _ rfl) (al1 q159))) ?_
        refine calm_nil' ?_
        refine ds_ (f_ (at_skip (ds_ (sq_ (qa0 [] [] [(6, .int .i64 0)] (ds_ (bk ([]) (.int .i64 0) (qo0 1 [] [4, 7] [(8, .int .i64 0)] (on_ (ds_ (sq_ (qa0 [] [4, 7, 8] [(22, .bool false)] (ds_ (f_ (at_skip (ds_ (sq_ (ma0 [(0, .go (owns 0 0 1)), (1, .go (owns 1 0 1))] [4] (fun _ => [(5, .int .i64 0)]) (fun _ L => (L.set 1 (bx (γ44 1) (#[.slice (some ⟨g49, 0, none⟩) n cq49]) 24))) (fun _ => ds_ (bk (owns 1 0 1) (.tuple #[.agg #[.slice (some ⟨g49, 0, none⟩) n cq49], .int .i64 0]) (mo0 6 [(7, .go (owns 0 0 1))] [6, 9] (fun γ190 => [(10, .pointer (some ⟨γ190 0, 0, none⟩)), (11, .int .i64 0)]) (fun γ190 L => bx (γ190 0) (#[.slice (some ⟨g49, 0, none⟩) n cq49]) 24 :: L) (fun γ190 => on_ (ds_ (sq_ ?_))))))))))))))))))))))))
        refine at_any (by kernel_rfl) ?_
        refine tk (m := 5) [2] [] [6, 9, 10] [(20, .int .i64 0)] ([]) #[false, false, true, false, false, false] al0 ?_
        refine any_cut 0 #[true, true, true, true, true, true] ([(6, .pointer (some ⟨γ41 3, 0, none⟩)), (7, .int .i64 0), (8, .int .i64 0)]) ([bx (γ190 0) (#[.slice (some ⟨g49, 0, none⟩) n cq49]) 24, bx (γ81 0) (#[.slice (some ⟨g49, 0, none⟩) n cq49]) 24, bx (γ44 1) (#[.slice (some ⟨g49, 0, none⟩) n cq49]) 24, bx (γ44 0) (#[.slice (some ⟨b129, o129, none⟩) n cap]) 24, bx (γ42 0) (#[.int .i64 0]) 3, bx (γ41 3) (#[.slice (some ⟨g49, 0, none⟩) n cq49]) 24, bx (γ41 2) (#[.func (.func 69) #[] #[.pointer (some ⟨γ1 1, 0, none⟩)]]) 75, bx (γ41 1) (#[.int .i64 k]) 3, bx (γ41 0) (#[.slice (some ⟨b129, o129, none⟩) n cap]) 24, bx (γ1 2) (#[.slice none 0 0]) 24, bx (γ1 1) (#[.int .i64 own]) 3, bx (γ1 0) (#[.slice (some ⟨b129, o129, none⟩) n cap]) 24, bx g49 ((cs49).setIfInBounds (0 + (posB l k) * 5 + 1) (.int .i64 own)) 40]) ?_ (fun hm => ?_)
        rotate_left
        ·
         refine any_fork [0, 1] (by kernel_rfl) (by simp) (each_cons _ rfl ?_ (each_cons _ rfl ?_ (each_nil)))
         ·
          refine qo0 1 [(0, .go (owns 0 0 1))] [6, 9, 20] [(18, .agg #[.slice (some ⟨g49, 0, none⟩) n cq49])] ?_
          refine od_ ?_
          refine any_fork [1, 3] (by kernel_rfl) (by simp) (each_cons _ rfl ?_ (each_cons _ rfl ?_ (each_nil)))
          ·
           refine qo0 1 [(1, .go (owns 4 0 1))] [6, 18, 20] [(19, .int .i64 0)] ?_
           refine od_ ?_
           refine a1 3 rfl ?_
           refine mo0 1 [(3, .go (owns 5 0 1))] [6, 19, 20] (fun _ => []) (fun _ L => (L.set 5 (bx (γ41 3) (#[.slice (some ⟨g49, 0, none⟩) n cq49]) 24))) (fun _ => ?_)
           refine od_ ?_
           refine tk (m := 0) [4, 5] [] [6] [(7, .int .i64 0), (8, .int .i64 0)] ([]) #[true, true, true, true, true, true] al0 ?_
           exact any_weak hm [6, 7, 8] (by kernel_rfl) rfl rfl rfl
          ·
           refine mo0 1 [(3, .go (owns 5 0 1))] [6, 9, 20] (fun _ => []) (fun _ L => (L.set 5 (bx (γ41 3) (#[.slice (some ⟨g49, 0, none⟩) n cq49]) 24))) (fun _ => ?_)
           refine od_ ?_
           refine a1 1 rfl ?_
           refine qo0 1 [(1, .go (owns 4 0 1))] [6, 20] [(19, .int .i64 0)] ?_
           refine od_ ?_
           refine tk (m := 0) [4, 5] [] [6] [(7, .int .i64 0), (8, .int .i64 0)] ([]) #[true, true, true, true, true, true] al0 ?_
           exact any_weak hm [6, 7, 8] (by kernel_rfl) rfl rfl rfl
         ·
          refine qo0 1 [(1, .go (owns 4 0 1))] [6, 10, 20] [(19, .int .i64 0)] ?_
          refine od_ ?_
          refine a1 0 rfl ?_
          refine qo0 1 [(0, .go (owns 0 0 1))] [6, 19, 20] [(18, .agg #[.slice (some ⟨g49, 0, none⟩) n cq49])] ?_
          refine od_ ?_
          refine a1 3 rfl ?_
          refine mo0 1 [(3, .go (owns 5 0 1))] [6, 19, 20] (fun _ => []) (fun _ L => (L.set 5 (bx (γ41 3) (#[.slice (some ⟨g49, 0, none⟩) n cq49]) 24))) (fun _ => ?_)
          refine od_ ?_
          refine tk (m := 0) [4, 5] [] [6] [(7, .int .i64 0), (8, .int .i64 0)] ([]) #[true, true, true, true, true, true] al0 ?_
          exact any_weak hm [6, 7, 8] (by kernel_rfl) rfl rfl rfl
        refine any_nil (by kernel_rfl) ?_
        refine ds_ (bk (owns 5 0 1) (.tuple #[.agg #[.slice (some ⟨g49, 0, none⟩) n cq49], .int .i64 0, .int .i64 0]) (mo0 6 [(7, .go (owns 9 0 1))] [6] (fun _ => [(7, .int .i64 0), (8, .int .i64 0)]) (fun _ L => (L.set 9 (bx (γ1 2) (#[.slice (some ⟨g49, 0, none⟩) n cq49]) 24))) (fun _ => on_ (ds_ (rt (owns 9 0 1) (.tuple #[.agg #[.slice (some ⟨g49, 0, none⟩) n cq49], .int .i64 0, .int .i64 0]) ?_)))))
        exact fun w' hw => by rw [bindV_ok q3 q36 hg85, turnP_no (y := y85) (z := (⟨y85.num, own, y85.peer, y85.pending, y85.masked⟩ : Port)) (fun ⟨_, b⟩ => b.elim (fun e => absurd (e.symm.trans q132) (by decide)) q159), pos_of hg85]; exact ⟨_, _, _, _, rfl, (SlO.ofOwn (hOw49.put (x' := (⟨y85.num, own, y85.peer, y85.pending, y85.masked⟩ : Port)) hnq49 hy85 (f := 1) (by decide) rfl) (len_set hnq49)), hw.below, hw.tailN 12⟩
end Go.Proofs.Ytfhlmijdokfdpaa

/-! Op.run. -/
namespace Go.Proofs.Ytfhlmijdokfdpaa
open Go Go.RowKit

set_option maxRecDepth 100000 in
theorem run_d (o : OpA) (p : Option Addr) (n cap : Nat) (l : List Port) (w : World)
 (hsl : Sv w p l) (hn : n = l.length) (hb : n ≤ 1000)
 : Calls Try.prog 24 #[.agg #[.int .i64 o.kind, .int .i64 o.a, .int .i64 o.b, .int .i64 o.vcpu, .bool o.on], .agg #[.slice p n cap]] w fun e w' => ∃ q m capq Y, e = .returned (.agg #[.slice q m capq, .int .i64 (runV l o).2.1, .bool (runV l o).2.2.1, .int .i64 (runV l o).2.2.2]) ∧ SlO 40 Y q m capq (runV l o).1 ∧ Below w.heap.size w w' ∧ Hs w Y w' := by
 refine enter (Hs.start w) Try.func24 rfl Try.ntmps24 rfl (sq_ (ma0 [] [] (fun γ1 => [(2, .pointer (some ⟨γ1 0, 0, none⟩)), (3, .pointer (some ⟨γ1 1, 0, none⟩)), (4, .pointer (some ⟨γ1 2, 0, none⟩))]) (fun γ1 L => bx (γ1 2) (#[.slice none 0 0, .int .i64 0, .bool false, .int .i64 0]) 53 :: bx (γ1 1) (#[.slice p n cap]) 24 :: bx (γ1 0) (#[.int .i64 o.kind, .int .i64 o.a, .int .i64 o.b, .int .i64 o.vcpu, .bool o.on]) 51 :: L) (fun γ1 => ds_ (sq_ (sq_ (qa0 [(1, .go (owns 2 0 1))] [2, 3, 4] [(8, .int .u64 (kdI o.kind))] (ds_ (at_block (sq_ (sq_ ?_))))))))))
 by_cases q4 : (kdI o.kind : Int) = (0 : Int)
 ·
  refine qa [(0, .yes)] [2, 3, 4, 8] [(20, .bool true)] ([(kdI o.kind : Int) = (0 : Int)]) (al1 q4) (ds_ (t_ (at_skip (ds_ (t_ (ao_ (qo0 3 [(0, .go (owns 1 0 1)), (2, .go (owns 2 3 1))] [4] [(24, .agg #[.slice p n cap]), (26, .int .i64 o.vcpu)] (cP (fun v L' => ∃ q_ m_ c_ Y_, v = .tuple #[.agg #[.slice q_ m_ c_], .int .i64 ((openV l o.vcpu).2.1), .int .i64 ((openV l o.vcpu).2.2)] ∧ L' = List.take 3 ([bx (γ1 2) (#[.slice none 0 0, .int .i64 0, .bool false, .int .i64 0]) 53, bx (γ1 1) (#[.slice p n cap]) 24, bx (γ1 0) (#[.int .i64 o.kind, .int .i64 o.a, .int .i64 o.b, .int .i64 o.vcpu, .bool o.on]) 51]) ++ (Y_ ++ List.drop 3 ([bx (γ1 2) (#[.slice none 0 0, .int .i64 0, .bool false, .int .i64 0]) 53, bx (γ1 1) (#[.slice p n cap]) 24, bx (γ1 0) (#[.int .i64 o.kind, .int .i64 o.a, .int .i64 o.b, .int .i64 o.vcpu, .bool o.on]) 51])) ∧ SlO 40 Y_ q_ m_ c_ (openV l o.vcpu).1) Try.call28 (fun w hw => (open_d p n cap l o.vcpu w (hsl.kept hw.below) hn (by omega)).mono fun e w' ⟨q_, m_, c_, Y_, he, hO, hb, hY⟩ => ⟨_, _, he, ⟨q_, m_, c_, Y_, rfl, rfl, hO⟩, hw.join hb hY 3⟩) ?_))))))))
  rintro v7 L7 ⟨q7, m7, cq7, Y7, rfl, rfl, hO7⟩
  refine mo0 10 [(9, .go (owns 0 0 1)), (11, .go (owns 0 1 1)), (13, .go (owns 0 3 1))] [4] (fun _ => []) (fun _ L => (L.set 0 (bx (γ1 2) (#[.slice q7 m7 cq7, .int .i64 ((openV l o.vcpu).2.1), .bool false, .int .i64 ((openV l o.vcpu).2.2)]) 53))) (fun _ => on_ (done_block (ds_ (sq_ (qa0 [(0, .go (owns 0 0 4)), (1, .go (owns 0 0 4))] [4] [] (ds_ (rt (owns 0 0 4) (.agg #[.slice q7 m7 cq7, .int .i64 ((openV l o.vcpu).2.1), .bool false, .int .i64 ((openV l o.vcpu).2.2)]) ?_)))))))
  exact fun w' hw => by rw [show runV l o = ((openV l o.vcpu).1, (openV l o.vcpu).2.1, false, (openV l o.vcpu).2.2) from by simp only [runV, if_pos q4]]; exact ⟨_, _, _, _, rfl, hO7, hw.below, (hs_nil (Hs.pick [[bx (γ1 2) (#[.slice q7 m7 cq7, .int .i64 ((openV l o.vcpu).2.1), .bool false, .int .i64 ((openV l o.vcpu).2.2)]) 53], [bx (γ1 1) (#[.slice p n cap]) 24], [bx (γ1 0) (#[.int .i64 o.kind, .int .i64 o.a, .int .i64 o.b, .int .i64 o.vcpu, .bool o.on]) 51], Y7] [3] [0, 1, 2] (by kernel_rfl) hw))⟩
 ·
  refine qa [(0, .no)] [2, 3, 4, 8] [(20, .bool false)] ([¬ ((kdI o.kind : Int) = (0 : Int))]) (al1 q4) (ds_ (f_ ?_))
  by_cases q12 : (kdI o.kind : Int) = (1 : Int)
  ·
   refine qa [(0, .yes)] [2, 3, 4, 8] [(20, .bool true)] ([(kdI o.kind : Int) = (1 : Int)]) (al1 q12) (ds_ (t_ (ao_ (qo0 3 [(0, .go (owns 1 0 1)), (2, .go (owns 2 3 1))] [4] [(24, .agg #[.slice p n cap]), (26, .int .i64 o.vcpu)] (cP (fun v L' => ∃ q_ m_ c_ Y_, v = .tuple #[.agg #[.slice q_ m_ c_], .int .i64 ((openV l o.vcpu).2.1), .int .i64 ((openV l o.vcpu).2.2)] ∧ L' = List.take 3 ([bx (γ1 2) (#[.slice none 0 0, .int .i64 0, .bool false, .int .i64 0]) 53, bx (γ1 1) (#[.slice p n cap]) 24, bx (γ1 0) (#[.int .i64 o.kind, .int .i64 o.a, .int .i64 o.b, .int .i64 o.vcpu, .bool o.on]) 51]) ++ (Y_ ++ List.drop 3 ([bx (γ1 2) (#[.slice none 0 0, .int .i64 0, .bool false, .int .i64 0]) 53, bx (γ1 1) (#[.slice p n cap]) 24, bx (γ1 0) (#[.int .i64 o.kind, .int .i64 o.a, .int .i64 o.b, .int .i64 o.vcpu, .bool o.on]) 51])) ∧ SlO 40 Y_ q_ m_ c_ (openV l o.vcpu).1) Try.call28 (fun w hw => (open_d p n cap l o.vcpu w (hsl.kept hw.below) hn (by omega)).mono fun e w' ⟨q_, m_, c_, Y_, he, hO, hb, hY⟩ => ⟨_, _, he, ⟨q_, m_, c_, Y_, rfl, rfl, hO⟩, hw.join hb hY 3⟩) ?_)))))
   rintro v15 L15 ⟨q15, m15, cq15, Y15, rfl, rfl, hO15⟩
   refine mo0 10 [(9, .go (owns 0 0 1)), (11, .go (owns 0 1 1)), (13, .go (owns 0 3 1))] [4] (fun _ => []) (fun _ L => (L.set 0 (bx (γ1 2) (#[.slice q15 m15 cq15, .int .i64 ((openV l o.vcpu).2.1), .bool false, .int .i64 ((openV l o.vcpu).2.2)]) 53))) (fun _ => on_ (done_block (ds_ (sq_ (qa0 [(0, .go (owns 0 0 4)), (1, .go (owns 0 0 4))] [4] [] (ds_ (rt (owns 0 0 4) (.agg #[.slice q15 m15 cq15, .int .i64 ((openV l o.vcpu).2.1), .bool false, .int .i64 ((openV l o.vcpu).2.2)]) ?_)))))))
   exact fun w' hw => by rw [show runV l o = ((openV l o.vcpu).1, (openV l o.vcpu).2.1, false, (openV l o.vcpu).2.2) from by simp only [runV, if_neg q4, if_pos q12]]; exact ⟨_, _, _, _, rfl, hO15, hw.below, (hs_nil (Hs.pick [[bx (γ1 2) (#[.slice q15 m15 cq15, .int .i64 ((openV l o.vcpu).2.1), .bool false, .int .i64 ((openV l o.vcpu).2.2)]) 53], [bx (γ1 1) (#[.slice p n cap]) 24], [bx (γ1 0) (#[.int .i64 o.kind, .int .i64 o.a, .int .i64 o.b, .int .i64 o.vcpu, .bool o.on]) 51], Y15] [3] [0, 1, 2] (by kernel_rfl) hw))⟩
  ·
   refine qa [(0, .no)] [2, 3, 4, 8] [(20, .bool false)] ([¬ ((kdI o.kind : Int) = (1 : Int))]) (al1 q12) (ds_ (f_ (sq_ ?_)))
   by_cases q20 : (kdI o.kind : Int) = (2 : Int)
   ·
    refine qa [(0, .yes)] [2, 3, 4, 8] [(34, .bool true)] ([(kdI o.kind : Int) = (2 : Int)]) (al1 q20) (ds_ (t_ (ao_ (qo0 5 [(0, .go (owns 1 0 1)), (2, .go (owns 2 1 1)), (4, .go (owns 2 2 1))] [4] [(37, .agg #[.slice p n cap]), (39, .int .i64 o.a), (41, .int .i64 o.b)] (cP (fun v L' => ∃ q_ m_ c_ Y_, v = .tuple #[.agg #[.slice q_ m_ c_], .int .i64 ((linkV l o.a o.b).2)] ∧ L' = List.take 3 ([bx (γ1 2) (#[.slice none 0 0, .int .i64 0, .bool false, .int .i64 0]) 53, bx (γ1 1) (#[.slice p n cap]) 24, bx (γ1 0) (#[.int .i64 o.kind, .int .i64 o.a, .int .i64 o.b, .int .i64 o.vcpu, .bool o.on]) 51]) ++ (Y_ ++ List.drop 3 ([bx (γ1 2) (#[.slice none 0 0, .int .i64 0, .bool false, .int .i64 0]) 53, bx (γ1 1) (#[.slice p n cap]) 24, bx (γ1 0) (#[.int .i64 o.kind, .int .i64 o.a, .int .i64 o.b, .int .i64 o.vcpu, .bool o.on]) 51])) ∧ SlO 40 Y_ q_ m_ c_ (linkV l o.a o.b).1) Try.call29 (fun w hw => (link_d p n cap l o.a o.b w (hsl.kept hw.below) hn (by omega)).mono fun e w' ⟨q_, m_, c_, Y_, he, hO, hb, hY⟩ => ⟨_, _, he, ⟨q_, m_, c_, Y_, rfl, rfl, hO⟩, hw.join hb hY 3⟩) ?_)))))
    rintro v23 L23 ⟨q23, m23, cq23, Y23, rfl, rfl, hO23⟩
    refine mo0 7 [(10, .go (owns 0 0 1)), (12, .go (owns 0 3 1))] [4] (fun _ => []) (fun _ L => (L.set 0 (bx (γ1 2) (#[.slice q23 m23 cq23, .int .i64 0, .bool false, .int .i64 ((linkV l o.a o.b).2)]) 53))) (fun _ => on_ (done_block (ds_ (sq_ (qa0 [(0, .go (owns 0 0 4)), (1, .go (owns 0 0 4))] [4] [] (ds_ (rt (owns 0 0 4) (.agg #[.slice q23 m23 cq23, .int .i64 0, .bool false, .int .i64 ((linkV l o.a o.b).2)]) ?_)))))))
    exact fun w' hw => by rw [show runV l o = ((linkV l o.a o.b).1, 0, false, (linkV l o.a o.b).2) from by simp only [runV, if_neg q4, if_neg q12, if_pos q20]]; exact ⟨_, _, _, _, rfl, hO23, hw.below, (hs_nil (Hs.pick [[bx (γ1 2) (#[.slice q23 m23 cq23, .int .i64 0, .bool false, .int .i64 ((linkV l o.a o.b).2)]) 53], [bx (γ1 1) (#[.slice p n cap]) 24], [bx (γ1 0) (#[.int .i64 o.kind, .int .i64 o.a, .int .i64 o.b, .int .i64 o.vcpu, .bool o.on]) 51], Y23] [3] [0, 1, 2] (by kernel_rfl) hw))⟩
   ·
    refine qa [(0, .no)] [2, 3, 4, 8] [(34, .bool false)] ([¬ ((kdI o.kind : Int) = (2 : Int))]) (al1 q20) (ds_ (f_ (sq_ ?_)))
    by_cases q28 : (kdI o.kind : Int) = (3 : Int)
    ·
     refine qa [(0, .yes)] [2, 3, 4, 8] [(47, .bool true)] ([(kdI o.kind : Int) = (3 : Int)]) (al1 q28) (ds_ (t_ (ao_ (qo0 3 [(0, .go (owns 1 0 1)), (2, .go (owns 2 1 1))] [4] [(50, .agg #[.slice p n cap]), (52, .int .i64 o.a)] (cP (fun v L' => ∃ q_ m_ c_ Y_, v = .tuple #[.agg #[.slice q_ m_ c_], .int .i64 ((closeV l o.a).2)] ∧ L' = List.take 3 ([bx (γ1 2) (#[.slice none 0 0, .int .i64 0, .bool false, .int .i64 0]) 53, bx (γ1 1) (#[.slice p n cap]) 24, bx (γ1 0) (#[.int .i64 o.kind, .int .i64 o.a, .int .i64 o.b, .int .i64 o.vcpu, .bool o.on]) 51]) ++ (Y_ ++ List.drop 3 ([bx (γ1 2) (#[.slice none 0 0, .int .i64 0, .bool false, .int .i64 0]) 53, bx (γ1 1) (#[.slice p n cap]) 24, bx (γ1 0) (#[.int .i64 o.kind, .int .i64 o.a, .int .i64 o.b, .int .i64 o.vcpu, .bool o.on]) 51])) ∧ SlO 40 Y_ q_ m_ c_ (closeV l o.a).1) Try.call42 (fun w hw => (close_d p n cap l o.a w (hsl.kept hw.below) hn (by omega)).mono fun e w' ⟨q_, m_, c_, Y_, he, hO, hb, hY⟩ => ⟨_, _, he, ⟨q_, m_, c_, Y_, rfl, rfl, hO⟩, hw.join hb hY 3⟩) ?_)))))
     rintro v31 L31 ⟨q31, m31, cq31, Y31, rfl, rfl, hO31⟩
     refine mo0 7 [(8, .go (owns 0 0 1)), (10, .go (owns 0 3 1))] [4] (fun _ => []) (fun _ L => (L.set 0 (bx (γ1 2) (#[.slice q31 m31 cq31, .int .i64 0, .bool false, .int .i64 ((closeV l o.a).2)]) 53))) (fun _ => on_ (done_block (ds_ (sq_ (qa0 [(0, .go (owns 0 0 4)), (1, .go (owns 0 0 4))] [4] [] (ds_ (rt (owns 0 0 4) (.agg #[.slice q31 m31 cq31, .int .i64 0, .bool false, .int .i64 ((closeV l o.a).2)]) ?_)))))))
     exact fun w' hw => by rw [show runV l o = ((closeV l o.a).1, 0, false, (closeV l o.a).2) from by simp only [runV, if_neg q4, if_neg q12, if_neg q20, if_pos q28]]; exact ⟨_, _, _, _, rfl, hO31, hw.below, (hs_nil (Hs.pick [[bx (γ1 2) (#[.slice q31 m31 cq31, .int .i64 0, .bool false, .int .i64 ((closeV l o.a).2)]) 53], [bx (γ1 1) (#[.slice p n cap]) 24], [bx (γ1 0) (#[.int .i64 o.kind, .int .i64 o.a, .int .i64 o.b, .int .i64 o.vcpu, .bool o.on]) 51], Y31] [3] [0, 1, 2] (by kernel_rfl) hw))⟩
    ·
     refine qa [(0, .no)] [2, 3, 4, 8] [(47, .bool false)] ([¬ ((kdI o.kind : Int) = (3 : Int))]) (al1 q28) (ds_ (f_ (sq_ ?_)))
     by_cases q36 : (kdI o.kind : Int) = (4 : Int)
     ·
      refine qa [(0, .yes)] [2, 3, 4, 8] [(58, .bool true)] ([(kdI o.kind : Int) = (4 : Int)]) (al1 q36) (ds_ (t_ (ao_ (qo0 3 [(0, .go (owns 1 0 1)), (2, .go (owns 2 3 1))] [4] [(61, .agg #[.slice p n cap]), (63, .int .i64 o.vcpu)] (cP (fun v L' => ∃ q_ m_ c_ Y_, v = .tuple #[.agg #[.slice q_ m_ c_], .int .i64 ((dropV l o.vcpu).2.1), .int .i64 ((dropV l o.vcpu).2.2)] ∧ L' = List.take 3 ([bx (γ1 2) (#[.slice none 0 0, .int .i64 0, .bool false, .int .i64 0]) 53, bx (γ1 1) (#[.slice p n cap]) 24, bx (γ1 0) (#[.int .i64 o.kind, .int .i64 o.a, .int .i64 o.b, .int .i64 o.vcpu, .bool o.on]) 51]) ++ (Y_ ++ List.drop 3 ([bx (γ1 2) (#[.slice none 0 0, .int .i64 0, .bool false, .int .i64 0]) 53, bx (γ1 1) (#[.slice p n cap]) 24, bx (γ1 0) (#[.int .i64 o.kind, .int .i64 o.a, .int .i64 o.b, .int .i64 o.vcpu, .bool o.on]) 51])) ∧ SlO 40 Y_ q_ m_ c_ (dropV l o.vcpu).1) Try.call43 (fun w hw => (drop_d p n cap l o.vcpu w (hsl.kept hw.below) hn (by omega)).mono fun e w' ⟨q_, m_, c_, Y_, he, hO, hb, hY⟩ => ⟨_, _, he, ⟨q_, m_, c_, Y_, rfl, rfl, hO⟩, hw.join hb hY 3⟩) ?_)))))
      rintro v39 L39 ⟨q39, m39, cq39, Y39, rfl, rfl, hO39⟩
      refine mo0 10 [(9, .go (owns 0 0 1)), (11, .go (owns 0 1 1)), (13, .go (owns 0 3 1))] [4] (fun _ => []) (fun _ L => (L.set 0 (bx (γ1 2) (#[.slice q39 m39 cq39, .int .i64 ((dropV l o.vcpu).2.1), .bool false, .int .i64 ((dropV l o.vcpu).2.2)]) 53))) (fun _ => on_ (done_block (ds_ (sq_ (qa0 [(0, .go (owns 0 0 4)), (1, .go (owns 0 0 4))] [4] [] (ds_ (rt (owns 0 0 4) (.agg #[.slice q39 m39 cq39, .int .i64 ((dropV l o.vcpu).2.1), .bool false, .int .i64 ((dropV l o.vcpu).2.2)]) ?_)))))))
      exact fun w' hw => by rw [show runV l o = ((dropV l o.vcpu).1, (dropV l o.vcpu).2.1, false, (dropV l o.vcpu).2.2) from by simp only [runV, if_neg q4, if_neg q12, if_neg q20, if_neg q28, if_pos q36]]; exact ⟨_, _, _, _, rfl, hO39, hw.below, (hs_nil (Hs.pick [[bx (γ1 2) (#[.slice q39 m39 cq39, .int .i64 ((dropV l o.vcpu).2.1), .bool false, .int .i64 ((dropV l o.vcpu).2.2)]) 53], [bx (γ1 1) (#[.slice p n cap]) 24], [bx (γ1 0) (#[.int .i64 o.kind, .int .i64 o.a, .int .i64 o.b, .int .i64 o.vcpu, .bool o.on]) 51], Y39] [3] [0, 1, 2] (by kernel_rfl) hw))⟩
     ·
      refine qa [(0, .no)] [2, 3, 4, 8] [(58, .bool false)] ([¬ ((kdI o.kind : Int) = (4 : Int))]) (al1 q36) (ds_ (f_ (sq_ (sq_ ?_))))
      by_cases q44 : (kdI o.kind : Int) = (5 : Int)
      ·
       refine qa [(0, .yes)] [2, 3, 4, 8] [(71, .bool true)] ([(kdI o.kind : Int) = (5 : Int)]) (al1 q44) (ds_ (t_ (at_skip (ds_ (t_ (ao_ (qo0 3 [(0, .go (owns 1 0 1)), (2, .go (owns 2 1 1))] [4] [(76, .agg #[.slice p n cap]), (78, .int .i64 o.a)] (cP (fun v L' => ∃ q_ m_ c_ Y_, v = .tuple #[.agg #[.slice q_ m_ c_], .int .i64 ((sendV l o.a).2.1), .int .i64 ((sendV l o.a).2.2)] ∧ L' = List.take 3 ([bx (γ1 2) (#[.slice none 0 0, .int .i64 0, .bool false, .int .i64 0]) 53, bx (γ1 1) (#[.slice p n cap]) 24, bx (γ1 0) (#[.int .i64 o.kind, .int .i64 o.a, .int .i64 o.b, .int .i64 o.vcpu, .bool o.on]) 51]) ++ (Y_ ++ List.drop 3 ([bx (γ1 2) (#[.slice none 0 0, .int .i64 0, .bool false, .int .i64 0]) 53, bx (γ1 1) (#[.slice p n cap]) 24, bx (γ1 0) (#[.int .i64 o.kind, .int .i64 o.a, .int .i64 o.b, .int .i64 o.vcpu, .bool o.on]) 51])) ∧ SlO 40 Y_ q_ m_ c_ (sendV l o.a).1) Try.call30 (fun w hw => (send_d p n cap l o.a w (hsl.kept hw.below) hn (by omega)).mono fun e w' ⟨q_, m_, c_, Y_, he, hO, hb, hY⟩ => ⟨_, _, he, ⟨q_, m_, c_, Y_, rfl, rfl, hO⟩, hw.join hb hY 3⟩) ?_))))))))
       rintro v47 L47 ⟨q47, m47, cq47, Y47, rfl, rfl, hO47⟩
       refine mo0 10 [(9, .go (owns 0 0 1)), (11, .go (owns 0 1 1)), (13, .go (owns 0 3 1))] [4] (fun _ => []) (fun _ L => (L.set 0 (bx (γ1 2) (#[.slice q47 m47 cq47, .int .i64 ((sendV l o.a).2.1), .bool false, .int .i64 ((sendV l o.a).2.2)]) 53))) (fun _ => on_ (done_block (ds_ (sq_ (qa0 [(0, .go (owns 0 0 4)), (1, .go (owns 0 0 4))] [4] [] (ds_ (rt (owns 0 0 4) (.agg #[.slice q47 m47 cq47, .int .i64 ((sendV l o.a).2.1), .bool false, .int .i64 ((sendV l o.a).2.2)]) ?_)))))))
       exact fun w' hw => by rw [show runV l o = ((sendV l o.a).1, (sendV l o.a).2.1, false, (sendV l o.a).2.2) from by simp only [runV, if_neg q4, if_neg q12, if_neg q20, if_neg q28, if_neg q36, if_pos q44]]; exact ⟨_, _, _, _, rfl, hO47, hw.below, (hs_nil (Hs.pick [[bx (γ1 2) (#[.slice q47 m47 cq47, .int .i64 ((sendV l o.a).2.1), .bool false, .int .i64 ((sendV l o.a).2.2)]) 53], [bx (γ1 1) (#[.slice p n cap]) 24], [bx (γ1 0) (#[.int .i64 o.kind, .int .i64 o.a, .int .i64 o.b, .int .i64 o.vcpu, .bool o.on]) 51], Y47] [3] [0, 1, 2] (by kernel_rfl) hw))⟩
      ·
       refine qa [(0, .no)] [2, 3, 4, 8] [(71, .bool false)] ([¬ ((kdI o.kind : Int) = (5 : Int))]) (al1 q44) (ds_ (f_ (sq_ ?_)))
       by_cases q52 : (kdI o.kind : Int) = (6 : Int)
       ·
        refine qa [(0, .yes)] [2, 3, 4, 8] [(71, .bool true)] ([(kdI o.kind : Int) = (6 : Int)]) (al1 q52) (ds_ (t_ (at_skip (ds_ (t_ (ao_ (qo0 3 [(0, .go (owns 1 0 1)), (2, .go (owns 2 1 1))] [4] [(76, .agg #[.slice p n cap]), (78, .int .i64 o.a)] (cP (fun v L' => ∃ q_ m_ c_ Y_, v = .tuple #[.agg #[.slice q_ m_ c_], .int .i64 ((sendV l o.a).2.1), .int .i64 ((sendV l o.a).2.2)] ∧ L' = List.take 3 ([bx (γ1 2) (#[.slice none 0 0, .int .i64 0, .bool false, .int .i64 0]) 53, bx (γ1 1) (#[.slice p n cap]) 24, bx (γ1 0) (#[.int .i64 o.kind, .int .i64 o.a, .int .i64 o.b, .int .i64 o.vcpu, .bool o.on]) 51]) ++ (Y_ ++ List.drop 3 ([bx (γ1 2) (#[.slice none 0 0, .int .i64 0, .bool false, .int .i64 0]) 53, bx (γ1 1) (#[.slice p n cap]) 24, bx (γ1 0) (#[.int .i64 o.kind, .int .i64 o.a, .int .i64 o.b, .int .i64 o.vcpu, .bool o.on]) 51])) ∧ SlO 40 Y_ q_ m_ c_ (sendV l o.a).1) Try.call30 (fun w hw => (send_d p n cap l o.a w (hsl.kept hw.below) hn (by omega)).mono fun e w' ⟨q_, m_, c_, Y_, he, hO, hb, hY⟩ => ⟨_, _, he, ⟨q_, m_, c_, Y_, rfl, rfl, hO⟩, hw.join hb hY 3⟩) ?_))))))))
        rintro v55 L55 ⟨q55, m55, cq55, Y55, rfl, rfl, hO55⟩
        refine mo0 10 [(9, .go (owns 0 0 1)), (11, .go (owns 0 1 1)), (13, .go (owns 0 3 1))] [4] (fun _ => []) (fun _ L => (L.set 0 (bx (γ1 2) (#[.slice q55 m55 cq55, .int .i64 ((sendV l o.a).2.1), .bool false, .int .i64 ((sendV l o.a).2.2)]) 53))) (fun _ => on_ (done_block (ds_ (sq_ (qa0 [(0, .go (owns 0 0 4)), (1, .go (owns 0 0 4))] [4] [] (ds_ (rt (owns 0 0 4) (.agg #[.slice q55 m55 cq55, .int .i64 ((sendV l o.a).2.1), .bool false, .int .i64 ((sendV l o.a).2.2)]) ?_)))))))
        exact fun w' hw => by rw [show runV l o = ((sendV l o.a).1, (sendV l o.a).2.1, false, (sendV l o.a).2.2) from by simp only [runV, if_neg q4, if_neg q12, if_neg q20, if_neg q28, if_neg q36, if_neg q44, if_pos q52]]; exact ⟨_, _, _, _, rfl, hO55, hw.below, (hs_nil (Hs.pick [[bx (γ1 2) (#[.slice q55 m55 cq55, .int .i64 ((sendV l o.a).2.1), .bool false, .int .i64 ((sendV l o.a).2.2)]) 53], [bx (γ1 1) (#[.slice p n cap]) 24], [bx (γ1 0) (#[.int .i64 o.kind, .int .i64 o.a, .int .i64 o.b, .int .i64 o.vcpu, .bool o.on]) 51], Y55] [3] [0, 1, 2] (by kernel_rfl) hw))⟩
       ·
        refine qa [(0, .no)] [2, 3, 4, 8] [(71, .bool false)] ([¬ ((kdI o.kind : Int) = (6 : Int))]) (al1 q52) (ds_ (f_ ?_))
        by_cases q60 : (kdI o.kind : Int) = (7 : Int)
        ·
         refine qa [(0, .yes)] [2, 3, 4, 8] [(71, .bool true)] ([(kdI o.kind : Int) = (7 : Int)]) (al1 q60) (ds_ (t_ (ao_ (qo0 3 [(0, .go (owns 1 0 1)), (2, .go (owns 2 1 1))] [4] [(76, .agg #[.slice p n cap]), (78, .int .i64 o.a)] (cP (fun v L' => ∃ q_ m_ c_ Y_, v = .tuple #[.agg #[.slice q_ m_ c_], .int .i64 ((sendV l o.a).2.1), .int .i64 ((sendV l o.a).2.2)] ∧ L' = List.take 3 ([bx (γ1 2) (#[.slice none 0 0, .int .i64 0, .bool false, .int .i64 0]) 53, bx (γ1 1) (#[.slice p n cap]) 24, bx (γ1 0) (#[.int .i64 o.kind, .int .i64 o.a, .int .i64 o.b, .int .i64 o.vcpu, .bool o.on]) 51]) ++ (Y_ ++ List.drop 3 ([bx (γ1 2) (#[.slice none 0 0, .int .i64 0, .bool false, .int .i64 0]) 53, bx (γ1 1) (#[.slice p n cap]) 24, bx (γ1 0) (#[.int .i64 o.kind, .int .i64 o.a, .int .i64 o.b, .int .i64 o.vcpu, .bool o.on]) 51])) ∧ SlO 40 Y_ q_ m_ c_ (sendV l o.a).1) Try.call30 (fun w hw => (send_d p n cap l o.a w (hsl.kept hw.below) hn (by omega)).mono fun e w' ⟨q_, m_, c_, Y_, he, hO, hb, hY⟩ => ⟨_, _, he, ⟨q_, m_, c_, Y_, rfl, rfl, hO⟩, hw.join hb hY 3⟩) ?_)))))
         rintro v63 L63 ⟨q63, m63, cq63, Y63, rfl, rfl, hO63⟩
         refine mo0 10 [(9, .go (owns 0 0 1)), (11, .go (owns 0 1 1)), (13, .go (owns 0 3 1))] [4] (fun _ => []) (fun _ L => (L.set 0 (bx (γ1 2) (#[.slice q63 m63 cq63, .int .i64 ((sendV l o.a).2.1), .bool false, .int .i64 ((sendV l o.a).2.2)]) 53))) (fun _ => on_ (done_block (ds_ (sq_ (qa0 [(0, .go (owns 0 0 4)), (1, .go (owns 0 0 4))] [4] [] (ds_ (rt (owns 0 0 4) (.agg #[.slice q63 m63 cq63, .int .i64 ((sendV l o.a).2.1), .bool false, .int .i64 ((sendV l o.a).2.2)]) ?_)))))))
         exact fun w' hw => by rw [show runV l o = ((sendV l o.a).1, (sendV l o.a).2.1, false, (sendV l o.a).2.2) from by simp only [runV, if_neg q4, if_neg q12, if_neg q20, if_neg q28, if_neg q36, if_neg q44, if_neg q52, if_pos q60]]; exact ⟨_, _, _, _, rfl, hO63, hw.below, (hs_nil (Hs.pick [[bx (γ1 2) (#[.slice q63 m63 cq63, .int .i64 ((sendV l o.a).2.1), .bool false, .int .i64 ((sendV l o.a).2.2)]) 53], [bx (γ1 1) (#[.slice p n cap]) 24], [bx (γ1 0) (#[.int .i64 o.kind, .int .i64 o.a, .int .i64 o.b, .int .i64 o.vcpu, .bool o.on]) 51], Y63] [3] [0, 1, 2] (by kernel_rfl) hw))⟩
        ·
         refine qa [(0, .no)] [2, 3, 4, 8] [(71, .bool false)] ([¬ ((kdI o.kind : Int) = (7 : Int))]) (al1 q60) (ds_ (f_ (sq_ ?_)))
         by_cases q68 : (kdI o.kind : Int) = (8 : Int)
         ·
          refine qa [(0, .yes)] [2, 3, 4, 8] [(86, .bool true)] ([(kdI o.kind : Int) = (8 : Int)]) (al1 q68) (ds_ (t_ (ao_ (qo0 3 [(0, .go (owns 1 0 1)), (2, .go (owns 2 1 1))] [4] [(89, .agg #[.slice p n cap]), (91, .int .i64 o.a)] (cP (fun v L' => ∃ q_ m_ c_ Y_, v = .tuple #[.agg #[.slice q_ m_ c_], .int .i64 ((turnV l o.a raiF).2.1), .int .i64 ((turnV l o.a raiF).2.2)] ∧ L' = List.take 3 ([bx (γ1 2) (#[.slice none 0 0, .int .i64 0, .bool false, .int .i64 0]) 53, bx (γ1 1) (#[.slice p n cap]) 24, bx (γ1 0) (#[.int .i64 o.kind, .int .i64 o.a, .int .i64 o.b, .int .i64 o.vcpu, .bool o.on]) 51]) ++ (Y_ ++ List.drop 3 ([bx (γ1 2) (#[.slice none 0 0, .int .i64 0, .bool false, .int .i64 0]) 53, bx (γ1 1) (#[.slice p n cap]) 24, bx (γ1 0) (#[.int .i64 o.kind, .int .i64 o.a, .int .i64 o.b, .int .i64 o.vcpu, .bool o.on]) 51])) ∧ SlO 40 Y_ q_ m_ c_ (turnV l o.a raiF).1) Try.call44 (fun w hw => (raise_d p n cap l o.a w (hsl.kept hw.below) hn (by omega)).mono fun e w' ⟨q_, m_, c_, Y_, he, hO, hb, hY⟩ => ⟨_, _, he, ⟨q_, m_, c_, Y_, rfl, rfl, hO⟩, hw.join hb hY 3⟩) ?_)))))
          rintro v71 L71 ⟨q71, m71, cq71, Y71, rfl, rfl, hO71⟩
          refine mo0 10 [(9, .go (owns 0 0 1)), (11, .go (owns 0 1 1)), (13, .go (owns 0 3 1))] [4] (fun _ => []) (fun _ L => (L.set 0 (bx (γ1 2) (#[.slice q71 m71 cq71, .int .i64 ((turnV l o.a raiF).2.1), .bool false, .int .i64 ((turnV l o.a raiF).2.2)]) 53))) (fun _ => on_ (done_block (ds_ (sq_ (qa0 [(0, .go (owns 0 0 4)), (1, .go (owns 0 0 4))] [4] [] (ds_ (rt (owns 0 0 4) (.agg #[.slice q71 m71 cq71, .int .i64 ((turnV l o.a raiF).2.1), .bool false, .int .i64 ((turnV l o.a raiF).2.2)]) ?_)))))))
          exact fun w' hw => by rw [show runV l o = ((turnV l o.a raiF).1, (turnV l o.a raiF).2.1, false, (turnV l o.a raiF).2.2) from by simp only [runV, if_neg q4, if_neg q12, if_neg q20, if_neg q28, if_neg q36, if_neg q44, if_neg q52, if_neg q60, if_pos q68]]; exact ⟨_, _, _, _, rfl, hO71, hw.below, (hs_nil (Hs.pick [[bx (γ1 2) (#[.slice q71 m71 cq71, .int .i64 ((turnV l o.a raiF).2.1), .bool false, .int .i64 ((turnV l o.a raiF).2.2)]) 53], [bx (γ1 1) (#[.slice p n cap]) 24], [bx (γ1 0) (#[.int .i64 o.kind, .int .i64 o.a, .int .i64 o.b, .int .i64 o.vcpu, .bool o.on]) 51], Y71] [3] [0, 1, 2] (by kernel_rfl) hw))⟩
         ·
          refine qa [(0, .no)] [2, 3, 4, 8] [(86, .bool false)] ([¬ ((kdI o.kind : Int) = (8 : Int))]) (al1 q68) (ds_ (f_ (sq_ ?_)))
          by_cases q76 : (kdI o.kind : Int) = (9 : Int)
          ·
           refine qa [(0, .yes)] [2, 3, 4, 8] [(99, .bool true)] ([(kdI o.kind : Int) = (9 : Int)]) (al1 q76) (ds_ (t_ (ao_ (qo0 5 [(0, .go (owns 1 0 1)), (2, .go (owns 2 1 1)), (4, .go (owns 2 4 1))] [4] [(102, .agg #[.slice p n cap]), (104, .int .i64 o.a), (106, .bool o.on)] (cP (fun v L' => ∃ q_ m_ c_ Y_, v = .tuple #[.agg #[.slice q_ m_ c_], .int .i64 ((turnV l o.a (masF o.on)).2.1), .int .i64 ((turnV l o.a (masF o.on)).2.2)] ∧ L' = List.take 3 ([bx (γ1 2) (#[.slice none 0 0, .int .i64 0, .bool false, .int .i64 0]) 53, bx (γ1 1) (#[.slice p n cap]) 24, bx (γ1 0) (#[.int .i64 o.kind, .int .i64 o.a, .int .i64 o.b, .int .i64 o.vcpu, .bool o.on]) 51]) ++ (Y_ ++ List.drop 3 ([bx (γ1 2) (#[.slice none 0 0, .int .i64 0, .bool false, .int .i64 0]) 53, bx (γ1 1) (#[.slice p n cap]) 24, bx (γ1 0) (#[.int .i64 o.kind, .int .i64 o.a, .int .i64 o.b, .int .i64 o.vcpu, .bool o.on]) 51])) ∧ SlO 40 Y_ q_ m_ c_ (turnV l o.a (masF o.on)).1) Try.call45 (fun w hw => (mask_d p n cap l o.a o.on w (hsl.kept hw.below) hn (by omega)).mono fun e w' ⟨q_, m_, c_, Y_, he, hO, hb, hY⟩ => ⟨_, _, he, ⟨q_, m_, c_, Y_, rfl, rfl, hO⟩, hw.join hb hY 3⟩) ?_)))))
           rintro v79 L79 ⟨q79, m79, cq79, Y79, rfl, rfl, hO79⟩
           refine mo0 10 [(11, .go (owns 0 0 1)), (13, .go (owns 0 1 1)), (15, .go (owns 0 3 1))] [4] (fun _ => []) (fun _ L => (L.set 0 (bx (γ1 2) (#[.slice q79 m79 cq79, .int .i64 ((turnV l o.a (masF o.on)).2.1), .bool false, .int .i64 ((turnV l o.a (masF o.on)).2.2)]) 53))) (fun _ => on_ (done_block (ds_ (sq_ (qa0 [(0, .go (owns 0 0 4)), (1, .go (owns 0 0 4))] [4] [] (ds_ (rt (owns 0 0 4) (.agg #[.slice q79 m79 cq79, .int .i64 ((turnV l o.a (masF o.on)).2.1), .bool false, .int .i64 ((turnV l o.a (masF o.on)).2.2)]) ?_)))))))
           exact fun w' hw => by rw [show runV l o = ((turnV l o.a (masF o.on)).1, (turnV l o.a (masF o.on)).2.1, false, (turnV l o.a (masF o.on)).2.2) from by simp only [runV, if_neg q4, if_neg q12, if_neg q20, if_neg q28, if_neg q36, if_neg q44, if_neg q52, if_neg q60, if_neg q68, if_pos q76]]; exact ⟨_, _, _, _, rfl, hO79, hw.below, (hs_nil (Hs.pick [[bx (γ1 2) (#[.slice q79 m79 cq79, .int .i64 ((turnV l o.a (masF o.on)).2.1), .bool false, .int .i64 ((turnV l o.a (masF o.on)).2.2)]) 53], [bx (γ1 1) (#[.slice p n cap]) 24], [bx (γ1 0) (#[.int .i64 o.kind, .int .i64 o.a, .int .i64 o.b, .int .i64 o.vcpu, .bool o.on]) 51], Y79] [3] [0, 1, 2] (by kernel_rfl) hw))⟩
          ·
           refine qa [(0, .no)] [2, 3, 4, 8] [(99, .bool false)] ([¬ ((kdI o.kind : Int) = (9 : Int))]) (al1 q76) (ds_ (f_ (sq_ ?_)))
           by_cases q84 : (kdI o.kind : Int) = (10 : Int)
           ·
            refine qa [(0, .yes)] [2, 3, 4] [(114, .bool true)] ([(kdI o.kind : Int) = (10 : Int)]) (al1 q84) (ds_ (t_ (ao_ (qo0 5 [(0, .go (owns 1 0 1)), (2, .go (owns 2 1 1)), (4, .go (owns 2 3 1))] [4] [(117, .agg #[.slice p n cap]), (119, .int .i64 o.a), (121, .int .i64 o.vcpu)] (cP (fun v L' => ∃ q_ m_ c_ Y_, v = .tuple #[.agg #[.slice q_ m_ c_], .int .i64 ((bindV l o.a o.vcpu).2.1), .int .i64 ((bindV l o.a o.vcpu).2.2)] ∧ L' = List.take 3 ([bx (γ1 2) (#[.slice none 0 0, .int .i64 0, .bool false, .int .i64 0]) 53, bx (γ1 1) (#[.slice p n cap]) 24, bx (γ1 0) (#[.int .i64 o.kind, .int .i64 o.a, .int .i64 o.b, .int .i64 o.vcpu, .bool o.on]) 51]) ++ (Y_ ++ List.drop 3 ([bx (γ1 2) (#[.slice none 0 0, .int .i64 0, .bool false, .int .i64 0]) 53, bx (γ1 1) (#[.slice p n cap]) 24, bx (γ1 0) (#[.int .i64 o.kind, .int .i64 o.a, .int .i64 o.b, .int .i64 o.vcpu, .bool o.on]) 51])) ∧ SlO 40 Y_ q_ m_ c_ (bindV l o.a o.vcpu).1) Try.call46 (fun w hw => (bind_d p n cap l o.a o.vcpu w (hsl.kept hw.below) hn (by omega)).mono fun e w' ⟨q_, m_, c_, Y_, he, hO, hb, hY⟩ => ⟨_, _, he, ⟨q_, m_, c_, Y_, rfl, rfl, hO⟩, hw.join hb hY 3⟩) ?_)))))
            rintro v87 L87 ⟨q87, m87, cq87, Y87, rfl, rfl, hO87⟩
            refine mo0 10 [(11, .go (owns 0 0 1)), (13, .go (owns 0 1 1)), (15, .go (owns 0 3 1))] [4] (fun _ => []) (fun _ L => (L.set 0 (bx (γ1 2) (#[.slice q87 m87 cq87, .int .i64 ((bindV l o.a o.vcpu).2.1), .bool false, .int .i64 ((bindV l o.a o.vcpu).2.2)]) 53))) (fun _ => on_ (done_block (ds_ (sq_ (qa0 [(0, .go (owns 0 0 4)), (1, .go (owns 0 0 4))] [4] [] (ds_ (rt (owns 0 0 4) (.agg #[.slice q87 m87 cq87, .int .i64 ((bindV l o.a o.vcpu).2.1), .bool false, .int .i64 ((bindV l o.a o.vcpu).2.2)]) ?_)))))))
            exact fun w' hw => by rw [show runV l o = ((bindV l o.a o.vcpu).1, (bindV l o.a o.vcpu).2.1, false, (bindV l o.a o.vcpu).2.2) from by simp only [runV, if_neg q4, if_neg q12, if_neg q20, if_neg q28, if_neg q36, if_neg q44, if_neg q52, if_neg q60, if_neg q68, if_neg q76, if_pos q84]]; exact ⟨_, _, _, _, rfl, hO87, hw.below, (hs_nil (Hs.pick [[bx (γ1 2) (#[.slice q87 m87 cq87, .int .i64 ((bindV l o.a o.vcpu).2.1), .bool false, .int .i64 ((bindV l o.a o.vcpu).2.2)]) 53], [bx (γ1 1) (#[.slice p n cap]) 24], [bx (γ1 0) (#[.int .i64 o.kind, .int .i64 o.a, .int .i64 o.b, .int .i64 o.vcpu, .bool o.on]) 51], Y87] [3] [0, 1, 2] (by kernel_rfl) hw))⟩
           ·
            refine qa [(0, .no)] [2, 3, 4] [(114, .bool false)] ([¬ ((kdI o.kind : Int) = (10 : Int))]) (al1 q84) (ds_ (f_ (ao_ (qo0 3 [(0, .go (owns 1 0 1)), (2, .go (owns 2 1 1))] [4] [(10, .agg #[.slice p n cap]), (12, .int .i64 o.a)] (cP (fun v L' => ∃ q_ m_ c_ Y_, v = .tuple #[.agg #[.slice q_ m_ c_], .bool ((clearV l o.a).2.1), .int .i64 ((clearV l o.a).2.2)] ∧ L' = List.take 3 ([bx (γ1 2) (#[.slice none 0 0, .int .i64 0, .bool false, .int .i64 0]) 53, bx (γ1 1) (#[.slice p n cap]) 24, bx (γ1 0) (#[.int .i64 o.kind, .int .i64 o.a, .int .i64 o.b, .int .i64 o.vcpu, .bool o.on]) 51]) ++ (Y_ ++ List.drop 3 ([bx (γ1 2) (#[.slice none 0 0, .int .i64 0, .bool false, .int .i64 0]) 53, bx (γ1 1) (#[.slice p n cap]) 24, bx (γ1 0) (#[.int .i64 o.kind, .int .i64 o.a, .int .i64 o.b, .int .i64 o.vcpu, .bool o.on]) 51])) ∧ SlO 40 Y_ q_ m_ c_ (clearV l o.a).1) Try.call23 (fun w hw => (clear_d p n cap l o.a w (hsl.kept hw.below) hn (by omega)).mono fun e w' ⟨q_, m_, c_, Y_, he, hO, hb, hY⟩ => ⟨_, _, he, ⟨q_, m_, c_, Y_, rfl, rfl, hO⟩, hw.join hb hY 3⟩) ?_)))))
            rintro v92 L92 ⟨q92, m92, cq92, Y92, rfl, rfl, hO92⟩
            refine mo0 10 [(9, .go (owns 0 0 1)), (11, .go (owns 0 2 1)), (13, .go (owns 0 3 1))] [4] (fun _ => []) (fun _ L => (L.set 0 (bx (γ1 2) (#[.slice q92 m92 cq92, .int .i64 0, .bool ((clearV l o.a).2.1), .int .i64 ((clearV l o.a).2.2)]) 53))) (fun _ => on_ (done_block (ds_ (sq_ (qa0 [(0, .go (owns 0 0 4)), (1, .go (owns 0 0 4))] [4] [] (ds_ (rt (owns 0 0 4) (.agg #[.slice q92 m92 cq92, .int .i64 0, .bool ((clearV l o.a).2.1), .int .i64 ((clearV l o.a).2.2)]) ?_)))))))
            exact fun w' hw => by rw [show runV l o = ((clearV l o.a).1, 0, (clearV l o.a).2.1, (clearV l o.a).2.2) from by simp only [runV, if_neg q4, if_neg q12, if_neg q20, if_neg q28, if_neg q36, if_neg q44, if_neg q52, if_neg q60, if_neg q68, if_neg q76, if_neg q84]]; exact ⟨_, _, _, _, rfl, hO92, hw.below, (hs_nil (Hs.pick [[bx (γ1 2) (#[.slice q92 m92 cq92, .int .i64 0, .bool ((clearV l o.a).2.1), .int .i64 ((clearV l o.a).2.2)]) 53], [bx (γ1 1) (#[.slice p n cap]) 24], [bx (γ1 0) (#[.int .i64 o.kind, .int .i64 o.a, .int .i64 o.b, .int .i64 o.vcpu, .bool o.on]) 51], Y92] [3] [0, 1, 2] (by kernel_rfl) hw))⟩
end Go.Proofs.Ytfhlmijdokfdpaa
