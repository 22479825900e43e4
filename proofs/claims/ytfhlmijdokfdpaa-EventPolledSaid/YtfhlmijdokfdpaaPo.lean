/- event.Link. -/
import Derived.Test.YtfhlmijdokfdpaaPl
import Derived.Test.YtfhlmijdokfdpaaPm
import Derived.Test.YtfhlmijdokfdpaaEj
namespace Go.Proofs.Ytfhlmijdokfdpaa
open Go Go.RowKit

set_option maxRecDepth 100000 in
theorem link_d (p : Option Addr) (n cap : Nat) (l : List Port) (a b : Int) (w : World)
    (hsl : Sv w p l) (hn : n = l.length) (hb : n ≤ 1000)
    : Calls Try.prog 29 #[.agg #[.slice p n cap], .int .i64 a, .int .i64 b] w fun e w' => ∃ q m capq Y, e = .returned (.tuple #[.agg #[.slice q m capq], .int .i64 (linkV l a b).2]) ∧ SlO 40 Y q m capq (linkV l a b).1 ∧ Below w.heap.size w w' ∧ Hs w Y w' := by
  refine enter (Hs.start w) Try.func29 rfl Try.ntmps29 rfl ?_
  refine at_seq ?_
  refine am [] [] (fun γ1 => [(3, .pointer (some ⟨γ1 0, 0, none⟩)), (4, .pointer (some ⟨γ1 1, 0, none⟩)), (5, .pointer (some ⟨γ1 2, 0, none⟩)), (6, .pointer (some ⟨γ1 3, 0, none⟩))]) (fun γ1 L => bx (γ1 3) (#[.slice none 0 0]) 24 :: bx (γ1 2) (#[.int .i64 b]) 3 :: bx (γ1 1) (#[.int .i64 a]) 3 :: bx (γ1 0) (#[.slice p n cap]) 24 :: L) (fun γ1 => []) (fun _ => by kernel_rfl) (fun γ1 => al0) (fun γ1 => ?_)
  refine done_seq ?_
  refine at_seq ?_
  refine at_ops ?_
  refine oq 2 [(0, .go (owns 3 0 1))] [6] [(8, .agg #[.slice p n cap]), (9, .func (.func 57) #[] #[.pointer (some ⟨γ1 1, 0, none⟩), .pointer (some ⟨γ1 2, 0, none⟩)])] ([]) (fun _ => by kernel_rfl) al0 ?_
  refine ops_inline (g := 54) (args := #[.agg #[.slice p n cap], .func (.func 57) #[] #[.pointer (some ⟨γ1 1, 0, none⟩), .pointer (some ⟨γ1 2, 0, none⟩)]]) (by kernel_rfl) (by kernel_rfl) (by kernel_rfl) (fun args w => Try.call54 args w) Try.func54 rfl Try.ntmps54 rfl ?_
  refine at_seq ?_
  refine am [] [1] (fun γ3 => [(2, .pointer (some ⟨γ3 0, 0, none⟩)), (4, .pointer (some ⟨γ3 1, 0, none⟩))]) (fun γ3 L => bx (γ3 1) (#[.slice none 0 0]) 24 :: bx (γ3 0) (#[.slice p n cap]) 24 :: L) (fun γ3 => []) (fun _ => by kernel_rfl) (fun γ3 => al0) (fun γ3 => ?_)
  refine done_seq ?_
  refine at_seq ?_
  refine at_seq ?_
  refine at_ops ?_
  refine oq 1 [(0, .go (owns 1 0 1))] [1, 2, 4] [(9, .agg #[.slice p n cap])] ([]) (fun _ => by kernel_rfl) al0 ?_
  rcases q5 : rightB l with _ | _
  ·
    refine ops_callD (.int .i64 260) (by kernel_rfl) (by kernel_rfl) (by kernel_rfl) (fun args w => Try.call16 args w) (fun w hw => by have := check_d p n cap l w (hsl.kept hw.below) hn hb; rw [q5] at this; exact this) ?_
    refine oq 1 [] [1, 2, 4] [(6, .int .i64 260)] ([]) (fun _ => by kernel_rfl) al0 ?_
    refine ops_nil ?_
    refine done_seq ?_
    refine at_seq ?_
    refine aq [] [1, 2, 4, 6] [(12, .bool true)] ([]) (fun _ => by kernel_rfl) al0 ?_
    refine done_seq ?_
    refine at_true (by kernel_rfl) ?_
    refine at_seq ?_
    refine aq [(2, .go (owns 0 0 1))] [4] [(5, .int .i64 260)] ([]) (fun _ => by kernel_rfl) al0 ?_
    refine done_seq ?_
    refine at_back (owns 0 0 1) (.tuple #[.agg #[.slice none 0 0], .int .i64 260]) [] (by kernel_rfl) (by kernel_rfl) al0 ?_
    refine oq 4 [(5, .go (owns 2 0 1))] [6] [(7, .int .i64 260)] ([]) (fun _ => by kernel_rfl) al0 ?_
    refine ops_nil ?_
    refine done_seq ?_
    refine at_return (owns 2 0 1) (.tuple #[.agg #[.slice none 0 0], .int .i64 260]) [] (by kernel_rfl) (by kernel_rfl) al0 ?_
    exact fun w' hw => by rw [linkV_bad q5]; exact ⟨none, 0, 0, [], rfl, SlO.nil, hw.below, hw.sub (List.nil_sublist _)⟩
  ·
    refine ops_callD (.int .i64 0) (by kernel_rfl) (by kernel_rfl) (by kernel_rfl) (fun args w => Try.call16 args w) (fun w hw => by have := check_d p n cap l w (hsl.kept hw.below) hn hb; rw [q5] at this; exact this) ?_
    refine oq 1 [] [1, 2, 4] [(6, .int .i64 0)] ([]) (fun _ => by kernel_rfl) al0 ?_
    refine ops_nil ?_
    refine done_seq ?_
    refine at_seq ?_
    refine aq [] [1, 2, 4, 6] [(12, .bool false)] ([]) (fun _ => by kernel_rfl) al0 ?_
    refine done_seq ?_
    refine at_false (by kernel_rfl) ?_
    refine at_skip ?_
    refine done_seq ?_
    refine at_seq ?_
    refine at_ops ?_
    refine oq 2 [(1, .go (owns 1 0 1))] [1, 4] [(16, .slice p n cap)] ([]) (fun _ => by kernel_rfl) al0 ?_
    refine ops_call (fun v L' => ∃ q capq Y, v = .slice q n capq ∧ L' = List.take 6 ([bx (γ3 1) (#[.slice none 0 0]) 24, bx (γ3 0) (#[.slice p n cap]) 24, bx (γ1 3) (#[.slice none 0 0]) 24, bx (γ1 2) (#[.int .i64 b]) 3, bx (γ1 1) (#[.int .i64 a]) 3, bx (γ1 0) (#[.slice p n cap]) 24]) ++ (Y ++ List.drop 6 ([bx (γ3 1) (#[.slice none 0 0]) 24, bx (γ3 0) (#[.slice p n cap]) 24, bx (γ1 3) (#[.slice none 0 0]) 24, bx (γ1 2) (#[.int .i64 b]) 3, bx (γ1 1) (#[.int .i64 a]) 3, bx (γ1 0) (#[.slice p n cap]) 24])) ∧ SlO 40 Y q n capq l) (by kernel_rfl) (by kernel_rfl) (by kernel_rfl) (fun args w => Try.call72 args w) (fun w hw => (clone_d p n cap l w (hsl.kept hw.below) hn (by omega)).mono fun e w' ⟨q, capq, Y, he, hO, hb, hY⟩ => ⟨_, _, he, ⟨q, capq, Y, rfl, rfl, hO⟩, hw.join hb hY 6⟩) ?_
    rintro v13 L13 ⟨q13, cq13, Y13, rfl, rfl, hO13⟩
    have hnq13 := hO13.len
    rcases hO13.parts with ⟨rfl, rfl, hz13⟩ | ⟨g13, cs13, rfl, rfl, hOw13⟩
    ·
      refine om 3 [(5, .go (owns 0 0 1))] [1, 4] (fun γ14 => [(7, .pointer (some ⟨γ14 0, 0, none⟩))]) (fun γ14 L => bx (γ14 0) (#[.slice none n cq13]) 24 :: L) (fun γ14 => []) (fun _ => by kernel_rfl) (fun γ14 => al0) (fun γ14 => ?_)
      refine ops_nil ?_
      refine done_seq ?_
      refine at_seq ?_
      refine at_seq ?_
      refine at_ops ?_
      refine oq 1 [] [4, 7] [(19, .func (.func 57) #[] #[.pointer (some ⟨γ1 1, 0, none⟩), .pointer (some ⟨γ1 2, 0, none⟩)])] ([]) (fun _ => by kernel_rfl) al0 ?_
      refine ops_inline (g := 57) (args := #[.pointer (some ⟨γ14 0, 0, none⟩), .pointer (some ⟨γ1 1, 0, none⟩), .pointer (some ⟨γ1 2, 0, none⟩)]) (by kernel_rfl) (by kernel_rfl) (by kernel_rfl) (fun args w => Try.call57 args w) Try.func57 rfl Try.ntmps57 rfl ?_
      refine at_seq ?_
      refine aq [] [0, 1, 2] [] ([]) (fun _ => by kernel_rfl) al0 ?_
      refine done_seq ?_
      refine at_seq ?_
      refine at_calm rfl (by kernel_rfl) (by kernel_rfl) ?_
      refine cm 5 [(3, .go (owns 0 0 1)), (4, .go (owns 5 0 1))] [0, 1, 2] [(10, .slice none n cq13), (11, .int .i64 a)] ([]) (by kernel_rfl) rfl al0 ?_
      rcases hg18 : getB l a with _ | y18
      ·
        refine calm_callD (.pointer none) (by kernel_rfl) (by kernel_rfl) (by kernel_rfl) (fun args w => Try.call32 args w) (fun w hw => by have := port_d none n cq13 l a w (hO13.atN (A := []) hw) hnq13 (by omega) (ris_all (right_ris q5)) (ris_asc l 0 (right_ris q5)); rw [portV_none hg18] at this; exact this) ?_
        refine cm 5 [(9, .go (owns 0 0 1)), (10, .go (owns 4 0 1))] [1, 2, 12] [(16, .slice none n cq13), (17, .int .i64 b)] ([]) (by kernel_rfl) rfl al0 ?_
        rcases hg20 : getB l b with _ | y20
        ·
          refine calm_callD (.pointer none) (by kernel_rfl) (by kernel_rfl) (by kernel_rfl) (fun args w => Try.call32 args w) (fun w hw => by have := port_d none n cq13 l b w (hO13.atN (A := []) hw) hnq13 (by omega) (ris_all (right_ris q5)) (ris_asc l 0 (right_ris q5)); rw [portV_none hg20] at this; exact this) ?_
          refine cm 2 [] [1, 2] [(5, .pointer none), (6, .pointer none)] ([]) (by kernel_rfl) rfl al0 ?_
          refine calm_nil' ?_
          refine done_seq ?_
          refine at_seq ?_
          refine at_block ?_
          refine at_seq ?_
          refine aq [] [1, 2, 5, 6] [(19, .bool true)] ([]) (fun _ => by kernel_rfl) al0 ?_
          refine done_seq ?_
          refine at_true (by kernel_rfl) ?_
          refine at_seq ?_
          refine aq [] [] [(4, .int .i64 4)] ([]) (fun _ => by kernel_rfl) al0 ?_
          refine done_seq ?_
          refine at_back ([]) (.int .i64 4) [] (by kernel_rfl) (by kernel_rfl) al0 ?_
          refine oq 1 [] [4, 7] [(8, .int .i64 4)] ([]) (fun _ => by kernel_rfl) al0 ?_
          refine ops_nil ?_
          refine done_seq ?_
          refine at_seq ?_
          refine aq [] [4, 7, 8] [(22, .bool true)] ([]) (fun _ => by kernel_rfl) al0 ?_
          refine done_seq ?_
          refine at_true (by kernel_rfl) ?_
          refine at_seq ?_
          refine aq [(2, .go (owns 1 0 1))] [4] [(5, .int .i64 4)] ([]) (fun _ => by kernel_rfl) al0 ?_
          refine done_seq ?_
          refine at_back (owns 1 0 1) (.tuple #[.agg #[.slice none 0 0], .int .i64 4]) [] (by kernel_rfl) (by kernel_rfl) al0 ?_
          refine oq 4 [(5, .go (owns 3 0 1))] [6] [(7, .int .i64 4)] ([]) (fun _ => by kernel_rfl) al0 ?_
          refine ops_nil ?_
          refine done_seq ?_
          refine at_return (owns 3 0 1) (.tuple #[.agg #[.slice none 0 0], .int .i64 4]) [] (by kernel_rfl) (by kernel_rfl) al0 ?_
          exact fun w' hw => by rw [linkV_n1 q5 hg18]; exact ⟨none, 0, 0, [], rfl, SlO.nil, hw.below, hw.sub (List.nil_sublist _)⟩
        ·
          have hy20 := (get_pos (ris_asc l 0 (right_ris q5)) hg20).1
          exact absurd (List.getElem?_eq_some_iff.1 hy20).1 (by omega)
      ·
        have hy18 := (get_pos (ris_asc l 0 (right_ris q5)) hg18).1
        exact absurd (List.getElem?_eq_some_iff.1 hy18).1 (by omega)
    ·
      refine om 3 [(5, .go (owns 0 0 1))] [1, 4] (fun γ30 => [(7, .pointer (some ⟨γ30 0, 0, none⟩))]) (fun γ30 L => bx (γ30 0) (#[.slice (some ⟨g13, 0, none⟩) n cq13]) 24 :: L) (fun γ30 => []) (fun _ => by kernel_rfl) (fun γ30 => al0) (fun γ30 => ?_)
      refine ops_nil ?_
      refine done_seq ?_
      refine at_seq ?_
      refine at_seq ?_
      refine at_ops ?_
      refine oq 1 [] [4, 7] [(19, .func (.func 57) #[] #[.pointer (some ⟨γ1 1, 0, none⟩), .pointer (some ⟨γ1 2, 0, none⟩)])] ([]) (fun _ => by kernel_rfl) al0 ?_
      refine ops_inline (g := 57) (args := #[.pointer (some ⟨γ30 0, 0, none⟩), .pointer (some ⟨γ1 1, 0, none⟩), .pointer (some ⟨γ1 2, 0, none⟩)]) (by kernel_rfl) (by kernel_rfl) (by kernel_rfl) (fun args w => Try.call57 args w) Try.func57 rfl Try.ntmps57 rfl ?_
      refine at_seq ?_
      refine aq [] [0, 1, 2] [] ([]) (fun _ => by kernel_rfl) al0 ?_
      refine done_seq ?_
      refine at_seq ?_
      refine at_calm rfl (by kernel_rfl) (by kernel_rfl) ?_
      refine cm 5 [(3, .go (owns 0 0 1)), (4, .go (owns 5 0 1))] [0, 1, 2] [(10, .slice (some ⟨g13, 0, none⟩) n cq13), (11, .int .i64 a)] ([]) (by kernel_rfl) rfl al0 ?_
      rcases hg34 : getB l a with _ | y34
      ·
        refine calm_callD (.pointer none) (by kernel_rfl) (by kernel_rfl) (by kernel_rfl) (fun args w => Try.call32 args w) (fun w hw => by have := port_d (some ⟨g13, 0, none⟩) n cq13 l a w (hO13.atN (A := [_, _, _, _, _, _, _]) hw) hnq13 (by omega) (ris_all (right_ris q5)) (ris_asc l 0 (right_ris q5)); rw [portV_none hg34] at this; exact this) ?_
        refine cm 5 [(9, .go (owns 0 0 1)), (10, .go (owns 4 0 1))] [1, 2, 12] [(16, .slice (some ⟨g13, 0, none⟩) n cq13), (17, .int .i64 b)] ([]) (by kernel_rfl) rfl al0 ?_
        rcases hg36 : getB l b with _ | y36
        ·
          refine calm_callD (.pointer none) (by kernel_rfl) (by kernel_rfl) (by kernel_rfl) (fun args w => Try.call32 args w) (fun w hw => by have := port_d (some ⟨g13, 0, none⟩) n cq13 l b w (hO13.atN (A := [_, _, _, _, _, _, _]) hw) hnq13 (by omega) (ris_all (right_ris q5)) (ris_asc l 0 (right_ris q5)); rw [portV_none hg36] at this; exact this) ?_
          refine cm 2 [] [1, 2] [(5, .pointer none), (6, .pointer none)] ([]) (by kernel_rfl) rfl al0 ?_
          refine calm_nil' ?_
          refine done_seq ?_
          refine at_seq ?_
          refine at_block ?_
          refine at_seq ?_
          refine aq [] [1, 2, 5, 6] [(19, .bool true)] ([]) (fun _ => by kernel_rfl) al0 ?_
          refine done_seq ?_
          refine at_true (by kernel_rfl) ?_
          refine at_seq ?_
          refine aq [] [] [(4, .int .i64 4)] ([]) (fun _ => by kernel_rfl) al0 ?_
          refine done_seq ?_
          refine at_back ([]) (.int .i64 4) [] (by kernel_rfl) (by kernel_rfl) al0 ?_
          refine oq 1 [] [4, 7] [(8, .int .i64 4)] ([]) (fun _ => by kernel_rfl) al0 ?_
          refine ops_nil ?_
          refine done_seq ?_
          refine at_seq ?_
          refine aq [] [4, 7, 8] [(22, .bool true)] ([]) (fun _ => by kernel_rfl) al0 ?_
          refine done_seq ?_
          refine at_true (by kernel_rfl) ?_
          refine at_seq ?_
          refine aq [(2, .go (owns 1 0 1))] [4] [(5, .int .i64 4)] ([]) (fun _ => by kernel_rfl) al0 ?_
          refine done_seq ?_
          refine at_back (owns 1 0 1) (.tuple #[.agg #[.slice none 0 0], .int .i64 4]) [] (by kernel_rfl) (by kernel_rfl) al0 ?_
          refine oq 4 [(5, .go (owns 3 0 1))] [6] [(7, .int .i64 4)] ([]) (fun _ => by kernel_rfl) al0 ?_
          refine ops_nil ?_
          refine done_seq ?_
          refine at_return (owns 3 0 1) (.tuple #[.agg #[.slice none 0 0], .int .i64 4]) [] (by kernel_rfl) (by kernel_rfl) al0 ?_
          exact fun w' hw => by rw [linkV_n1 q5 hg34]; exact ⟨none, 0, 0, [], rfl, SlO.nil, hw.below, hw.sub (List.nil_sublist _)⟩
        ·
          have hy36 := (get_pos (ris_asc l 0 (right_ris q5)) hg36).1
          refine calm_callD (.pointer (some ⟨g13, 0 + (posB l b) * 5, none⟩)) (by kernel_rfl) (by kernel_rfl) (by kernel_rfl) (fun args w => Try.call32 args w) (fun w hw => by have := port_d (some ⟨g13, 0, none⟩) n cq13 l b w (hO13.atN (A := [_, _, _, _, _, _, _]) hw) hnq13 (by omega) (ris_all (right_ris q5)) (ris_asc l 0 (right_ris q5)); rw [portV_some hg36] at this; exact this) ?_
          refine cm 2 [] [1, 2] [(5, .pointer none), (6, .pointer (some ⟨g13, 0 + (posB l b) * 5, none⟩))] ([]) (by kernel_rfl) rfl al0 ?_
          refine calm_nil' ?_
          refine done_seq ?_
          refine at_seq ?_
          refine at_block ?_
          refine at_seq ?_
          refine aq [] [1, 2, 5, 6] [(19, .bool true)] ([]) (fun _ => by kernel_rfl) al0 ?_
          refine done_seq ?_
          refine at_true (by kernel_rfl) ?_
          refine at_seq ?_
          refine aq [] [] [(4, .int .i64 4)] ([]) (fun _ => by kernel_rfl) al0 ?_
          refine done_seq ?_
          refine at_back ([]) (.int .i64 4) [] (by kernel_rfl) (by kernel_rfl) al0 ?_
          refine oq 1 [] [4, 7] [(8, .int .i64 4)] ([]) (fun _ => by kernel_rfl) al0 ?_
          refine ops_nil ?_
          refine done_seq ?_
          refine at_seq ?_
          refine aq [] [4, 7, 8] [(22, .bool true)] ([]) (fun _ => by kernel_rfl) al0 ?_
          refine done_seq ?_
          refine at_true (by kernel_rfl) ?_
          refine at_seq ?_
          refine aq [(2, .go (owns 1 0 1))] [4] [(5, .int .i64 4)] ([]) (fun _ => by kernel_rfl) al0 ?_
          refine done_seq ?_
          refine at_back (owns 1 0 1) (.tuple #[.agg #[.slice none 0 0], .int .i64 4]) [] (by kernel_rfl) (by kernel_rfl) al0 ?_
          refine oq 4 [(5, .go (owns 3 0 1))] [6] [(7, .int .i64 4)] ([]) (fun _ => by kernel_rfl) al0 ?_
          refine ops_nil ?_
          refine done_seq ?_
          refine at_return (owns 3 0 1) (.tuple #[.agg #[.slice none 0 0], .int .i64 4]) [] (by kernel_rfl) (by kernel_rfl) al0 ?_
          exact fun w' hw => by rw [linkV_n1 q5 hg34]; exact ⟨none, 0, 0, [], rfl, SlO.nil, hw.below, hw.sub (List.nil_sublist _)⟩
      ·
        have hy34 := (get_pos (ris_asc l 0 (right_ris q5)) hg34).1
        refine calm_callD (.pointer (some ⟨g13, 0 + (posB l a) * 5, none⟩)) (by kernel_rfl) (by kernel_rfl) (by kernel_rfl) (fun args w => Try.call32 args w) (fun w hw => by have := port_d (some ⟨g13, 0, none⟩) n cq13 l a w (hO13.atN (A := [_, _, _, _, _, _, _]) hw) hnq13 (by omega) (ris_all (right_ris q5)) (ris_asc l 0 (right_ris q5)); rw [portV_some hg34] at this; exact this) ?_
        refine cm 5 [(9, .go (owns 0 0 1)), (10, .go (owns 4 0 1))] [1, 2, 12] [(16, .slice (some ⟨g13, 0, none⟩) n cq13), (17, .int .i64 b)] ([]) (by kernel_rfl) rfl al0 ?_
        rcases hg54 : getB l b with _ | y54
        ·
          refine calm_callD (.pointer none) (by kernel_rfl) (by kernel_rfl) (by kernel_rfl) (fun args w => Try.call32 args w) (fun w hw => by have := port_d (some ⟨g13, 0, none⟩) n cq13 l b w (hO13.atN (A := [_, _, _, _, _, _, _]) hw) hnq13 (by omega) (ris_all (right_ris q5)) (ris_asc l 0 (right_ris q5)); rw [portV_none hg54] at this; exact this) ?_
          refine cm 2 [] [1, 2] [(5, .pointer (some ⟨g13, 0 + (posB l a) * 5, none⟩)), (6, .pointer none)] ([]) (by kernel_rfl) rfl al0 ?_
          refine calm_nil' ?_
          refine done_seq ?_
          refine at_seq ?_
          refine at_block ?_
          refine at_seq ?_
          refine aq [] [1, 2, 5, 6] [(19, .bool true)] ([]) (fun _ => by kernel_rfl) al0 ?_
          refine done_seq ?_
          refine at_true (by kernel_rfl) ?_
          refine at_seq ?_
          refine aq [] [] [(4, .int .i64 4)] ([]) (fun _ => by kernel_rfl) al0 ?_
          refine done_seq ?_
          refine at_back ([]) (.int .i64 4) [] (by kernel_rfl) (by kernel_rfl) al0 ?_
          refine oq 1 [] [4, 7] [(8, .int .i64 4)] ([]) (fun _ => by kernel_rfl) al0 ?_
          refine ops_nil ?_
          refine done_seq ?_
          refine at_seq ?_
          refine aq [] [4, 7, 8] [(22, .bool true)] ([]) (fun _ => by kernel_rfl) al0 ?_
          refine done_seq ?_
          refine at_true (by kernel_rfl) ?_
          refine at_seq ?_
          refine aq [(2, .go (owns 1 0 1))] [4] [(5, .int .i64 4)] ([]) (fun _ => by kernel_rfl) al0 ?_
          refine done_seq ?_
          refine at_back (owns 1 0 1) (.tuple #[.agg #[.slice none 0 0], .int .i64 4]) [] (by kernel_rfl) (by kernel_rfl) al0 ?_
          refine oq 4 [(5, .go (owns 3 0 1))] [6] [(7, .int .i64 4)] ([]) (fun _ => by kernel_rfl) al0 ?_
          refine ops_nil ?_
          refine done_seq ?_
          refine at_return (owns 3 0 1) (.tuple #[.agg #[.slice none 0 0], .int .i64 4]) [] (by kernel_rfl) (by kernel_rfl) al0 ?_
          exact fun w' hw => by rw [linkV_n2 q5 hg54]; exact ⟨none, 0, 0, [], rfl, SlO.nil, hw.below, hw.sub (List.nil_sublist _)⟩
        ·
          have hy54 := (get_pos (ris_asc l 0 (right_ris q5)) hg54).1
          refine calm_callD (.pointer (some ⟨g13, 0 + (posB l b) * 5, none⟩)) (by kernel_rfl) (by kernel_rfl) (by kernel_rfl) (fun args w => Try.call32 args w) (fun w hw => by have := port_d (some ⟨g13, 0, none⟩) n cq13 l b w (hO13.atN (A := [_, _, _, _, _, _, _]) hw) hnq13 (by omega) (ris_all (right_ris q5)) (ris_asc l 0 (right_ris q5)); rw [portV_some hg54] at this; exact this) ?_
          refine cm 2 [] [1, 2] [(5, .pointer (some ⟨g13, 0 + (posB l a) * 5, none⟩)), (6, .pointer (some ⟨g13, 0 + (posB l b) * 5, none⟩))] ([]) (by kernel_rfl) rfl al0 ?_
          refine calm_nil' ?_
          refine done_seq ?_
          refine at_seq ?_
          refine at_block ?_
          refine at_seq ?_
          refine aq [] [1, 2, 5, 6] [(19, .bool false)] ([]) (fun _ => by kernel_rfl) al0 ?_
          refine done_seq ?_
          refine at_false (by kernel_rfl) ?_
          refine at_seq ?_
          refine at_ops ?_
          refine oq 2 [] [1, 2, 5, 6] [(27, .pointer (some ⟨g13, 0 + (posB l a) * 5, none⟩)), (28, .pointer (some ⟨g13, 0 + (posB l b) * 5, none⟩))] ([]) (fun _ => by kernel_rfl) al0 ?_
          by_cases q66 : (a : Int) = (b : Int)
          ·
            refine ops_eqp (g := g13) (o1 := 0 + (posB l a) * 5) (o2 := 0 + (posB l b) * 5) true 7 rfl (by kernel_rfl) (by kernel_rfl) (by kernel_rfl) (by kernel_rfl) Try.underlying65 rfl (show (5 : Nat) ≠ 0 from by decide) (by kernel_rfl) rfl ⟨fun _ => rfl, fun _ => by rw [q66]⟩ ?_
            refine oq 1 [] [1, 2, 5, 6] [(26, .bool true)] ([]) (fun _ => by kernel_rfl) al0 ?_
            refine ops_nil ?_
            refine done_seq ?_
            refine at_true (by kernel_rfl) ?_
            refine at_seq ?_
            refine aq [] [] [(4, .int .i64 2)] ([]) (fun _ => by kernel_rfl) al0 ?_
            refine done_seq ?_
            refine at_back ([]) (.int .i64 2) [] (by kernel_rfl) (by kernel_rfl) al0 ?_
            refine oq 1 [] [4, 7] [(8, .int .i64 2)] ([]) (fun _ => by kernel_rfl) al0 ?_
            refine ops_nil ?_
            refine done_seq ?_
            refine at_seq ?_
            refine aq [] [4, 7, 8] [(22, .bool true)] ([]) (fun _ => by kernel_rfl) al0 ?_
            refine done_seq ?_
            refine at_true (by kernel_rfl) ?_
            refine at_seq ?_
            refine aq [(2, .go (owns 1 0 1))] [4] [(5, .int .i64 2)] ([]) (fun _ => by kernel_rfl) al0 ?_
            refine done_seq ?_
            refine at_back (owns 1 0 1) (.tuple #[.agg #[.slice none 0 0], .int .i64 2]) [] (by kernel_rfl) (by kernel_rfl) al0 ?_
            refine oq 4 [(5, .go (owns 3 0 1))] [6] [(7, .int .i64 2)] ([]) (fun _ => by kernel_rfl) al0 ?_
            refine ops_nil ?_
            refine done_seq ?_
            refine at_return (owns 3 0 1) (.tuple #[.agg #[.slice none 0 0], .int .i64 2]) [] (by kernel_rfl) (by kernel_rfl) al0 ?_
            exact fun w' hw => by rw [linkV_same q5 hg34 hg54 q66]; exact ⟨none, 0, 0, [], rfl, SlO.nil, hw.below, hw.sub (List.nil_sublist _)⟩
          ·
            refine ops_eqp (g := g13) (o1 := 0 + (posB l a) * 5) (o2 := 0 + (posB l b) * 5) false 7 rfl (by kernel_rfl) (by kernel_rfl) (by kernel_rfl) (by kernel_rfl) Try.underlying65 rfl (show (5 : Nat) ≠ 0 from by decide) (by kernel_rfl) rfl ⟨fun e => absurd (pos_inj q5 hg34 hg54 (by omega)) q66, fun e => nomatch e⟩ ?_
            refine oq 1 [] [1, 2, 5, 6] [(26, .bool false)] ([]) (fun _ => by kernel_rfl) al0 ?_
            refine ops_nil ?_
            refine done_seq ?_
            refine at_false (by kernel_rfl) ?_
            refine at_seq ?_
            by_cases q75 : (y34.peer : Int) ≠ (0 : Int)
            ·
              refine aq [(3, .go (ownps 7 (0 + (posB l a) * 5 + 2) [.int .i64 y34.peer])), (4, .yes)] [1, 2, 5, 6] [(30, .bool true)] (acellsP cs13 (0 + (posB l a) * 5 + 2) [.int .i64 y34.peer] ++ ([(y34.peer : Int) ≠ (0 : Int)])) (fun _ => by kernel_rfl) (alA (rda_part ((hOw13.rdx hnq13 hy34)) 2 _ rfl) (al1 q75)) ?_
              refine done_seq ?_
              refine at_true (by kernel_rfl) ?_
              refine at_seq ?_
              refine aq [] [] [(4, .int .i64 261)] ([]) (fun _ => by kernel_rfl) al0 ?_
              refine done_seq ?_
              refine at_back ([]) (.int .i64 261) [] (by kernel_rfl) (by kernel_rfl) al0 ?_
              refine oq 1 [] [4, 7] [(8, .int .i64 261)] ([]) (fun _ => by kernel_rfl) al0 ?_
              refine ops_nil ?_
              refine done_seq ?_
              refine at_seq ?_
              refine aq [] [4, 7, 8] [(22, .bool true)] ([]) (fun _ => by kernel_rfl) al0 ?_
              refine done_seq ?_
              refine at_true (by kernel_rfl) ?_
              refine at_seq ?_
              refine aq [(2, .go (owns 1 0 1))] [4] [(5, .int .i64 261)] ([]) (fun _ => by kernel_rfl) al0 ?_
              refine done_seq ?_
              refine at_back (owns 1 0 1) (.tuple #[.agg #[.slice none 0 0], .int .i64 261]) [] (by kernel_rfl) (by kernel_rfl) al0 ?_
              refine oq 4 [(5, .go (owns 3 0 1))] [6] [(7, .int .i64 261)] ([]) (fun _ => by kernel_rfl) al0 ?_
              refine ops_nil ?_
              refine done_seq ?_
              refine at_return (owns 3 0 1) (.tuple #[.agg #[.slice none 0 0], .int .i64 261]) [] (by kernel_rfl) (by kernel_rfl) al0 ?_
              exact fun w' hw => by rw [linkV_has q5 hg34 hg54 q66 (by omega)]; exact ⟨none, 0, 0, [], rfl, SlO.nil, hw.below, hw.sub (List.nil_sublist _)⟩
            ·
              by_cases q83 : (y54.peer : Int) ≠ (0 : Int)
              ·
                refine aq [(3, .go (ownps 7 (0 + (posB l a) * 5 + 2) [.int .i64 y34.peer])), (4, .no), (9, .go (ownps 7 (0 + (posB l b) * 5 + 2) [.int .i64 y54.peer])), (10, .yes)] [1, 2, 5, 6] [(30, .bool true)] (acellsP cs13 (0 + (posB l a) * 5 + 2) [.int .i64 y34.peer] ++ ([¬ ((y34.peer : Int) ≠ (0 : Int))] ++ (acellsP cs13 (0 + (posB l b) * 5 + 2) [.int .i64 y54.peer] ++ ([(y54.peer : Int) ≠ (0 : Int)])))) (fun _ => by kernel_rfl) (alA (rda_part ((hOw13.rdx hnq13 hy34)) 2 _ rfl) (alA (al1 q75) (alA (rda_part ((hOw13.rdx hnq13 hy54)) 2 _ rfl) (al1 q83)))) ?_
                refine done_seq ?_
                refine at_true (by kernel_rfl) ?_
                refine at_seq ?_
                refine aq [] [] [(4, .int .i64 261)] ([]) (fun _ => by kernel_rfl) al0 ?_
                refine done_seq ?_
                refine at_back ([]) (.int .i64 261) [] (by kernel_rfl) (by kernel_rfl) al0 ?_
                refine oq 1 [] [4, 7] [(8, .int .i64 261)] ([]) (fun _ => by kernel_rfl) al0 ?_
                refine ops_nil ?_
                refine done_seq ?_
                refine at_seq ?_
                refine aq [] [4, 7, 8] [(22, .bool true)] ([]) (fun _ => by kernel_rfl) al0 ?_
                refine done_seq ?_
                refine at_true (by kernel_rfl) ?_
                refine at_seq ?_
                refine aq [(2, .go (owns 1 0 1))] [4] [(5, .int .i64 261)] ([]) (fun _ => by kernel_rfl) al0 ?_
                refine done_seq ?_
                refine at_back (owns 1 0 1) (.tuple #[.agg #[.slice none 0 0], .int .i64 261]) [] (by kernel_rfl) (by kernel_rfl) al0 ?_
                refine oq 4 [(5, .go (owns 3 0 1))] [6] [(7, .int .i64 261)] ([]) (fun _ => by kernel_rfl) al0 ?_
                refine ops_nil ?_
                refine done_seq ?_
                refine at_return (owns 3 0 1) (.tuple #[.agg #[.slice none 0 0], .int .i64 261]) [] (by kernel_rfl) (by kernel_rfl) al0 ?_
                exact fun w' hw => by rw [linkV_has q5 hg34 hg54 q66 (by omega)]; exact ⟨none, 0, 0, [], rfl, SlO.nil, hw.below, hw.sub (List.nil_sublist _)⟩
              ·
                refine aq [(3, .go (ownps 7 (0 + (posB l a) * 5 + 2) [.int .i64 y34.peer])), (4, .no), (9, .go (ownps 7 (0 + (posB l b) * 5 + 2) [.int .i64 y54.peer])), (10, .no)] [1, 2, 5, 6] [(30, .bool false)] (acellsP cs13 (0 + (posB l a) * 5 + 2) [.int .i64 y34.peer] ++ ([¬ ((y34.peer : Int) ≠ (0 : Int))] ++ (acellsP cs13 (0 + (posB l b) * 5 + 2) [.int .i64 y54.peer] ++ ([¬ ((y54.peer : Int) ≠ (0 : Int))])))) (fun _ => by kernel_rfl) (alA (rda_part ((hOw13.rdx hnq13 hy34)) 2 _ rfl) (alA (al1 q75) (alA (rda_part ((hOw13.rdx hnq13 hy54)) 2 _ rfl) (al1 q83)))) ?_
                refine done_seq ?_
                refine at_false (by kernel_rfl) ?_
                refine at_skip ?_
                refine done_block ?_
                refine done_seq ?_
                refine at_seq ?_
                refine at_any (by kernel_rfl) ?_
                refine any_tk (f := 8) [0, 1] [] [1, 2] [(43, .pointer (some ⟨g13, 0 + (posB l a) * 5, none⟩)), (44, .pointer (some ⟨g13, 0 + (posB l b) * 5, none⟩))] ([]) #[true, true, false, false, false, false, false, false, false, false] (by kernel_rfl) (by kernel_rfl) al0 ?_
                refine any_cut 1 #[true, true, true, true, true, true, true, true, true, false] ([(46, .int .i64 a), (50, .pointer (some ⟨g13, 0 + (posB l b) * 5 + 2, none⟩))]) ([bx (γ30 0) (#[.slice (some ⟨g13, 0, none⟩) n cq13]) 24, bx (γ3 1) (#[.slice none 0 0]) 24, bx (γ3 0) (#[.slice p n cap]) 24, bx (γ1 3) (#[.slice none 0 0]) 24, bx (γ1 2) (#[.int .i64 b]) 3, bx (γ1 1) (#[.int .i64 a]) 3, bx (γ1 0) (#[.slice p n cap]) 24, bx g13 ((cs13).setIfInBounds (0 + (posB l a) * 5 + 2) (.int .i64 b)) 40]) ?_ (fun hm => ?_)
                rotate_left
                ·
                  refine any_fork [2, 3] (by kernel_rfl) (by simp) (each_cons _ rfl ?_ (each_cons _ rfl ?_ (each_nil)))
                  ·
                    refine oq 1 [(2, .go (owns 4 0 1))] [1, 43, 44] [(45, .int .i64 b)] ([]) (fun _ => by kernel_rfl) al0 ?_
                    refine ops_nil ?_
                    refine done_any ?_
                    refine any_tk (f := 5) [4, 5] [] [1, 44, 45] [(48, .pointer (some ⟨g13, 0 + (posB l a) * 5 + 2, none⟩))] ([]) #[true, true, true, false, true, true, false, false, false, false] (by kernel_rfl) (by kernel_rfl) al0 ?_
                    refine any_fork [3, 6] (by kernel_rfl) (by simp) (each_cons _ rfl ?_ (each_cons _ rfl ?_ (each_nil)))
                    ·
                      refine oq 1 [(3, .go (owns 5 0 1))] [44, 45, 48] [(46, .int .i64 a)] ([]) (fun _ => by kernel_rfl) al0 ?_
                      refine ops_nil ?_
                      refine done_any ?_
                      refine any_one 6 _ (by kernel_rfl) rfl ?_
                      refine om 1 [(6, .go (ownps 7 (0 + (posB l a) * 5 + 2) [undef]))] [44, 46] (fun _ => []) (fun _ L => (L.set 7 (bx g13 ((cs13).setIfInBounds (0 + (posB l a) * 5 + 2) (.int .i64 b)) 40))) (fun _ => [0 + (posB l a) * 5 + 2 < (cs13).size]) (fun _ => by kernel_rfl) (fun _ => (al1 (hOw13.room hnq13 hy34 (f := 2) (by decide)))) (fun _ => ?_)
                      refine ops_nil ?_
                      refine done_any ?_
                      refine any_tk (f := 1) [7, 8] [] [46] [(50, .pointer (some ⟨g13, 0 + (posB l b) * 5 + 2, none⟩))] ([]) #[true, true, true, true, true, true, true, true, true, false] (by kernel_rfl) (by kernel_rfl) al0 ?_
                      exact any_weak hm [46, 50] (by kernel_rfl) rfl rfl rfl
                    ·
                      refine om 1 [(6, .go (ownps 7 (0 + (posB l a) * 5 + 2) [undef]))] [1, 44] (fun _ => []) (fun _ L => (L.set 7 (bx g13 ((cs13).setIfInBounds (0 + (posB l a) * 5 + 2) (.int .i64 b)) 40))) (fun _ => [0 + (posB l a) * 5 + 2 < (cs13).size]) (fun _ => by kernel_rfl) (fun _ => (al1 (hOw13.room hnq13 hy34 (f := 2) (by decide)))) (fun _ => ?_)
                      refine ops_nil ?_
                      refine done_any ?_
                      refine any_one 3 _ (by kernel_rfl) rfl ?_
                      refine oq 1 [(3, .go (owns 5 0 1))] [44] [(46, .int .i64 a)] ([]) (fun _ => by kernel_rfl) al0 ?_
                      refine ops_nil ?_
                      refine done_any ?_
                      refine any_tk (f := 1) [7, 8] [] [46] [(50, .pointer (some ⟨g13, 0 + (posB l b) * 5 + 2, none⟩))] ([]) #[true, true, true, true, true, true, true, true, true, false] (by kernel_rfl) (by kernel_rfl) al0 ?_
                      exact any_weak hm [46, 50] (by kernel_rfl) rfl rfl rfl
                  ·
                    refine oq 1 [(3, .go (owns 5 0 1))] [2, 43, 44] [(46, .int .i64 a)] ([]) (fun _ => by kernel_rfl) al0 ?_
                    refine ops_nil ?_
                    refine done_any ?_
                    refine any_one 2 _ (by kernel_rfl) rfl ?_
                    refine oq 1 [(2, .go (owns 4 0 1))] [43, 44, 46] [(45, .int .i64 b)] ([]) (fun _ => by kernel_rfl) al0 ?_
                    refine ops_nil ?_
                    refine done_any ?_
                    refine any_tk (f := 4) [4, 5] [] [44, 45, 46] [(48, .pointer (some ⟨g13, 0 + (posB l a) * 5 + 2, none⟩))] ([]) #[true, true, true, true, true, true, false, false, false, false] (by kernel_rfl) (by kernel_rfl) al0 ?_
                    refine any_one 6 _ (by kernel_rfl) rfl ?_
                    refine om 1 [(6, .go (ownps 7 (0 + (posB l a) * 5 + 2) [undef]))] [44, 46] (fun _ => []) (fun _ L => (L.set 7 (bx g13 ((cs13).setIfInBounds (0 + (posB l a) * 5 + 2) (.int .i64 b)) 40))) (fun _ => [0 + (posB l a) * 5 + 2 < (cs13).size]) (fun _ => by kernel_rfl) (fun _ => (al1 (hOw13.room hnq13 hy34 (f := 2) (by decide)))) (fun _ => ?_)
                    refine ops_nil ?_
                    refine done_any ?_
                    refine any_tk (f := 1) [7, 8] [] [46] [(50, .pointer (some ⟨g13, 0 + (posB l b) * 5 + 2, none⟩))] ([]) #[true, true, true, true, true, true, true, true, true, false] (by kernel_rfl) (by kernel_rfl) al0 ?_
                    exact any_weak hm [46, 50] (by kernel_rfl) rfl rfl rfl
                refine any_one 9 _ (by kernel_rfl) rfl ?_
                refine om 1 [(9, .go (ownps 7 (0 + (posB l b) * 5 + 2) [undef]))] [] (fun _ => []) (fun _ L => (L.set 7 (bx g13 (((cs13).setIfInBounds (0 + (posB l a) * 5 + 2) (.int .i64 b)).setIfInBounds (0 + (posB l b) * 5 + 2) (.int .i64 a)) 40))) (fun _ => [0 + (posB l b) * 5 + 2 < ((cs13).setIfInBounds (0 + (posB l a) * 5 + 2) (.int .i64 b)).size]) (fun _ => by kernel_rfl) (fun _ => (al1 ((hOw13.put (x' := (⟨y34.num, y34.vcpu, b, y34.pending, y34.masked⟩ : Port)) hnq13 hy34 (f := 2) (by decide) rfl).room (len_set hnq13) (get_set_ne (fun e => q66 (pos_inj q5 hg34 hg54 e)) hy54) (f := 2) (by decide)))) (fun _ => ?_)
                refine ops_nil ?_
                refine done_any ?_
                refine any_nil (by kernel_rfl) ?_
                refine done_seq ?_
                refine at_seq ?_
                refine aq [] [] [(4, .int .i64 0)] ([]) (fun _ => by kernel_rfl) al0 ?_
                refine done_seq ?_
                refine at_back ([]) (.int .i64 0) [] (by kernel_rfl) (by kernel_rfl) al0 ?_
                refine oq 1 [] [4, 7] [(8, .int .i64 0)] ([]) (fun _ => by kernel_rfl) al0 ?_
                refine ops_nil ?_
                refine done_seq ?_
                refine at_seq ?_
                refine aq [] [4, 7, 8] [(22, .bool false)] ([]) (fun _ => by kernel_rfl) al0 ?_
                refine done_seq ?_
                refine at_false (by kernel_rfl) ?_
                refine at_skip ?_
                refine done_seq ?_
                refine at_seq ?_
                refine am [(0, .go (owns 0 0 1)), (1, .go (owns 1 0 1))] [4] (fun _ => [(5, .int .i64 0)]) (fun _ L => (L.set 1 (bx (γ3 1) (#[.slice (some ⟨g13, 0, none⟩) n cq13]) 24))) (fun _ => []) (fun _ => by kernel_rfl) (fun _ => al0) (fun _ => ?_)
                refine done_seq ?_
                refine at_back (owns 1 0 1) (.tuple #[.agg #[.slice (some ⟨g13, 0, none⟩) n cq13], .int .i64 0]) [] (by kernel_rfl) (by kernel_rfl) al0 ?_
                refine om 4 [(5, .go (owns 3 0 1))] [6] (fun _ => [(7, .int .i64 0)]) (fun _ L => (L.set 3 (bx (γ1 3) (#[.slice (some ⟨g13, 0, none⟩) n cq13]) 24))) (fun _ => []) (fun _ => by kernel_rfl) (fun _ => al0) (fun _ => ?_)
                refine ops_nil ?_
                refine done_seq ?_
                refine at_return (owns 3 0 1) (.tuple #[.agg #[.slice (some ⟨g13, 0, none⟩) n cq13], .int .i64 0]) [] (by kernel_rfl) (by kernel_rfl) al0 ?_
                exact fun w' hw => by rw [linkV_ok q5 hg34 hg54 q66 ⟨by omega, by omega⟩]; exact ⟨_, _, _, _, rfl, (SlO.ofOwn ((hOw13.put (x' := (⟨y34.num, y34.vcpu, b, y34.pending, y34.masked⟩ : Port)) hnq13 hy34 (f := 2) (by decide) rfl).put (x' := (⟨y54.num, y54.vcpu, a, y54.pending, y54.masked⟩ : Port)) (len_set hnq13) (get_set_ne (fun e => q66 (pos_inj q5 hg34 hg54 e)) hy54) (f := 2) (by decide) rfl) (len_set (len_set hnq13))), hw.below, hw.tailN 7⟩
end Go.Proofs.Ytfhlmijdokfdpaa
