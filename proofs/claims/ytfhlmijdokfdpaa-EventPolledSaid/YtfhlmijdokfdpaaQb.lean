/- event.Clear. -/
import Derived.Test.YtfhlmijdokfdpaaPp
import Derived.Test.YtfhlmijdokfdpaaQa
namespace Go.Proofs.Ytfhlmijdokfdpaa
open Go Go.RowKit

set_option maxRecDepth 100000 in
theorem clear_d (p : Option Addr) (n cap : Nat) (l : List Port) (k : Int) (w : World)
    (hsl : Sv w p l) (hn : n = l.length) (hb : n ≤ 1000)
    : Calls Try.prog 23 #[.agg #[.slice p n cap], .int .i64 k] w fun e w' => ∃ q m capq Y, e = .returned (.tuple #[.agg #[.slice q m capq], .bool (clearV l k).2.1, .int .i64 (clearV l k).2.2]) ∧ SlO 40 Y q m capq (clearV l k).1 ∧ Below w.heap.size w w' ∧ Hs w Y w' := by
  refine enter (Hs.start w) Try.func23 rfl Try.ntmps23 rfl ?_
  refine at_seq ?_
  refine am [] [1] (fun γ1 => [(2, .pointer (some ⟨γ1 0, 0, none⟩)), (4, .pointer (some ⟨γ1 1, 0, none⟩))]) (fun γ1 L => bx (γ1 1) (#[.slice none 0 0]) 24 :: bx (γ1 0) (#[.slice p n cap]) 24 :: L) (fun γ1 => []) (fun _ => by kernel_rfl) (fun γ1 => al0) (fun γ1 => ?_)
  refine done_seq ?_
  refine at_seq ?_
  refine am [(1, .go (owns 0 0 1))] [1, 2, 4] (fun γ2 => [(7, .pointer (some ⟨γ2 0, 0, none⟩))]) (fun γ2 L => bx (γ2 0) (#[.bool false]) 4 :: L) (fun γ2 => []) (fun _ => by kernel_rfl) (fun γ2 => al0) (fun γ2 => ?_)
  refine done_seq ?_
  refine at_seq ?_
  refine at_ops ?_
  refine oq 3 [(0, .go (owns 2 0 1))] [4, 7] [(12, .agg #[.slice p n cap]), (13, .int .i64 k), (14, .func (.func 41) #[] #[.pointer (some ⟨γ2 0, 0, none⟩)])] ([]) (fun _ => by kernel_rfl) al0 ?_
  refine ops_inline (g := 40) (args := #[.agg #[.slice p n cap], .int .i64 k, .func (.func 41) #[] #[.pointer (some ⟨γ2 0, 0, none⟩)]]) (by kernel_rfl) (by kernel_rfl) (by kernel_rfl) (fun args w => Try.call40 args w) Try.func40 rfl Try.ntmps40 rfl ?_
  refine at_seq ?_
  refine am [] [] (fun γ4 => [(3, .pointer (some ⟨γ4 0, 0, none⟩)), (4, .pointer (some ⟨γ4 1, 0, none⟩)), (5, .pointer (some ⟨γ4 2, 0, none⟩)), (6, .pointer (some ⟨γ4 3, 0, none⟩))]) (fun γ4 L => bx (γ4 3) (#[.slice none 0 0]) 24 :: bx (γ4 2) (#[.func (.func 41) #[] #[.pointer (some ⟨γ2 0, 0, none⟩)]]) 75 :: bx (γ4 1) (#[.int .i64 k]) 3 :: bx (γ4 0) (#[.slice p n cap]) 24 :: L) (fun γ4 => []) (fun _ => by kernel_rfl) (fun γ4 => al0) (fun γ4 => ?_)
  refine done_seq ?_
  refine at_seq ?_
  refine am [(1, .go (owns 0 0 1))] [3, 4, 5, 6] (fun γ5 => [(9, .pointer (some ⟨γ5 0, 0, none⟩))]) (fun γ5 L => bx (γ5 0) (#[.int .i64 0]) 3 :: L) (fun γ5 => []) (fun _ => by kernel_rfl) (fun γ5 => al0) (fun γ5 => ?_)
  refine done_seq ?_
  refine at_seq ?_
  refine at_ops ?_
  refine oq 2 [(0, .go (owns 4 0 1))] [6, 9] [(13, .agg #[.slice p n cap]), (14, .func (.func 61) #[] #[.pointer (some ⟨γ4 1, 0, none⟩), .pointer (some ⟨γ4 2, 0, none⟩), .pointer (some ⟨γ4 0, 0, none⟩), .pointer (some ⟨γ5 0, 0, none⟩)])] ([]) (fun _ => by kernel_rfl) al0 ?_
  refine ops_inline (g := 54) (args := #[.agg #[.slice p n cap], .func (.func 61) #[] #[.pointer (some ⟨γ4 1, 0, none⟩), .pointer (some ⟨γ4 2, 0, none⟩), .pointer (some ⟨γ4 0, 0, none⟩), .pointer (some ⟨γ5 0, 0, none⟩)]]) (by kernel_rfl) (by kernel_rfl) (by kernel_rfl) (fun args w => Try.call54 args w) Try.func54 rfl Try.ntmps54 rfl ?_
  refine at_seq ?_
  refine am [] [1] (fun γ7 => [(2, .pointer (some ⟨γ7 0, 0, none⟩)), (4, .pointer (some ⟨γ7 1, 0, none⟩))]) (fun γ7 L => bx (γ7 1) (#[.slice none 0 0]) 24 :: bx (γ7 0) (#[.slice p n cap]) 24 :: L) (fun γ7 => []) (fun _ => by kernel_rfl) (fun γ7 => al0) (fun γ7 => ?_)
  refine done_seq ?_
  refine at_seq ?_
  refine at_seq ?_
  refine at_ops ?_
  refine oq 1 [(0, .go (owns 1 0 1))] [1, 2, 4] [(9, .agg #[.slice p n cap])] ([]) (fun _ => by kernel_rfl) al0 ?_
  rcases q9 : rightB l with _ | _
  ·
    refine ops_callD (.int .i64 260) (by kernel_rfl) (by kernel_rfl) (by kernel_rfl) (fun args w => Try.call16 args w) (fun w hw => by have := check_d p n cap l w (hsl.kept hw.below) hn hb; rw [q9] at this; exact this) ?_
    refine oq 1 [] [1, 2, 4] [(6, .int .i64 260)] ([]) (fun _ => by kernel_rfl) al0 ?_
    refine ops_nil ?_
    refine done_seq ?_
    refine at_seq ?_
    refine aq [] [1, 2, 4, 6] [(12, .bool true)] ([]) (fun _ => by kernel_rfl) al0 ?_
    refine done_seq ?_
    refine at_true (by kernel_rfl) ?_
    refine at_seq ?_
    refine aq [(2, .go (owns 0 0 1))] [4] [(5, .int .i64 260)] ([]) (fun _ => by kernel_rfl) al0 ?_
    refine done_seq ?_
    refine at_back (owns 0 0 1) (.tuple #[.agg #[.slice none 0 0], .int .i64 260]) [] (by kernel_rfl) (by kernel_rfl) al0 ?_
    refine om 6 [(7, .go (owns 0 0 1))] [6, 9] (fun γ13 => [(10, .pointer (some ⟨γ13 0, 0, none⟩)), (11, .int .i64 260)]) (fun γ13 L => bx (γ13 0) (#[.slice none 0 0]) 24 :: L) (fun γ13 => []) (fun _ => by kernel_rfl) (fun γ13 => al0) (fun γ13 => ?_)
    refine ops_nil ?_
    refine done_seq ?_
    refine at_seq ?_
    refine at_any (by kernel_rfl) ?_
    refine any_tk (f := 5) [2] [] [6, 9, 10] [(20, .int .i64 260)] ([]) #[false, false, true, false, false, false] (by kernel_rfl) (by kernel_rfl) al0 ?_
    refine any_cut 0 #[true, true, true, true, true, true] ([(6, .pointer (some ⟨γ4 3, 0, none⟩)), (7, .int .i64 0), (8, .int .i64 260)]) ([bx (γ13 0) (#[.slice none 0 0]) 24, bx (γ7 1) (#[.slice none 0 0]) 24, bx (γ7 0) (#[.slice p n cap]) 24, bx (γ5 0) (#[.int .i64 0]) 3, bx (γ4 3) (#[.slice none 0 0]) 24, bx (γ4 2) (#[.func (.func 41) #[] #[.pointer (some ⟨γ2 0, 0, none⟩)]]) 75, bx (γ4 1) (#[.int .i64 k]) 3, bx (γ4 0) (#[.slice p n cap]) 24, bx (γ2 0) (#[.bool false]) 4, bx (γ1 1) (#[.slice none 0 0]) 24, bx (γ1 0) (#[.slice p n cap]) 24]) ?_ (fun hm => ?_)
    rotate_left
    ·
      refine any_fork [0, 1] (by kernel_rfl) (by simp) (each_cons _ rfl ?_ (each_cons _ rfl ?_ (each_nil)))
      ·
        refine oq 1 [(0, .go (owns 0 0 1))] [6, 9, 20] [(18, .agg #[.slice none 0 0])] ([]) (fun _ => by kernel_rfl) al0 ?_
        refine ops_nil ?_
        refine done_any ?_
        refine any_fork [1, 3] (by kernel_rfl) (by simp) (each_cons _ rfl ?_ (each_cons _ rfl ?_ (each_nil)))
        ·
          refine oq 1 [(1, .go (owns 3 0 1))] [6, 18, 20] [(19, .int .i64 0)] ([]) (fun _ => by kernel_rfl) al0 ?_
          refine ops_nil ?_
          refine done_any ?_
          refine any_one 3 _ (by kernel_rfl) rfl ?_
          refine oq 1 [(3, .go (owns 4 0 1))] [6, 19, 20] [] ([]) (fun _ => by kernel_rfl) al0 ?_
          refine ops_nil ?_
          refine done_any ?_
          refine any_tk (f := 0) [4, 5] [] [6] [(7, .int .i64 0), (8, .int .i64 260)] ([]) #[true, true, true, true, true, true] (by kernel_rfl) (by kernel_rfl) al0 ?_
          exact any_weak hm [6, 7, 8] (by kernel_rfl) rfl rfl rfl
        ·
          refine oq 1 [(3, .go (owns 4 0 1))] [6, 9, 20] [] ([]) (fun _ => by kernel_rfl) al0 ?_
          refine ops_nil ?_
          refine done_any ?_
          refine any_one 1 _ (by kernel_rfl) rfl ?_
          refine oq 1 [(1, .go (owns 3 0 1))] [6, 20] [(19, .int .i64 0)] ([]) (fun _ => by kernel_rfl) al0 ?_
          refine ops_nil ?_
          refine done_any ?_
          refine any_tk (f := 0) [4, 5] [] [6] [(7, .int .i64 0), (8, .int .i64 260)] ([]) #[true, true, true, true, true, true] (by kernel_rfl) (by kernel_rfl) al0 ?_
          exact any_weak hm [6, 7, 8] (by kernel_rfl) rfl rfl rfl
      ·
        refine oq 1 [(1, .go (owns 3 0 1))] [6, 10, 20] [(19, .int .i64 0)] ([]) (fun _ => by kernel_rfl) al0 ?_
        refine ops_nil ?_
        refine done_any ?_
        refine any_one 0 _ (by kernel_rfl) rfl ?_
        refine oq 1 [(0, .go (owns 0 0 1))] [6, 19, 20] [(18, .agg #[.slice none 0 0])] ([]) (fun _ => by kernel_rfl) al0 ?_
        refine ops_nil ?_
        refine done_any ?_
        refine any_one 3 _ (by kernel_rfl) rfl ?_
        refine oq 1 [(3, .go (owns 4 0 1))] [6, 19, 20] [] ([]) (fun _ => by kernel_rfl) al0 ?_
        refine ops_nil ?_
        refine done_any ?_
        refine any_tk (f := 0) [4, 5] [] [6] [(7, .int .i64 0), (8, .int .i64 260)] ([]) #[true, true, true, true, true, true] (by kernel_rfl) (by kernel_rfl) al0 ?_
        exact any_weak hm [6, 7, 8] (by kernel_rfl) rfl rfl rfl
    refine any_nil (by kernel_rfl) ?_
    refine done_seq ?_
    refine at_back (owns 4 0 1) (.tuple #[.agg #[.slice none 0 0], .int .i64 0, .int .i64 260]) [] (by kernel_rfl) (by kernel_rfl) al0 ?_
    refine om 8 [(9, .go (owns 0 0 1))] [4, 7] (fun γ31 => [(8, .pointer (some ⟨γ31 0, 0, none⟩)), (10, .int .i64 260)]) (fun γ31 L => bx (γ31 0) (#[.slice none 0 0]) 24 :: L) (fun γ31 => []) (fun _ => by kernel_rfl) (fun γ31 => al0) (fun γ31 => ?_)
    refine ops_nil ?_
    refine done_seq ?_
    refine at_seq ?_
    refine at_any (by kernel_rfl) ?_
    refine any_tk (f := 5) [2] [] [4, 7, 8] [(21, .int .i64 260)] ([]) #[false, false, true, false, false, false] (by kernel_rfl) (by kernel_rfl) al0 ?_
    refine any_cut 0 #[true, true, true, true, true, true] ([(4, .pointer (some ⟨γ1 1, 0, none⟩)), (5, .bool false), (6, .int .i64 260)]) ([bx (γ31 0) (#[.slice none 0 0]) 24, bx (γ13 0) (#[.slice none 0 0]) 24, bx (γ7 1) (#[.slice none 0 0]) 24, bx (γ7 0) (#[.slice p n cap]) 24, bx (γ5 0) (#[.int .i64 0]) 3, bx (γ4 3) (#[.slice none 0 0]) 24, bx (γ4 2) (#[.func (.func 41) #[] #[.pointer (some ⟨γ2 0, 0, none⟩)]]) 75, bx (γ4 1) (#[.int .i64 k]) 3, bx (γ4 0) (#[.slice p n cap]) 24, bx (γ2 0) (#[.bool false]) 4, bx (γ1 1) (#[.slice none 0 0]) 24, bx (γ1 0) (#[.slice p n cap]) 24]) ?_ (fun hm => ?_)
    rotate_left
    ·
      refine any_fork [0, 1] (by kernel_rfl) (by simp) (each_cons _ rfl ?_ (each_cons _ rfl ?_ (each_nil)))
      ·
        refine oq 1 [(0, .go (owns 0 0 1))] [4, 7, 21] [(19, .agg #[.slice none 0 0])] ([]) (fun _ => by kernel_rfl) al0 ?_
        refine ops_nil ?_
        refine done_any ?_
        refine any_fork [1, 3] (by kernel_rfl) (by simp) (each_cons _ rfl ?_ (each_cons _ rfl ?_ (each_nil)))
        ·
          refine oq 1 [(1, .go (owns 9 0 1))] [4, 19, 21] [(20, .bool false)] ([]) (fun _ => by kernel_rfl) al0 ?_
          refine ops_nil ?_
          refine done_any ?_
          refine any_one 3 _ (by kernel_rfl) rfl ?_
          refine oq 1 [(3, .go (owns 10 0 1))] [4, 20, 21] [] ([]) (fun _ => by kernel_rfl) al0 ?_
          refine ops_nil ?_
          refine done_any ?_
          refine any_tk (f := 0) [4, 5] [] [4] [(5, .bool false), (6, .int .i64 260)] ([]) #[true, true, true, true, true, true] (by kernel_rfl) (by kernel_rfl) al0 ?_
          exact any_weak hm [4, 5, 6] (by kernel_rfl) rfl rfl rfl
        ·
          refine oq 1 [(3, .go (owns 10 0 1))] [4, 7, 21] [] ([]) (fun _ => by kernel_rfl) al0 ?_
          refine ops_nil ?_
          refine done_any ?_
          refine any_one 1 _ (by kernel_rfl) rfl ?_
          refine oq 1 [(1, .go (owns 9 0 1))] [4, 21] [(20, .bool false)] ([]) (fun _ => by kernel_rfl) al0 ?_
          refine ops_nil ?_
          refine done_any ?_
          refine any_tk (f := 0) [4, 5] [] [4] [(5, .bool false), (6, .int .i64 260)] ([]) #[true, true, true, true, true, true] (by kernel_rfl) (by kernel_rfl) al0 ?_
          exact any_weak hm [4, 5, 6] (by kernel_rfl) rfl rfl rfl
      ·
        refine oq 1 [(1, .go (owns 9 0 1))] [4, 8, 21] [(20, .bool false)] ([]) (fun _ => by kernel_rfl) al0 ?_
        refine ops_nil ?_
        refine done_any ?_
        refine any_one 0 _ (by kernel_rfl) rfl ?_
        refine oq 1 [(0, .go (owns 0 0 1))] [4, 20, 21] [(19, .agg #[.slice none 0 0])] ([]) (fun _ => by kernel_rfl) al0 ?_
        refine ops_nil ?_
        refine done_any ?_
        refine any_one 3 _ (by kernel_rfl) rfl ?_
        refine oq 1 [(3, .go (owns 10 0 1))] [4, 20, 21] [] ([]) (fun _ => by kernel_rfl) al0 ?_
        refine ops_nil ?_
        refine done_any ?_
        refine any_tk (f := 0) [4, 5] [] [4] [(5, .bool false), (6, .int .i64 260)] ([]) #[true, true, true, true, true, true] (by kernel_rfl) (by kernel_rfl) al0 ?_
        exact any_weak hm [4, 5, 6] (by kernel_rfl) rfl rfl rfl
    refine any_nil (by kernel_rfl) ?_
    refine done_seq ?_
    refine at_return (owns 10 0 1) (.tuple #[.agg #[.slice none 0 0], .bool false, .int .i64 260]) [] (by kernel_rfl) (by kernel_rfl) al0 ?_
    exact fun w' hw => by rw [clearV_bad q9]; exact ⟨none, 0, 0, [], rfl, SlO.nil, hw.below, hw.sub (List.nil_sublist _)⟩
  ·
    refine ops_callD (.int .i64 0) (by kernel_rfl) (by kernel_rfl) (by kernel_rfl) (fun args w => Try.call16 args w) (fun w hw => by have := check_d p n cap l w (hsl.kept hw.below) hn hb; rw [q9] at this; exact this) ?_
    refine oq 1 [] [1, 2, 4] [(6, .int .i64 0)] ([]) (fun _ => by kernel_rfl) al0 ?_
    refine ops_nil ?_
    refine done_seq ?_
    refine at_seq ?_
    refine aq [] [1, 2, 4, 6] [(12, .bool false)] ([]) (fun _ => by kernel_rfl) al0 ?_
    refine done_seq ?_
    refine at_false (by kernel_rfl) ?_
    refine at_skip ?_
    refine done_seq ?_
    refine at_seq ?_
    refine at_ops ?_
    refine oq 2 [(1, .go (owns 1 0 1))] [1, 4] [(16, .slice p n cap)] ([]) (fun _ => by kernel_rfl) al0 ?_
    refine ops_call (fun v L' => ∃ q capq Y, v = .slice q n capq ∧ L' = List.take 10 ([bx (γ7 1) (#[.slice none 0 0]) 24, bx (γ7 0) (#[.slice p n cap]) 24, bx (γ5 0) (#[.int .i64 0]) 3, bx (γ4 3) (#[.slice none 0 0]) 24, bx (γ4 2) (#[.func (.func 41) #[] #[.pointer (some ⟨γ2 0, 0, none⟩)]]) 75, bx (γ4 1) (#[.int .i64 k]) 3, bx (γ4 0) (#[.slice p n cap]) 24, bx (γ2 0) (#[.bool false]) 4, bx (γ1 1) (#[.slice none 0 0]) 24, bx (γ1 0) (#[.slice p n cap]) 24]) ++ (Y ++ List.drop 10 ([bx (γ7 1) (#[.slice none 0 0]) 24, bx (γ7 0) (#[.slice p n cap]) 24, bx (γ5 0) (#[.int .i64 0]) 3, bx (γ4 3) (#[.slice none 0 0]) 24, bx (γ4 2) (#[.func (.func 41) #[] #[.pointer (some ⟨γ2 0, 0, none⟩)]]) 75, bx (γ4 1) (#[.int .i64 k]) 3, bx (γ4 0) (#[.slice p n cap]) 24, bx (γ2 0) (#[.bool false]) 4, bx (γ1 1) (#[.slice none 0 0]) 24, bx (γ1 0) (#[.slice p n cap]) 24])) ∧ SlO 40 Y q n capq l) (by kernel_rfl) (by kernel_rfl) (by kernel_rfl) (fun args w => Try.call72 args w) (fun w hw => (clone_d p n cap l w (hsl.kept hw.below) hn (by omega)).mono fun e w' ⟨q, capq, Y, he, hO, hb, hY⟩ => ⟨_, _, he, ⟨q, capq, Y, rfl, rfl, hO⟩, hw.join hb hY 10⟩) ?_
    rintro v52 L52 ⟨q52, cq52, Y52, rfl, rfl, hO52⟩
    have hnq52 := hO52.len
    rcases hO52.parts with ⟨rfl, rfl, hz52⟩ | ⟨g52, cs52, rfl, rfl, hOw52⟩
    ·
      refine om 3 [(5, .go (owns 0 0 1))] [1, 4] (fun γ53 => [(7, .pointer (some ⟨γ53 0, 0, none⟩))]) (fun γ53 L => bx (γ53 0) (#[.slice none n cq52]) 24 :: L) (fun γ53 => []) (fun _ => by kernel_rfl) (fun γ53 => al0) (fun γ53 => ?_)
      refine ops_nil ?_
      refine done_seq ?_
      refine at_seq ?_
      refine at_seq ?_
      refine at_ops ?_
      refine oq 1 [] [4, 7] [(19, .func (.func 61) #[] #[.pointer (some ⟨γ4 1, 0, none⟩), .pointer (some ⟨γ4 2, 0, none⟩), .pointer (some ⟨γ4 0, 0, none⟩), .pointer (some ⟨γ5 0, 0, none⟩)])] ([]) (fun _ => by kernel_rfl) al0 ?_
      refine ops_inline (g := 61) (args := #[.pointer (some ⟨γ53 0, 0, none⟩), .pointer (some ⟨γ4 1, 0, none⟩), .pointer (some ⟨γ4 2, 0, none⟩), .pointer (some ⟨γ4 0, 0, none⟩), .pointer (some ⟨γ5 0, 0, none⟩)]) (by kernel_rfl) (by kernel_rfl) (by kernel_rfl) (fun args w => Try.call61 args w) Try.func61 rfl Try.ntmps61 rfl ?_
      refine at_seq ?_
      refine aq [] [0, 1, 2, 3, 4] [] ([]) (fun _ => by kernel_rfl) al0 ?_
      refine done_seq ?_
      refine at_seq ?_
      refine at_calm rfl (by kernel_rfl) (by kernel_rfl) ?_
      refine cm 5 [(3, .go (owns 0 0 1)), (4, .go (owns 6 0 1))] [0, 2, 3, 4] [(14, .slice none n cq52), (15, .int .i64 k)] ([]) (by kernel_rfl) rfl al0 ?_
      rcases hg57 : getB l k with _ | y57
      ·
        refine calm_callD (.pointer none) (by kernel_rfl) (by kernel_rfl) (by kernel_rfl) (fun args w => Try.call32 args w) (fun w hw => by have := port_d none n cq52 l k w (hO52.atN (A := []) hw) hnq52 (by omega) (ris_all (right_ris q9)) (ris_asc l 0 (right_ris q9)); rw [portV_none hg57] at this; exact this) ?_
        refine cm 1 [] [0, 2, 3, 4] [(7, .pointer none)] ([]) (by kernel_rfl) rfl al0 ?_
        refine calm_nil' ?_
        refine done_seq ?_
        refine at_seq ?_
        refine at_seq ?_
        refine aq [] [0, 2, 3, 4, 7] [(18, .bool true)] ([]) (fun _ => by kernel_rfl) al0 ?_
        refine done_seq ?_
        refine at_true (by kernel_rfl) ?_
        refine at_seq ?_
        refine aq [] [] [(6, .int .i64 4)] ([]) (fun _ => by kernel_rfl) al0 ?_
        refine done_seq ?_
        refine at_back ([]) (.int .i64 4) [] (by kernel_rfl) (by kernel_rfl) al0 ?_
        refine oq 1 [] [4, 7] [(8, .int .i64 4)] ([]) (fun _ => by kernel_rfl) al0 ?_
        refine ops_nil ?_
        refine done_seq ?_
        refine at_seq ?_
        refine aq [] [4, 7, 8] [(22, .bool true)] ([]) (fun _ => by kernel_rfl) al0 ?_
        refine done_seq ?_
        refine at_true (by kernel_rfl) ?_
        refine at_seq ?_
        refine aq [(2, .go (owns 1 0 1))] [4] [(5, .int .i64 4)] ([]) (fun _ => by kernel_rfl) al0 ?_
        refine done_seq ?_
        refine at_back (owns 1 0 1) (.tuple #[.agg #[.slice none 0 0], .int .i64 4]) [] (by kernel_rfl) (by kernel_rfl) al0 ?_
        refine om 6 [(7, .go (owns 0 0 1))] [6, 9] (fun γ64 => [(10, .pointer (some ⟨γ64 0, 0, none⟩)), (11, .int .i64 4)]) (fun γ64 L => bx (γ64 0) (#[.slice none 0 0]) 24 :: L) (fun γ64 => []) (fun _ => by kernel_rfl) (fun γ64 => al0) (fun γ64 => ?_)
        refine ops_nil ?_
        refine done_seq ?_
        refine at_seq ?_
        refine at_any (by kernel_rfl) ?_
        refine any_tk (f := 5) [2] [] [6, 9, 10] [(20, .int .i64 4)] ([]) #[false, false, true, false, false, false] (by kernel_rfl) (by kernel_rfl) al0 ?_
        refine any_cut 0 #[true, true, true, true, true, true] ([(6, .pointer (some ⟨γ4 3, 0, none⟩)), (7, .int .i64 0), (8, .int .i64 4)]) ([bx (γ64 0) (#[.slice none 0 0]) 24, bx (γ53 0) (#[.slice none n cq52]) 24, bx (γ7 1) (#[.slice none 0 0]) 24, bx (γ7 0) (#[.slice p n cap]) 24, bx (γ5 0) (#[.int .i64 0]) 3, bx (γ4 3) (#[.slice none 0 0]) 24, bx (γ4 2) (#[.func (.func 41) #[] #[.pointer (some ⟨γ2 0, 0, none⟩)]]) 75, bx (γ4 1) (#[.int .i64 k]) 3, bx (γ4 0) (#[.slice p n cap]) 24, bx (γ2 0) (#[.bool false]) 4, bx (γ1 1) (#[.slice none 0 0]) 24, bx (γ1 0) (#[.slice p n cap]) 24]) ?_ (fun hm => ?_)
        rotate_left
        ·
          refine any_fork [0, 1] (by kernel_rfl) (by simp) (each_cons _ rfl ?_ (each_cons _ rfl ?_ (each_nil)))
          ·
            refine oq 1 [(0, .go (owns 0 0 1))] [6, 9, 20] [(18, .agg #[.slice none 0 0])] ([]) (fun _ => by kernel_rfl) al0 ?_
            refine ops_nil ?_
            refine done_any ?_
            refine any_fork [1, 3] (by kernel_rfl) (by simp) (each_cons _ rfl ?_ (each_cons _ rfl ?_ (each_nil)))
            ·
              refine oq 1 [(1, .go (owns 4 0 1))] [6, 18, 20] [(19, .int .i64 0)] ([]) (fun _ => by kernel_rfl) al0 ?_
              refine ops_nil ?_
              refine done_any ?_
              refine any_one 3 _ (by kernel_rfl) rfl ?_
              refine oq 1 [(3, .go (owns 5 0 1))] [6, 19, 20] [] ([]) (fun _ => by kernel_rfl) al0 ?_
              refine ops_nil ?_
              refine done_any ?_
              refine any_tk (f := 0) [4, 5] [] [6] [(7, .int .i64 0), (8, .int .i64 4)] ([]) #[true, true, true, true, true, true] (by kernel_rfl) (by kernel_rfl) al0 ?_
              exact any_weak hm [6, 7, 8] (by kernel_rfl) rfl rfl rfl
            ·
              refine oq 1 [(3, .go (owns 5 0 1))] [6, 9, 20] [] ([]) (fun _ => by kernel_rfl) al0 ?_
              refine ops_nil ?_
              refine done_any ?_
              refine any_one 1 _ (by kernel_rfl) rfl ?_
              refine oq 1 [(1, .go (owns 4 0 1))] [6, 20] [(19, .int .i64 0)] ([]) (fun _ => by kernel_rfl) al0 ?_
              refine ops_nil ?_
              refine done_any ?_
              refine any_tk (f := 0) [4, 5] [] [6] [(7, .int .i64 0), (8, .int .i64 4)] ([]) #[true, true, true, true, true, true] (by kernel_rfl) (by kernel_rfl) al0 ?_
              exact any_weak hm [6, 7, 8] (by kernel_rfl) rfl rfl rfl
          ·
            refine oq 1 [(1, .go (owns 4 0 1))] [6, 10, 20] [(19, .int .i64 0)] ([]) (fun _ => by kernel_rfl) al0 ?_
            refine ops_nil ?_
            refine done_any ?_
            refine any_one 0 _ (by kernel_rfl) rfl ?_
            refine oq 1 [(0, .go (owns 0 0 1))] [6, 19, 20] [(18, .agg #[.slice none 0 0])] ([]) (fun _ => by kernel_rfl) al0 ?_
            refine ops_nil ?_
            refine done_any ?_
            refine any_one 3 _ (by kernel_rfl) rfl ?_
            refine oq 1 [(3, .go (owns 5 0 1))] [6, 19, 20] [] ([]) (fun _ => by kernel_rfl) al0 ?_
            refine ops_nil ?_
            refine done_any ?_
            refine any_tk (f := 0) [4, 5] [] [6] [(7, .int .i64 0), (8, .int .i64 4)] ([]) #[true, true, true, true, true, true] (by kernel_rfl) (by kernel_rfl) al0 ?_
            exact any_weak hm [6, 7, 8] (by kernel_rfl) rfl rfl rfl
        refine any_nil (by kernel_rfl) ?_
        refine done_seq ?_
        refine at_back (owns 5 0 1) (.tuple #[.agg #[.slice none 0 0], .int .i64 0, .int .i64 4]) [] (by kernel_rfl) (by kernel_rfl) al0 ?_
        refine om 8 [(9, .go (owns 0 0 1))] [4, 7] (fun γ82 => [(8, .pointer (some ⟨γ82 0, 0, none⟩)), (10, .int .i64 4)]) (fun γ82 L => bx (γ82 0) (#[.slice none 0 0]) 24 :: L) (fun γ82 => []) (fun _ => by kernel_rfl) (fun γ82 => al0) (fun γ82 => ?_)
        refine ops_nil ?_
        refine done_seq ?_
        refine at_seq ?_
        refine at_any (by kernel_rfl) ?_
        refine any_tk (f := 5) [2] [] [4, 7, 8] [(21, .int .i64 4)] ([]) #[false, false, true, false, false, false] (by kernel_rfl) (by kernel_rfl) al0 ?_
        refine any_cut 0 #[true, true, true, true, true, true] ([(4, .pointer (some ⟨γ1 1, 0, none⟩)), (5, .bool false), (6, .int .i64 4)]) ([bx (γ82 0) (#[.slice none 0 0]) 24, bx (γ64 0) (#[.slice none 0 0]) 24, bx (γ53 0) (#[.slice none n cq52]) 24, bx (γ7 1) (#[.slice none 0 0]) 24, bx (γ7 0) (#[.slice p n cap]) 24, bx (γ5 0) (#[.int .i64 0]) 3, bx (γ4 3) (#[.slice none 0 0]) 24, bx (γ4 2) (#[.func (.func 41) #[] #[.pointer (some ⟨γ2 0, 0, none⟩)]]) 75, bx (γ4 1) (#[.int .i64 k]) 3, bx (γ4 0) (#[.slice p n cap]) 24, bx (γ2 0) (#[.bool false]) 4, bx (γ1 1) (#[.slice none 0 0]) 24, bx (γ1 0) (#[.slice p n cap]) 24]) ?_ (fun hm => ?_)
        rotate_left
        ·
          refine any_fork [0, 1] (by kernel_rfl) (by simp) (each_cons _ rfl ?_ (each_cons _ rfl ?_ (each_nil)))
          ·
            refine oq 1 [(0, .go (owns 0 0 1))] [4, 7, 21] [(19, .agg #[.slice none 0 0])] ([]) (fun _ => by kernel_rfl) al0 ?_
            refine ops_nil ?_
            refine done_any ?_
            refine any_fork [1, 3] (by kernel_rfl) (by simp) (each_cons _ rfl ?_ (each_cons _ rfl ?_ (each_nil)))
            ·
              refine oq 1 [(1, .go (owns 10 0 1))] [4, 19, 21] [(20, .bool false)] ([]) (fun _ => by kernel_rfl) al0 ?_
              refine ops_nil ?_
              refine done_any ?_
              refine any_one 3 _ (by kernel_rfl) rfl ?_
              refine oq 1 [(3, .go (owns 11 0 1))] [4, 20, 21] [] ([]) (fun _ => by kernel_rfl) al0 ?_
              refine ops_nil ?_
              refine done_any ?_
              refine any_tk (f := 0) [4, 5] [] [4] [(5, .bool false), (6, .int .i64 4)] ([]) #[true, true, true, true, true, true] (by kernel_rfl) (by kernel_rfl) al0 ?_
              exact any_weak hm [4, 5, 6] (by kernel_rfl) rfl rfl rfl
            ·
              refine oq 1 [(3, .go (owns 11 0 1))] [4, 7, 21] [] ([]) (fun _ => by kernel_rfl) al0 ?_
              refine ops_nil ?_
              refine done_any ?_
              refine any_one 1 _ (by kernel_rfl) rfl ?_
              refine oq 1 [(1, .go (owns 10 0 1))] [4, 21] [(20, .bool false)] ([]) (fun _ => by kernel_rfl) al0 ?_
              refine ops_nil ?_
              refine done_any ?_
              refine any_tk (f := 0) [4, 5] [] [4] [(5, .bool false), (6, .int .i64 4)] ([]) #[true, true, true, true, true, true] (by kernel_rfl) (by kernel_rfl) al0 ?_
              exact any_weak hm [4, 5, 6] (by kernel_rfl) rfl rfl rfl
          ·
            refine oq 1 [(1, .go (owns 10 0 1))] [4, 8, 21] [(20, .bool false)] ([]) (fun _ => by kernel_rfl) al0 ?_
            refine ops_nil ?_
            refine done_any ?_
            refine any_one 0 _ (by kernel_rfl) rfl ?_
            refine oq 1 [(0, .go (owns 0 0 1))] [4, 20, 21] [(19, .agg #[.slice none 0 0])] ([]) (fun _ => by kernel_rfl) al0 ?_
            refine ops_nil ?_
            refine done_any ?_
            refine any_one 3 _ (by kernel_rfl) rfl ?_
            refine oq 1 [(3, .go (owns 11 0 1))] [4, 20, 21] [] ([]) (fun _ => by kernel_rfl) al0 ?_
            refine ops_nil ?_
            refine done_any ?_
            refine any_tk (f := 0) [4, 5] [] [4] [(5, .bool false), (6, .int .i64 4)] ([]) #[true, true, true, true, true, true] (by kernel_rfl) (by kernel_rfl) al0 ?_
            exact any_weak hm [4, 5, 6] (by kernel_rfl) rfl rfl rfl
        refine any_nil (by kernel_rfl) ?_
        refine done_seq ?_
        refine at_return (owns 11 0 1) (.tuple #[.agg #[.slice none 0 0], .bool false, .int .i64 4]) [] (by kernel_rfl) (by kernel_rfl) al0 ?_
        exact fun w' hw => by rw [clearV_none q9 hg57]; exact ⟨none, 0, 0, [], rfl, SlO.nil, hw.below, hw.sub (List.nil_sublist _)⟩
      ·
        have hy57 := (get_pos (ris_asc l 0 (right_ris q9)) hg57).1
        exact absurd (List.getElem?_eq_some_iff.1 hy57).1 (by omega)
    ·
      refine om 3 [(5, .go (owns 0 0 1))] [1, 4] (fun γ101 => [(7, .pointer (some ⟨γ101 0, 0, none⟩))]) (fun γ101 L => bx (γ101 0) (#[.slice (some ⟨g52, 0, none⟩) n cq52]) 24 :: L) (fun γ101 => []) (fun _ => by kernel_rfl) (fun γ101 => al0) (fun γ101 => ?_)
      refine ops_nil ?_
      refine done_seq ?_
      refine at_seq ?_
      refine at_seq ?_
      refine at_ops ?_
      refine oq 1 [] [4, 7] [(19, .func (.func 61) #[] #[.pointer (some ⟨γ4 1, 0, none⟩), .pointer (some ⟨γ4 2, 0, none⟩), .pointer (some ⟨γ4 0, 0, none⟩), .pointer (some ⟨γ5 0, 0, none⟩)])] ([]) (fun _ => by kernel_rfl) al0 ?_
      refine ops_inline (g := 61) (args := #[.pointer (some ⟨γ101 0, 0, none⟩), .pointer (some ⟨γ4 1, 0, none⟩), .pointer (some ⟨γ4 2, 0, none⟩), .pointer (some ⟨γ4 0, 0, none⟩), .pointer (some ⟨γ5 0, 0, none⟩)]) (by kernel_rfl) (by kernel_rfl) (by kernel_rfl) (fun args w => Try.call61 args w) Try.func61 rfl Try.ntmps61 rfl ?_
      refine at_seq ?_
      refine aq [] [0, 1, 2, 3, 4] [] ([]) (fun _ => by kernel_rfl) al0 ?_
      refine done_seq ?_
      refine at_seq ?_
      refine at_calm rfl (by kernel_rfl) (by kernel_rfl) ?_
      refine cm 5 [(3, .go (owns 0 0 1)), (4, .go (owns 6 0 1))] [0, 2, 3, 4] [(14, .slice (some ⟨g52, 0, none⟩) n cq52), (15, .int .i64 k)] ([]) (by kernel_rfl) rfl al0 ?_
      rcases hg105 : getB l k with _ | y105
      ·
        refine calm_callD (.pointer none) (by kernel_rfl) (by kernel_rfl) (by kernel_rfl) (fun args w => Try.call32 args w) (fun w hw => by have := port_d (some ⟨g52, 0, none⟩) n cq52 l k w (hO52.atN (A := [_, _, _, _, _, _, _, _, _, _, _]) hw) hnq52 (by omega) (ris_all (right_ris q9)) (ris_asc l 0 (right_ris q9)); rw [portV_none hg105] at this; exact this) ?_
        refine cm 1 [] [0, 2, 3, 4] [(7, .pointer none)] ([]) (by kernel_rfl) rfl al0 ?_
        refine calm_nil' ?_
        refine done_seq ?_
        refine at_seq ?_
        refine at_seq ?_
        refine aq [] [0, 2, 3, 4, 7] [(18, .bool true)] ([]) (fun _ => by kernel_rfl) al0 ?_
        refine done_seq ?_
        refine at_true (by kernel_rfl) ?_
        refine at_seq ?_
        refine aq [] [] [(6, .int .i64 4)] ([]) (fun _ => by kernel_rfl) al0 ?_
        refine done_seq ?_
        refine at_back ([]) (.int .i64 4) [] (by kernel_rfl) (by kernel_rfl) al0 ?_
        refine oq 1 [] [4, 7] [(8, .int .i64 4)] ([]) (fun _ => by kernel_rfl) al0 ?_
        refine ops_nil ?_
        refine done_seq ?_
        refine at_seq ?_
        refine aq [] [4, 7, 8] [(22, .bool true)] ([]) (fun _ => by kernel_rfl) al0 ?_
        refine done_seq ?_
        refine at_true (by kernel_rfl) ?_
        refine at_seq ?_
        refine aq [(2, .go (owns 1 0 1))] [4] [(5, .int .i64 4)] ([]) (fun _ => by kernel_rfl) al0 ?_
        refine done_seq ?_
        refine at_back (owns 1 0 1) (.tuple #[.agg #[.slice none 0 0], .int .i64 4]) [] (by kernel_rfl) (by kernel_rfl) al0 ?_
        refine om 6 [(7, .go (owns 0 0 1))] [6, 9] (fun γ112 => [(10, .pointer (some ⟨γ112 0, 0, none⟩)), (11, .int .i64 4)]) (fun γ112 L => bx (γ112 0) (#[.slice none 0 0]) 24 :: L) (fun γ112 => []) (fun _ => by kernel_rfl) (fun γ112 => al0) (fun γ112 => ?_)
        refine ops_nil ?_
        refine done_seq ?_
        refine at_seq ?_
        refine at_any (by kernel_rfl) ?_
        refine any_tk (f := 5) [2] [] [6, 9, 10] [(20, .int .i64 4)] ([]) #[false, false, true, false, false, false] (by kernel_rfl) (by kernel_rfl) al0 ?_
        refine any_cut 0 #[true, true, true, true, true, true] ([(6, .pointer (some ⟨γ4 3, 0, none⟩)), (7, .int .i64 0), (8, .int .i64 4)]) ([bx (γ112 0) (#[.slice none 0 0]) 24, bx (γ101 0) (#[.slice (some ⟨g52, 0, none⟩) n cq52]) 24, bx (γ7 1) (#[.slice none 0 0]) 24, bx (γ7 0) (#[.slice p n cap]) 24, bx (γ5 0) (#[.int .i64 0]) 3, bx (γ4 3) (#[.slice none 0 0]) 24, bx (γ4 2) (#[.func (.func 41) #[] #[.pointer (some ⟨γ2 0, 0, none⟩)]]) 75, bx (γ4 1) (#[.int .i64 k]) 3, bx (γ4 0) (#[.slice p n cap]) 24, bx (γ2 0) (#[.bool false]) 4, bx (γ1 1) (#[.slice none 0 0]) 24, bx (γ1 0) (#[.slice p n cap]) 24, bx g52 cs52 40]) ?_ (fun hm => ?_)
        rotate_left
        ·
          refine any_fork [0, 1] (by kernel_rfl) (by simp) (each_cons _ rfl ?_ (each_cons _ rfl ?_ (each_nil)))
          ·
            refine oq 1 [(0, .go (owns 0 0 1))] [6, 9, 20] [(18, .agg #[.slice none 0 0])] ([]) (fun _ => by kernel_rfl) al0 ?_
            refine ops_nil ?_
            refine done_any ?_
            refine any_fork [1, 3] (by kernel_rfl) (by simp) (each_cons _ rfl ?_ (each_cons _ rfl ?_ (each_nil)))
            ·
              refine oq 1 [(1, .go (owns 4 0 1))] [6, 18, 20] [(19, .int .i64 0)] ([]) (fun _ => by kernel_rfl) al0 ?_
              refine ops_nil ?_
              refine done_any ?_
              refine any_one 3 _ (by kernel_rfl) rfl ?_
              refine oq 1 [(3, .go (owns 5 0 1))] [6, 19, 20] [] ([]) (fun _ => by kernel_rfl) al0 ?_
              refine ops_nil ?_
              refine done_any ?_
              refine any_tk (f := 0) [4, 5] [] [6] [(7, .int .i64 0), (8, .int .i64 4)] ([]) #[true, true, true, true, true, true] (by kernel_rfl) (by kernel_rfl) al0 ?_
              exact any_weak hm [6, 7, 8] (by kernel_rfl) rfl rfl rfl
            ·
              refine oq 1 [(3, .go (owns 5 0 1))] [6, 9, 20] [] ([]) (fun _ => by kernel_rfl) al0 ?_
              refine ops_nil ?_
              refine done_any ?_
              refine any_one 1 _ (by kernel_rfl) rfl ?_
              refine oq 1 [(1, .go (owns 4 0 1))] [6, 20] [(19, .int .i64 0)] ([]) (fun _ => by kernel_rfl) al0 ?_
              refine ops_nil ?_
              refine done_any ?_
              refine any_tk (f := 0) [4, 5] [] [6] [(7, .int .i64 0), (8, .int .i64 4)] ([]) #[true, true, true, true, true, true] (by kernel_rfl) (by kernel_rfl) al0 ?_
              exact any_weak hm [6, 7, 8] (by kernel_rfl) rfl rfl rfl
          ·
            refine oq 1 [(1, .go (owns 4 0 1))] [6, 10, 20] [(19, .int .i64 0)] ([]) (fun _ => by kernel_rfl) al0 ?_
            refine ops_nil ?_
            refine done_any ?_
            refine any_one 0 _ (by kernel_rfl) rfl ?_
            refine oq 1 [(0, .go (owns 0 0 1))] [6, 19, 20] [(18, .agg #[.slice none 0 0])] ([]) (fun _ => by kernel_rfl) al0 ?_
            refine ops_nil ?_
            refine done_any ?_
            refine any_one 3 _ (by kernel_rfl) rfl ?_
            refine oq 1 [(3, .go (owns 5 0 1))] [6, 19, 20] [] ([]) (fun _ => by kernel_rfl) al0 ?_
            refine ops_nil ?_
            refine done_any ?_
            refine any_tk (f := 0) [4, 5] [] [6] [(7, .int .i64 0), (8, .int .i64 4)] ([]) #[true, true, true, true, true, true] (by kernel_rfl) (by kernel_rfl) al0 ?_
            exact any_weak hm [6, 7, 8] (by kernel_rfl) rfl rfl rfl
        refine any_nil (by kernel_rfl) ?_
        refine done_seq ?_
        refine at_back (owns 5 0 1) (.tuple #[.agg #[.slice none 0 0], .int .i64 0, .int .i64 4]) [] (by kernel_rfl) (by kernel_rfl) al0 ?_
        refine om 8 [(9, .go (owns 0 0 1))] [4, 7] (fun γ130 => [(8, .pointer (some ⟨γ130 0, 0, none⟩)), (10, .int .i64 4)]) (fun γ130 L => bx (γ130 0) (#[.slice none 0 0]) 24 :: L) (fun γ130 => []) (fun _ => by kernel_rfl) (fun γ130 => al0) (fun γ130 => ?_)
        refine ops_nil ?_
        refine done_seq ?_
        refine at_seq ?_
        refine at_any (by kernel_rfl) ?_
        refine any_tk (f := 5) [2] [] [4, 7, 8] [(21, .int .i64 4)] ([]) #[false, false, true, false, false, false] (by kernel_rfl) (by kernel_rfl) al0 ?_
        refine any_cut 0 #[true, true, true, true, true, true] ([(4, .pointer (some ⟨γ1 1, 0, none⟩)), (5, .bool false), (6, .int .i64 4)]) ([bx (γ130 0) (#[.slice none 0 0]) 24, bx (γ112 0) (#[.slice none 0 0]) 24, bx (γ101 0) (#[.slice (some ⟨g52, 0, none⟩) n cq52]) 24, bx (γ7 1) (#[.slice none 0 0]) 24, bx (γ7 0) (#[.slice p n cap]) 24, bx (γ5 0) (#[.int .i64 0]) 3, bx (γ4 3) (#[.slice none 0 0]) 24, bx (γ4 2) (#[.func (.func 41) #[] #[.pointer (some ⟨γ2 0, 0, none⟩)]]) 75, bx (γ4 1) (#[.int .i64 k]) 3, bx (γ4 0) (#[.slice p n cap]) 24, bx (γ2 0) (#[.bool false]) 4, bx (γ1 1) (#[.slice none 0 0]) 24, bx (γ1 0) (#[.slice p n cap]) 24, bx g52 cs52 40]) ?_ (fun hm => ?_)
        rotate_left
        ·
          refine any_fork [0, 1] (by kernel_rfl) (by simp) (each_cons _ rfl ?_ (each_cons _ rfl ?_ (each_nil)))
          ·
            refine oq 1 [(0, .go (owns 0 0 1))] [4, 7, 21] [(19, .agg #[.slice none 0 0])] ([]) (fun _ => by kernel_rfl) al0 ?_
            refine ops_nil ?_
            refine done_any ?_
            refine any_fork [1, 3] (by kernel_rfl) (by simp) (each_cons _ rfl ?_ (each_cons _ rfl ?_ (each_nil)))
            ·
              refine oq 1 [(1, .go (owns 10 0 1))] [4, 19, 21] [(20, .bool false)] ([]) (fun _ => by kernel_rfl) al0 ?_
              refine ops_nil ?_
              refine done_any ?_
              refine any_one 3 _ (by kernel_rfl) rfl ?_
              refine oq 1 [(3, .go (owns 11 0 1))] [4, 20, 21] [] ([]) (fun _ => by kernel_rfl) al0 ?_
              refine ops_nil ?_
              refine done_any ?_
              refine any_tk (f := 0) [4, 5] [] [4] [(5, .bool false), (6, .int .i64 4)] ([]) #[true, true, true, true, true, true] (by kernel_rfl) (by kernel_rfl) al0 ?_
              exact any_weak hm [4, 5, 6] (by kernel_rfl) rfl rfl rfl
            ·
              refine oq 1 [(3, .go (owns 11 0 1))] [4, 7, 21] [] ([]) (fun _ => by kernel_rfl) al0 ?_
              refine ops_nil ?_
              refine done_any ?_
              refine any_one 1 _ (by kernel_rfl) rfl ?_
              refine oq 1 [(1, .go (owns 10 0 1))] [4, 21] [(20, .bool false)] ([]) (fun _ => by kernel_rfl) al0 ?_
              refine ops_nil ?_
              refine done_any ?_
              refine any_tk (f := 0) [4, 5] [] [4] [(5, .bool false), (6, .int .i64 4)] ([]) #[true, true, true, true, true, true] (by kernel_rfl) (by kernel_rfl) al0 ?_
              exact any_weak hm [4, 5, 6] (by kernel_rfl) rfl rfl rfl
          ·
            refine oq 1 [(1, .go (owns 10 0 1))] [4, 8, 21] [(20, .bool false)] ([]) (fun _ => by kernel_rfl) al0 ?_
            refine ops_nil ?_
            refine done_any ?_
            refine any_one 0 _ (by kernel_rfl) rfl ?_
            refine oq 1 [(0, .go (owns 0 0 1))] [4, 20, 21] [(19, .agg #[.slice none 0 0])] ([]) (fun _ => by kernel_rfl) al0 ?_
            refine ops_nil ?_
            refine done_any ?_
            refine any_one 3 _ (by kernel_rfl) rfl ?_
            refine oq 1 [(3, .go (owns 11 0 1))] [4, 20, 21] [] ([]) (fun _ => by kernel_rfl) al0 ?_
            refine ops_nil ?_
            refine done_any ?_
            refine any_tk (f := 0) [4, 5] [] [4] [(5, .bool false), (6, .int .i64 4)] ([]) #[true, true, true, true, true, true] (by kernel_rfl) (by kernel_rfl) al0 ?_
            exact any_weak hm [4, 5, 6] (by kernel_rfl) rfl rfl rfl
        refine any_nil (by kernel_rfl) ?_
        refine done_seq ?_
        refine at_return (owns 11 0 1) (.tuple #[.agg #[.slice none 0 0], .bool false, .int .i64 4]) [] (by kernel_rfl) (by kernel_rfl) al0 ?_
        exact fun w' hw => by rw [clearV_none q9 hg105]; exact ⟨none, 0, 0, [], rfl, SlO.nil, hw.below, hw.sub (List.nil_sublist _)⟩
      ·
        have hy105 := (get_pos (ris_asc l 0 (right_ris q9)) hg105).1
        refine calm_callD (.pointer (some ⟨g52, 0 + (posB l k) * 5, none⟩)) (by kernel_rfl) (by kernel_rfl) (by kernel_rfl) (fun args w => Try.call32 args w) (fun w hw => by have := port_d (some ⟨g52, 0, none⟩) n cq52 l k w (hO52.atN (A := [_, _, _, _, _, _, _, _, _, _, _]) hw) hnq52 (by omega) (ris_all (right_ris q9)) (ris_asc l 0 (right_ris q9)); rw [portV_some hg105] at this; exact this) ?_
        refine cm 1 [] [0, 2, 3, 4] [(7, .pointer (some ⟨g52, 0 + (posB l k) * 5, none⟩))] ([]) (by kernel_rfl) rfl al0 ?_
        refine calm_nil' ?_
        refine done_seq ?_
        refine at_seq ?_
        refine at_seq ?_
        refine aq [] [0, 2, 3, 4, 7] [(18, .bool false)] ([]) (fun _ => by kernel_rfl) al0 ?_
        refine done_seq ?_
        refine at_false (by kernel_rfl) ?_
        refine at_skip ?_
        refine done_seq ?_
        refine at_seq ?_
        refine at_any (by kernel_rfl) ?_
        refine any_tk (f := 8) [1, 2, 3, 4] [] [2, 3, 4] [(21, .pointer (some ⟨g52, 0 + (posB l k) * 5, none⟩)), (24, .pointer (some ⟨γ101 0, 0, none⟩))] ([]) #[false, true, true, true, true, false, false, false, false, false, false, false] (by kernel_rfl) (by kernel_rfl) al0 ?_
        refine any_cut 6 #[true, true, true, true, true, true, false, false, false, false, false, false] ([(3, .pointer (some ⟨γ4 0, 0, none⟩)), (4, .pointer (some ⟨γ5 0, 0, none⟩)), (20, .func (.func 41) #[] #[.pointer (some ⟨γ2 0, 0, none⟩)]), (21, .pointer (some ⟨g52, 0 + (posB l k) * 5, none⟩)), (25, .slice (some ⟨g52, 0, none⟩) n cq52)]) ([bx (γ101 0) (#[.slice (some ⟨g52, 0, none⟩) n cq52]) 24, bx (γ7 1) (#[.slice none 0 0]) 24, bx (γ7 0) (#[.slice p n cap]) 24, bx (γ5 0) (#[.int .i64 0]) 3, bx (γ4 3) (#[.slice none 0 0]) 24, bx (γ4 2) (#[.func (.func 41) #[] #[.pointer (some ⟨γ2 0, 0, none⟩)]]) 75, bx (γ4 1) (#[.int .i64 k]) 3, bx (γ4 0) (#[.slice p n cap]) 24, bx (γ2 0) (#[.bool false]) 4, bx (γ1 1) (#[.slice none 0 0]) 24, bx (γ1 0) (#[.slice p n cap]) 24, bx g52 cs52 40]) ?_ (fun hm => ?_)
        rotate_left
        ·
          refine any_fork [0, 5] (by kernel_rfl) (by simp) (each_cons _ rfl ?_ (each_cons _ rfl ?_ (each_nil)))
          ·
            refine oq 1 [(0, .go (owns 5 0 1))] [3, 4, 21, 24] [(20, .func (.func 41) #[] #[.pointer (some ⟨γ2 0, 0, none⟩)])] ([]) (fun _ => by kernel_rfl) al0 ?_
            refine ops_nil ?_
            refine done_any ?_
            refine any_one 5 _ (by kernel_rfl) rfl ?_
            refine oq 1 [(5, .go (owns 0 0 1))] [3, 4, 20, 21] [(25, .slice (some ⟨g52, 0, none⟩) n cq52)] ([]) (fun _ => by kernel_rfl) al0 ?_
            refine ops_nil ?_
            refine done_any ?_
            exact any_weak hm [3, 4, 20, 21, 25] (by kernel_rfl) rfl rfl rfl
          ·
            refine oq 1 [(5, .go (owns 0 0 1))] [2, 3, 4, 21] [(25, .slice (some ⟨g52, 0, none⟩) n cq52)] ([]) (fun _ => by kernel_rfl) al0 ?_
            refine ops_nil ?_
            refine done_any ?_
            refine any_one 0 _ (by kernel_rfl) rfl ?_
            refine oq 1 [(0, .go (owns 5 0 1))] [3, 4, 21, 25] [(20, .func (.func 41) #[] #[.pointer (some ⟨γ2 0, 0, none⟩)])] ([]) (fun _ => by kernel_rfl) al0 ?_
            refine ops_nil ?_
            refine done_any ?_
            exact any_weak hm [3, 4, 20, 21, 25] (by kernel_rfl) rfl rfl rfl
        refine any_one 6 _ (by kernel_rfl) rfl ?_
        refine ops_inline (g := 41) (args := #[.pointer (some ⟨g52, 0 + (posB l k) * 5, none⟩), .slice (some ⟨g52, 0, none⟩) n cq52, .pointer (some ⟨γ2 0, 0, none⟩)]) (by kernel_rfl) (by kernel_rfl) (by kernel_rfl) (fun args w => Try.call41 args w) Try.func41 rfl Try.ntmps41 rfl ?_
        refine at_seq ?_
        refine aq [] [0, 2] [] ([]) (fun _ => by kernel_rfl) al0 ?_
        refine done_seq ?_
        refine at_seq ?_
        refine am [(4, .go (ownps 11 (0 + (posB l k) * 5 + 3) [.bool y105.pending])), (5, .go (owns 8 0 1)), (8, .go (ownps 11 (0 + (posB l k) * 5 + 3) [undef]))] [0] (fun _ => []) (fun _ L => ((L.set 8 (bx (γ2 0) (#[.bool y105.pending]) 4)).set 11 (bx g52 ((cs52).setIfInBounds (0 + (posB l k) * 5 + 3) (.bool false)) 40))) (fun _ => acellsP cs52 (0 + (posB l k) * 5 + 3) [.bool y105.pending] ++ ([0 + (posB l k) * 5 + 3 < (cs52).size])) (fun _ => by kernel_rfl) (fun _ => (alA (rda_part ((hOw52.rdx hnq52 hy105)) 3 _ rfl) (al1 (hOw52.room hnq52 hy105 (f := 3) (by decide))))) (fun _ => ?_)
        refine done_seq ?_
        refine at_seq ?_
        refine aq [] [] [(5, .pointer (some ⟨g52, 0 + (posB l k) * 5, none⟩)), (6, .int .i64 0)] ([]) (fun _ => by kernel_rfl) al0 ?_
        refine done_seq ?_
        refine at_back ([]) (.tuple #[.pointer (some ⟨g52, 0 + (posB l k) * 5, none⟩), .int .i64 0]) [] (by kernel_rfl) (by kernel_rfl) al0 ?_
        refine ops_nil ?_
        refine done_any ?_
        refine any_tk (f := 0) [7, 8, 9, 10, 11] [] [3, 4] [(8, .pointer (some ⟨g52, 0 + (posB l k) * 5, none⟩)), (9, .int .i64 0)] ([]) #[true, true, true, true, true, true, true, true, true, true, true, true] (by kernel_rfl) (by kernel_rfl) al0 ?_
        refine any_nil (by kernel_rfl) ?_
        refine done_seq ?_
        refine at_seq ?_
        refine at_seq ?_
        refine aq [] [3, 4, 8, 9] [(30, .bool false)] ([]) (fun _ => by kernel_rfl) al0 ?_
        refine done_seq ?_
        refine at_false (by kernel_rfl) ?_
        refine at_skip ?_
        refine done_seq ?_
        refine at_seq ?_
        refine at_calm rfl (by kernel_rfl) (by kernel_rfl) ?_
        refine cm 6 [(1, .go (owns 7 0 1)), (5, .go (ownps 11 (0 + (posB l k) * 5) [.int .i64 y105.num]))] [4, 8] [(33, .slice p n cap), (37, .int .i64 y105.num)] (acellsP ((cs52).setIfInBounds (0 + (posB l k) * 5 + 3) (.bool false)) (0 + (posB l k) * 5) [.int .i64 y105.num]) (by kernel_rfl) rfl (rda_pre (((hOw52.put (x' := (⟨y105.num, y105.vcpu, y105.peer, false, y105.masked⟩ : Port)) hnq52 hy105 (f := 3) (by decide) rfl).rdx (len_set hnq52) (get_set hy105))) _ rfl) ?_
        skip
        ·
          obtain ⟨b166, o166, rfl⟩ := hsl.pos (i := posB l y105.num) (List.getElem?_eq_some_iff.1 (get_pos (ris_asc l 0 (right_ris q9)) (get_self hg105)).1).1
          refine calm_callD (.pointer (some ⟨b166, o166 + (posB l y105.num) * 5, none⟩)) (by kernel_rfl) (by kernel_rfl) (by kernel_rfl) (fun args w => Try.call32 args w) (fun w hw => by have := port_d (some ⟨b166, o166, none⟩) n cap l y105.num w (hsl.kept hw.below) hn (by omega) (ris_all (right_ris q9)) (ris_asc l 0 (right_ris q9)); rw [portV_some (get_self hg105)] at this; exact this) ?_
          refine cm 1 [] [4, 8] [(10, .pointer (some ⟨b166, o166 + (posB l y105.num) * 5, none⟩))] ([]) (by kernel_rfl) rfl al0 ?_
          refine calm_nil' ?_
          refine done_seq ?_
          refine at_seq ?_
          refine at_seq ?_
          refine at_calm rfl (by kernel_rfl) (by kernel_rfl) ?_
          refine cm 3 [(2, .go (ownps 11 (0 + (posB l k) * 5) [.int .i64 y105.num, .int .i64 y105.vcpu, .int .i64 y105.peer, .bool false, .bool y105.masked]))] [4, 8, 10] [(41, .agg #[.int .i64 y105.num, .int .i64 y105.vcpu, .int .i64 y105.peer, .bool false, .bool y105.masked])] (acellsP ((cs52).setIfInBounds (0 + (posB l k) * 5 + 3) (.bool false)) (0 + (posB l k) * 5) [.int .i64 y105.num, .int .i64 y105.vcpu, .int .i64 y105.peer, .bool false, .bool y105.masked]) (by kernel_rfl) rfl (rda_pre (((hOw52.put (x' := (⟨y105.num, y105.vcpu, y105.peer, false, y105.masked⟩ : Port)) hnq52 hy105 (f := 3) (by decide) rfl).rdx (len_set hnq52) (get_set hy105))) _ rfl) ?_
          rcases q169 : (false && !y105.masked) with _ | _
          ·
            refine calm_callD (.bool false) (by kernel_rfl) (by kernel_rfl) (by kernel_rfl) (fun args w => Try.call39 args w) (fun w hw => by have := due_d (⟨y105.num, y105.vcpu, y105.peer, false, y105.masked⟩ : Port) w; rw [show dueB (⟨y105.num, y105.vcpu, y105.peer, false, y105.masked⟩ : Port) = false from q169] at this; exact this) ?_
            refine cm 18 [] [4, 8] [(60, .bool false)] ([]) (by kernel_rfl) rfl al0 ?_
            refine calm_nil' ?_
            refine done_seq ?_
            refine at_false (by kernel_rfl) ?_
            refine at_skip ?_
            refine done_seq ?_
            refine at_seq ?_
            refine aq [] [] [(6, .int .i64 0)] ([]) (fun _ => by kernel_rfl) al0 ?_
            refine done_seq ?_
            refine at_back ([]) (.int .i64 0) [] (by kernel_rfl) (by kernel_rfl) al0 ?_
            refine oq 1 [] [4, 7] [(8, .int .i64 0)] ([]) (fun _ => by kernel_rfl) al0 ?_
            refine ops_nil ?_
            refine done_seq ?_
            refine at_seq ?_
            refine aq [] [4, 7, 8] [(22, .bool false)] ([]) (fun _ => by kernel_rfl) al0 ?_
            refine done_seq ?_
            refine at_false (by kernel_rfl) ?_
            refine at_skip ?_
            refine done_seq ?_
            refine at_seq ?_
            refine am [(0, .go (owns 0 0 1)), (1, .go (owns 1 0 1))] [4] (fun _ => [(5, .int .i64 0)]) (fun _ L => (L.set 1 (bx (γ7 1) (#[.slice (some ⟨g52, 0, none⟩) n cq52]) 24))) (fun _ => []) (fun _ => by kernel_rfl) (fun _ => al0) (fun _ => ?_)
            refine done_seq ?_
            refine at_back (owns 1 0 1) (.tuple #[.agg #[.slice (some ⟨g52, 0, none⟩) n cq52], .int .i64 0]) [] (by kernel_rfl) (by kernel_rfl) al0 ?_
            refine om 6 [(7, .go (owns 0 0 1))] [6, 9] (fun γ175 => [(10, .pointer (some ⟨γ175 0, 0, none⟩)), (11, .int .i64 0)]) (fun γ175 L => bx (γ175 0) (#[.slice (some ⟨g52, 0, none⟩) n cq52]) 24 :: L) (fun γ175 => []) (fun _ => by kernel_rfl) (fun γ175 => al0) (fun γ175 => ?_)
            refine ops_nil ?_
            refine done_seq ?_
            refine at_seq ?_
            refine at_any (by kernel_rfl) ?_
            refine any_tk (f := 5) [2] [] [6, 9, 10] [(20, .int .i64 0)] ([]) #[false, false, true, false, false, false] (by kernel_rfl) (by kernel_rfl) al0 ?_
            refine any_cut 0 #[true, true, true, true, true, true] ([(6, .pointer (some ⟨γ4 3, 0, none⟩)), (7, .int .i64 0), (8, .int .i64 0)]) ([bx (γ175 0) (#[.slice (some ⟨g52, 0, none⟩) n cq52]) 24, bx (γ101 0) (#[.slice (some ⟨g52, 0, none⟩) n cq52]) 24, bx (γ7 1) (#[.slice (some ⟨g52, 0, none⟩) n cq52]) 24, bx (γ7 0) (#[.slice (some ⟨b166, o166, none⟩) n cap]) 24, bx (γ5 0) (#[.int .i64 0]) 3, bx (γ4 3) (#[.slice (some ⟨g52, 0, none⟩) n cq52]) 24, bx (γ4 2) (#[.func (.func 41) #[] #[.pointer (some ⟨γ2 0, 0, none⟩)]]) 75, bx (γ4 1) (#[.int .i64 k]) 3, bx (γ4 0) (#[.slice (some ⟨b166, o166, none⟩) n cap]) 24, bx (γ2 0) (#[.bool y105.pending]) 4, bx (γ1 1) (#[.slice none 0 0]) 24, bx (γ1 0) (#[.slice (some ⟨b166, o166, none⟩) n cap]) 24, bx g52 ((cs52).setIfInBounds (0 + (posB l k) * 5 + 3) (.bool false)) 40]) ?_ (fun hm => ?_)
            rotate_left
            ·
              refine any_fork [0, 1] (by kernel_rfl) (by simp) (each_cons _ rfl ?_ (each_cons _ rfl ?_ (each_nil)))
              ·
                refine oq 1 [(0, .go (owns 0 0 1))] [6, 9, 20] [(18, .agg #[.slice (some ⟨g52, 0, none⟩) n cq52])] ([]) (fun _ => by kernel_rfl) al0 ?_
                refine ops_nil ?_
                refine done_any ?_
                refine any_fork [1, 3] (by kernel_rfl) (by simp) (each_cons _ rfl ?_ (each_cons _ rfl ?_ (each_nil)))
                ·
                  refine oq 1 [(1, .go (owns 4 0 1))] [6, 18, 20] [(19, .int .i64 0)] ([]) (fun _ => by kernel_rfl) al0 ?_
                  refine ops_nil ?_
                  refine done_any ?_
                  refine any_one 3 _ (by kernel_rfl) rfl ?_
                  refine om 1 [(3, .go (owns 5 0 1))] [6, 19, 20] (fun _ => []) (fun _ L => (L.set 5 (bx (γ4 3) (#[.slice (some ⟨g52, 0, none⟩) n cq52]) 24))) (fun _ => []) (fun _ => by kernel_rfl) (fun _ => al0) (fun _ => ?_)
                  refine ops_nil ?_
                  refine done_any ?_
                  refine any_tk (f := 0) [4, 5] [] [6] [(7, .int .i64 0), (8, .int .i64 0)] ([]) #[true, true, true, true, true, true] (by kernel_rfl) (by kernel_rfl) al0 ?_
                  exact any_weak hm [6, 7, 8] (by kernel_rfl) rfl rfl rfl
                ·
                  refine om 1 [(3, .go (owns 5 0 1))] [6, 9, 20] (fun _ => []) (fun _ L => (L.set 5 (bx (γ4 3) (#[.slice (some ⟨g52, 0, none⟩) n cq52]) 24))) (fun _ => []) (fun _ => by kernel_rfl) (fun _ => al0) (fun _ => ?_)
                  refine ops_nil ?_
                  refine done_any ?_
                  refine any_one 1 _ (by kernel_rfl) rfl ?_
                  refine oq 1 [(1, .go (owns 4 0 1))] [6, 20] [(19, .int .i64 0)] ([]) (fun _ => by kernel_rfl) al0 ?_
                  refine ops_nil ?_
                  refine done_any ?_
                  refine any_tk (f := 0) [4, 5] [] [6] [(7, .int .i64 0), (8, .int .i64 0)] ([]) #[true, true, true, true, true, true] (by kernel_rfl) (by kernel_rfl) al0 ?_
                  exact any_weak hm [6, 7, 8] (by kernel_rfl) rfl rfl rfl
              ·
                refine oq 1 [(1, .go (owns 4 0 1))] [6, 10, 20] [(19, .int .i64 0)] ([]) (fun _ => by kernel_rfl) al0 ?_
                refine ops_nil ?_
                refine done_any ?_
                refine any_one 0 _ (by kernel_rfl) rfl ?_
                refine oq 1 [(0, .go (owns 0 0 1))] [6, 19, 20] [(18, .agg #[.slice (some ⟨g52, 0, none⟩) n cq52])] ([]) (fun _ => by kernel_rfl) al0 ?_
                refine ops_nil ?_
                refine done_any ?_
                refine any_one 3 _ (by kernel_rfl) rfl ?_
                refine om 1 [(3, .go (owns 5 0 1))] [6, 19, 20] (fun _ => []) (fun _ L => (L.set 5 (bx (γ4 3) (#[.slice (some ⟨g52, 0, none⟩) n cq52]) 24))) (fun _ => []) (fun _ => by kernel_rfl) (fun _ => al0) (fun _ => ?_)
                refine ops_nil ?_
                refine done_any ?_
                refine any_tk (f := 0) [4, 5] [] [6] [(7, .int .i64 0), (8, .int .i64 0)] ([]) #[true, true, true, true, true, true] (by kernel_rfl) (by kernel_rfl) al0 ?_
                exact any_weak hm [6, 7, 8] (by kernel_rfl) rfl rfl rfl
            refine any_nil (by kernel_rfl) ?_
            refine done_seq ?_
            refine at_back (owns 5 0 1) (.tuple #[.agg #[.slice (some ⟨g52, 0, none⟩) n cq52], .int .i64 0, .int .i64 0]) [] (by kernel_rfl) (by kernel_rfl) al0 ?_
            refine om 8 [(9, .go (owns 0 0 1))] [4, 7] (fun γ193 => [(8, .pointer (some ⟨γ193 0, 0, none⟩)), (10, .int .i64 0)]) (fun γ193 L => bx (γ193 0) (#[.slice (some ⟨g52, 0, none⟩) n cq52]) 24 :: L) (fun γ193 => []) (fun _ => by kernel_rfl) (fun γ193 => al0) (fun γ193 => ?_)
            refine ops_nil ?_
            refine done_seq ?_
            refine at_seq ?_
            refine at_any (by kernel_rfl) ?_
            refine any_tk (f := 5) [2] [] [4, 7, 8] [(21, .int .i64 0)] ([]) #[false, false, true, false, false, false] (by kernel_rfl) (by kernel_rfl) al0 ?_
            refine any_cut 0 #[true, true, true, true, true, true] ([(4, .pointer (some ⟨γ1 1, 0, none⟩)), (5, .bool y105.pending), (6, .int .i64 0)]) ([bx (γ193 0) (#[.slice (some ⟨g52, 0, none⟩) n cq52]) 24, bx (γ175 0) (#[.slice (some ⟨g52, 0, none⟩) n cq52]) 24, bx (γ101 0) (#[.slice (some ⟨g52, 0, none⟩) n cq52]) 24, bx (γ7 1) (#[.slice (some ⟨g52, 0, none⟩) n cq52]) 24, bx (γ7 0) (#[.slice (some ⟨b166, o166, none⟩) n cap]) 24, bx (γ5 0) (#[.int .i64 0]) 3, bx (γ4 3) (#[.slice (some ⟨g52, 0, none⟩) n cq52]) 24, bx (γ4 2) (#[.func (.func 41) #[] #[.pointer (some ⟨γ2 0, 0, none⟩)]]) 75, bx (γ4 1) (#[.int .i64 k]) 3, bx (γ4 0) (#[.slice (some ⟨b166, o166, none⟩) n cap]) 24, bx (γ2 0) (#[.bool y105.pending]) 4, bx (γ1 1) (#[.slice (some ⟨g52, 0, none⟩) n cq52]) 24, bx (γ1 0) (#[.slice (some ⟨b166, o166, none⟩) n cap]) 24, bx g52 ((cs52).setIfInBounds (0 + (posB l k) * 5 + 3) (.bool false)) 40]) ?_ (fun hm => ?_)
            rotate_left
            ·
              refine any_fork [0, 1] (by kernel_rfl) (by simp) (each_cons _ rfl ?_ (each_cons _ rfl ?_ (each_nil)))
              ·
                refine oq 1 [(0, .go (owns 0 0 1))] [4, 7, 21] [(19, .agg #[.slice (some ⟨g52, 0, none⟩) n cq52])] ([]) (fun _ => by kernel_rfl) al0 ?_
                refine ops_nil ?_
                refine done_any ?_
                refine any_fork [1, 3] (by kernel_rfl) (by simp) (each_cons _ rfl ?_ (each_cons _ rfl ?_ (each_nil)))
                ·
                  refine oq 1 [(1, .go (owns 10 0 1))] [4, 19, 21] [(20, .bool y105.pending)] ([]) (fun _ => by kernel_rfl) al0 ?_
                  refine ops_nil ?_
                  refine done_any ?_
                  refine any_one 3 _ (by kernel_rfl) rfl ?_
                  refine om 1 [(3, .go (owns 11 0 1))] [4, 20, 21] (fun _ => []) (fun _ L => (L.set 11 (bx (γ1 1) (#[.slice (some ⟨g52, 0, none⟩) n cq52]) 24))) (fun _ => []) (fun _ => by kernel_rfl) (fun _ => al0) (fun _ => ?_)
                  refine ops_nil ?_
                  refine done_any ?_
                  refine any_tk (f := 0) [4, 5] [] [4] [(5, .bool y105.pending), (6, .int .i64 0)] ([]) #[true, true, true, true, true, true] (by kernel_rfl) (by kernel_rfl) al0 ?_
                  exact any_weak hm [4, 5, 6] (by kernel_rfl) rfl rfl rfl
                ·
                  refine om 1 [(3, .go (owns 11 0 1))] [4, 7, 21] (fun _ => []) (fun _ L => (L.set 11 (bx (γ1 1) (#[.slice (some ⟨g52, 0, none⟩) n cq52]) 24))) (fun _ => []) (fun _ => by kernel_rfl) (fun _ => al0) (fun _ => ?_)
                  refine ops_nil ?_
                  refine done_any ?_
                  refine any_one 1 _ (by kernel_rfl) rfl ?_
                  refine oq 1 [(1, .go (owns 10 0 1))] [4, 21] [(20, .bool y105.pending)] ([]) (fun _ => by kernel_rfl) al0 ?_
                  refine ops_nil ?_
                  refine done_any ?_
                  refine any_tk (f := 0) [4, 5] [] [4] [(5, .bool y105.pending), (6, .int .i64 0)] ([]) #[true, true, true, true, true, true] (by kernel_rfl) (by kernel_rfl) al0 ?_
                  exact any_weak hm [4, 5, 6] (by kernel_rfl) rfl rfl rfl
              ·
                refine oq 1 [(1, .go (owns 10 0 1))] [4, 8, 21] [(20, .bool y105.pending)] ([]) (fun _ => by kernel_rfl) al0 ?_
                refine ops_nil ?_
                refine done_any ?_
                refine any_one 0 _ (by kernel_rfl) rfl ?_
                refine oq 1 [(0, .go (owns 0 0 1))] [4, 20, 21] [(19, .agg #[.slice (some ⟨g52, 0, none⟩) n cq52])] ([]) (fun _ => by kernel_rfl) al0 ?_
                refine ops_nil ?_
                refine done_any ?_
                refine any_one 3 _ (by kernel_rfl) rfl ?_
                refine om 1 [(3, .go (owns 11 0 1))] [4, 20, 21] (fun _ => []) (fun _ L => (L.set 11 (bx (γ1 1) (#[.slice (some ⟨g52, 0, none⟩) n cq52]) 24))) (fun _ => []) (fun _ => by kernel_rfl) (fun _ => al0) (fun _ => ?_)
                refine ops_nil ?_
                refine done_any ?_
                refine any_tk (f := 0) [4, 5] [] [4] [(5, .bool y105.pending), (6, .int .i64 0)] ([]) #[true, true, true, true, true, true] (by kernel_rfl) (by kernel_rfl) al0 ?_
                exact any_weak hm [4, 5, 6] (by kernel_rfl) rfl rfl rfl
            refine any_nil (by kernel_rfl) ?_
            refine done_seq ?_
            refine at_return (owns 11 0 1) (.tuple #[.agg #[.slice (some ⟨g52, 0, none⟩) n cq52], .bool y105.pending, .int .i64 0]) [] (by kernel_rfl) (by kernel_rfl) al0 ?_
            exact fun w' hw => by rw [clearV_ok q9 hg105, pos_of hg105]; exact ⟨_, _, _, _, rfl, (SlO.ofOwn (hOw52.put (x' := (⟨y105.num, y105.vcpu, y105.peer, false, y105.masked⟩ : Port)) hnq52 hy105 (f := 3) (by decide) rfl) (len_set hnq52)), hw.below, hw.tailN 13⟩
          ·
            refine calm_callD (.bool true) (by kernel_rfl) (by kernel_rfl) (by kernel_rfl) (fun args w => Try.call39 args w) (fun w hw => by have := due_d (⟨y105.num, y105.vcpu, y105.peer, false, y105.masked⟩ : Port) w; rw [show dueB (⟨y105.num, y105.vcpu, y105.peer, false, y105.masked⟩ : Port) = true from q169] at this; exact this) ?_
            refine cm 4 [(7, .go (outs b166 (o166 + (posB l y105.num) * 5) [.int .i64 y105.num, .int .i64 y105.vcpu, .int .i64 y105.peer, .bool y105.pending, .bool y105.masked]))] [4, 8, 10] [(43, .bool true), (46, .agg #[.int .i64 y105.num, .int .i64 y105.vcpu, .int .i64 y105.peer, .bool y105.pending, .bool y105.masked])] (cellsP w b166 (o166 + (posB l y105.num) * 5) [.int .i64 y105.num, .int .i64 y105.vcpu, .int .i64 y105.peer, .bool y105.pending, .bool y105.masked]) (by kernel_rfl) rfl (rd_pre (hsl.get (get_pos (ris_asc l 0 (right_ris q9)) (get_self hg105)).1) _ rfl) ?_
            rcases q212 : (y105.pending && !y105.masked) with _ | _
            ·
              refine calm_callD (.bool false) (by kernel_rfl) (by kernel_rfl) (by kernel_rfl) (fun args w => Try.call39 args w) (fun w hw => by have := due_d (⟨y105.num, y105.vcpu, y105.peer, y105.pending, y105.masked⟩ : Port) w; rw [show dueB (⟨y105.num, y105.vcpu, y105.peer, y105.pending, y105.masked⟩ : Port) = false from q212] at this; exact this) ?_
              refine cm 13 [] [4, 8] [(60, .bool true)] ([]) (by kernel_rfl) rfl al0 ?_
              refine calm_nil' ?_
              refine done_seq ?_
              refine at_true (by kernel_rfl) ?_
              refine am [(3, .go (ownps 11 (0 + (posB l k) * 5 + 1) [.int .i64 y105.vcpu])), (4, .go (owns 3 0 1))] [] (fun _ => []) (fun _ L => (L.set 3 (bx (γ5 0) (#[.int .i64 y105.vcpu]) 3))) (fun _ => acellsP ((cs52).setIfInBounds (0 + (posB l k) * 5 + 3) (.bool false)) (0 + (posB l k) * 5 + 1) [.int .i64 y105.vcpu]) (fun _ => by kernel_rfl) (fun _ => (rda_part (((hOw52.put (x' := (⟨y105.num, y105.vcpu, y105.peer, false, y105.masked⟩ : Port)) hnq52 hy105 (f := 3) (by decide) rfl).rdx (len_set hnq52) (get_set hy105))) 1 _ rfl)) (fun _ => ?_)
              refine done_seq ?_
              refine at_seq ?_
              refine aq [] [] [(6, .int .i64 0)] ([]) (fun _ => by kernel_rfl) al0 ?_
              refine done_seq ?_
              refine at_back ([]) (.int .i64 0) [] (by kernel_rfl) (by kernel_rfl) al0 ?_
              refine oq 1 [] [4, 7] [(8, .int .i64 0)] ([]) (fun _ => by kernel_rfl) al0 ?_
              refine ops_nil ?_
              refine done_seq ?_
              refine at_seq ?_
              refine aq [] [4, 7, 8] [(22, .bool false)] ([]) (fun _ => by kernel_rfl) al0 ?_
              refine done_seq ?_
              refine at_false (by kernel_rfl) ?_
              refine at_skip ?_
              refine done_seq ?_
              refine at_seq ?_
              refine am [(0, .go (owns 0 0 1)), (1, .go (owns 1 0 1))] [4] (fun _ => [(5, .int .i64 0)]) (fun _ L => (L.set 1 (bx (γ7 1) (#[.slice (some ⟨g52, 0, none⟩) n cq52]) 24))) (fun _ => []) (fun _ => by kernel_rfl) (fun _ => al0) (fun _ => ?_)
              refine done_seq ?_
              refine at_back (owns 1 0 1) (.tuple #[.agg #[.slice (some ⟨g52, 0, none⟩) n cq52], .int .i64 0]) [] (by kernel_rfl) (by kernel_rfl) al0 ?_
              refine om 6 [(7, .go (owns 0 0 1))] [6, 9] (fun γ219 => [(10, .pointer (some ⟨γ219 0, 0, none⟩)), (11, .int .i64 0)]) (fun γ219 L => bx (γ219 0) (#[.slice (some ⟨g52, 0, none⟩) n cq52]) 24 :: L) (fun γ219 => []) (fun _ => by kernel_rfl) (fun γ219 => al0) (fun γ219 => ?_)
              refine ops_nil ?_
              refine done_seq ?_
              refine at_seq ?_
              refine at_any (by kernel_rfl) ?_
              refine any_tk (f := 5) [2] [] [6, 9, 10] [(20, .int .i64 0)] ([]) #[false, false, true, false, false, false] (by kernel_rfl) (by kernel_rfl) al0 ?_
              refine any_cut 0 #[true, true, true, true, true, true] ([(6, .pointer (some ⟨γ4 3, 0, none⟩)), (7, .int .i64 y105.vcpu), (8, .int .i64 0)]) ([bx (γ219 0) (#[.slice (some ⟨g52, 0, none⟩) n cq52]) 24, bx (γ101 0) (#[.slice (some ⟨g52, 0, none⟩) n cq52]) 24, bx (γ7 1) (#[.slice (some ⟨g52, 0, none⟩) n cq52]) 24, bx (γ7 0) (#[.slice (some ⟨b166, o166, none⟩) n cap]) 24, bx (γ5 0) (#[.int .i64 y105.vcpu]) 3, bx (γ4 3) (#[.slice (some ⟨g52, 0, none⟩) n cq52]) 24, bx (γ4 2) (#[.func (.func 41) #[] #[.pointer (some ⟨γ2 0, 0, none⟩)]]) 75, bx (γ4 1) (#[.int .i64 k]) 3, bx (γ4 0) (#[.slice (some ⟨b166, o166, none⟩) n cap]) 24, bx (γ2 0) (#[.bool y105.pending]) 4, bx (γ1 1) (#[.slice none 0 0]) 24, bx (γ1 0) (#[.slice (some ⟨b166, o166, none⟩) n cap]) 24, bx g52 ((cs52).setIfInBounds (0 + (posB l k) * 5 + 3) (.bool false)) 40]) ?_ (fun hm => ?_)
              rotate_left
              ·
                refine any_fork [0, 1] (by kernel_rfl) (by simp) (each_cons _ rfl ?_ (each_cons _ rfl ?_ (each_nil)))
                ·
                  refine oq 1 [(0, .go (owns 0 0 1))] [6, 9, 20] [(18, .agg #[.slice (some ⟨g52, 0, none⟩) n cq52])] ([]) (fun _ => by kernel_rfl) al0 ?_
                  refine ops_nil ?_
                  refine done_any ?_
                  refine any_fork [1, 3] (by kernel_rfl) (by simp) (each_cons _ rfl ?_ (each_cons _ rfl ?_ (each_nil)))
                  ·
                    refine oq 1 [(1, .go (owns 4 0 1))] [6, 18, 20] [(19, .int .i64 y105.vcpu)] ([]) (fun _ => by kernel_rfl) al0 ?_
                    refine ops_nil ?_
                    refine done_any ?_
                    refine any_one 3 _ (by kernel_rfl) rfl ?_
                    refine om 1 [(3, .go (owns 5 0 1))] [6, 19, 20] (fun _ => []) (fun _ L => (L.set 5 (bx (γ4 3) (#[.slice (some ⟨g52, 0, none⟩) n cq52]) 24))) (fun _ => []) (fun _ => by kernel_rfl) (fun _ => al0) (fun _ => ?_)
                    refine ops_nil ?_
                    refine done_any ?_
                    refine any_tk (f := 0) [4, 5] [] [6] [(7, .int .i64 y105.vcpu), (8, .int .i64 0)] ([]) #[true, true, true, true, true, true] (by kernel_rfl) (by kernel_rfl) al0 ?_
                    exact any_weak hm [6, 7, 8] (by kernel_rfl) rfl rfl rfl
                  ·
                    refine om 1 [(3, .go (owns 5 0 1))] [6, 9, 20] (fun _ => []) (fun _ L => (L.set 5 (bx (γ4 3) (#[.slice (some ⟨g52, 0, none⟩) n cq52]) 24))) (fun _ => []) (fun _ => by kernel_rfl) (fun _ => al0) (fun _ => ?_)
                    refine ops_nil ?_
                    refine done_any ?_
                    refine any_one 1 _ (by kernel_rfl) rfl ?_
                    refine oq 1 [(1, .go (owns 4 0 1))] [6, 20] [(19, .int .i64 y105.vcpu)] ([]) (fun _ => by kernel_rfl) al0 ?_
                    refine ops_nil ?_
                    refine done_any ?_
                    refine any_tk (f := 0) [4, 5] [] [6] [(7, .int .i64 y105.vcpu), (8, .int .i64 0)] ([]) #[true, true, true, true, true, true] (by kernel_rfl) (by kernel_rfl) al0 ?_
                    exact any_weak hm [6, 7, 8] (by kernel_rfl) rfl rfl rfl
                ·
                  refine oq 1 [(1, .go (owns 4 0 1))] [6, 10, 20] [(19, .int .i64 y105.vcpu)] ([]) (fun _ => by kernel_rfl) al0 ?_
                  refine ops_nil ?_
                  refine done_any ?_
                  refine any_one 0 _ (by kernel_rfl) rfl ?_
                  refine oq 1 [(0, .go (owns 0 0 1))] [6, 19, 20] [(18, .agg #[.slice (some ⟨g52, 0, none⟩) n cq52])] ([]) (fun _ => by kernel_rfl) al0 ?_
                  refine ops_nil ?_
                  refine done_any ?_
                  refine any_one 3 _ (by kernel_rfl) rfl ?_
                  refine om 1 [(3, .go (owns 5 0 1))] [6, 19, 20] (fun _ => []) (fun _ L => (L.set 5 (bx (γ4 3) (#[.slice (some ⟨g52, 0, none⟩) n cq52]) 24))) (fun _ => []) (fun _ => by kernel_rfl) (fun _ => al0) (fun _ => ?_)
                  refine ops_nil ?_
                  refine done_any ?_
                  refine any_tk (f := 0) [4, 5] [] [6] [(7, .int .i64 y105.vcpu), (8, .int .i64 0)] ([]) #[true, true, true, true, true, true] (by kernel_rfl) (by kernel_rfl) al0 ?_
                  exact any_weak hm [6, 7, 8] (by kernel_rfl) rfl rfl rfl
              refine any_nil (by kernel_rfl) ?_
              refine done_seq ?_
              refine at_back (owns 5 0 1) (.tuple #[.agg #[.slice (some ⟨g52, 0, none⟩) n cq52], .int .i64 y105.vcpu, .int .i64 0]) [] (by kernel_rfl) (by kernel_rfl) al0 ?_
              refine om 8 [(9, .go (owns 0 0 1))] [4, 7] (fun γ237 => [(8, .pointer (some ⟨γ237 0, 0, none⟩)), (10, .int .i64 0)]) (fun γ237 L => bx (γ237 0) (#[.slice (some ⟨g52, 0, none⟩) n cq52]) 24 :: L) (fun γ237 => []) (fun _ => by kernel_rfl) (fun γ237 => al0) (fun γ237 => ?_)
              refine ops_nil ?_
              refine done_seq ?_
              refine at_seq ?_
              refine at_any (by kernel_rfl) ?_
              refine any_tk (f := 5) [2] [] [4, 7, 8] [(21, .int .i64 0)] ([]) #[false, false, true, false, false, false] (by kernel_rfl) (by kernel_rfl) al0 ?_
              refine any_cut 0 #[true, true, true, true, true, true] ([(4, .pointer (some ⟨γ1 1, 0, none⟩)), (5, .bool y105.pending), (6, .int .i64 0)]) ([bx (γ237 0) (#[.slice (some ⟨g52, 0, none⟩) n cq52]) 24, bx (γ219 0) (#[.slice (some ⟨g52, 0, none⟩) n cq52]) 24, bx (γ101 0) (#[.slice (some ⟨g52, 0, none⟩) n cq52]) 24, bx (γ7 1) (#[.slice (some ⟨g52, 0, none⟩) n cq52]) 24, bx (γ7 0) (#[.slice (some ⟨b166, o166, none⟩) n cap]) 24, bx (γ5 0) (#[.int .i64 y105.vcpu]) 3, bx (γ4 3) (#[.slice (some ⟨g52, 0, none⟩) n cq52]) 24, bx (γ4 2) (#[.func (.func 41) #[] #[.pointer (some ⟨γ2 0, 0, none⟩)]]) 75, bx (γ4 1) (#[.int .i64 k]) 3, bx (γ4 0) (#[.slice (some ⟨b166, o166, none⟩) n cap]) 24, bx (γ2 0) (#[.bool y105.pending]) 4, bx (γ1 1) (#[.slice (some ⟨g52, 0, none⟩) n cq52]) 24, bx (γ1 0) (#[.slice (some ⟨b166, o166, none⟩) n cap]) 24, bx g52 ((cs52).setIfInBounds (0 + (posB l k) * 5 + 3) (.bool false)) 40]) ?_ (fun hm => ?_)
              rotate_left
              ·
                refine any_fork [0, 1] (by kernel_rfl) (by simp) (each_cons _ rfl ?_ (each_cons _ rfl ?_ (each_nil)))
                ·
                  refine oq 1 [(0, .go (owns 0 0 1))] [4, 7, 21] [(19, .agg #[.slice (some ⟨g52, 0, none⟩) n cq52])] ([]) (fun _ => by kernel_rfl) al0 ?_
                  refine ops_nil ?_
                  refine done_any ?_
                  refine any_fork [1, 3] (by kernel_rfl) (by simp) (each_cons _ rfl ?_ (each_cons _ rfl ?_ (each_nil)))
                  ·
                    refine oq 1 [(1, .go (owns 10 0 1))] [4, 19, 21] [(20, .bool y105.pending)] ([]) (fun _ => by kernel_rfl) al0 ?_
                    refine ops_nil ?_
                    refine done_any ?_
                    refine any_one 3 _ (by kernel_rfl) rfl ?_
                    refine om 1 [(3, .go (owns 11 0 1))] [4, 20, 21] (fun _ => []) (fun _ L => (L.set 11 (bx (γ1 1) (#[.slice (some ⟨g52, 0, none⟩) n cq52]) 24))) (fun _ => []) (fun _ => by kernel_rfl) (fun _ => al0) (fun _ => ?_)
                    refine ops_nil ?_
                    refine done_any ?_
                    refine any_tk (f := 0) [4, 5] [] [4] [(5, .bool y105.pending), (6, .int .i64 0)] ([]) #[true, true, true, true, true, true] (by kernel_rfl) (by kernel_rfl) al0 ?_
                    exact any_weak hm [4, 5, 6] (by kernel_rfl) rfl rfl rfl
                  ·
                    refine om 1 [(3, .go (owns 11 0 1))] [4, 7, 21] (fun _ => []) (fun _ L => (L.set 11 (bx (γ1 1) (#[.slice (some ⟨g52, 0, none⟩) n cq52]) 24))) (fun _ => []) (fun _ => by kernel_rfl) (fun _ => al0) (fun _ => ?_)
                    refine ops_nil ?_
                    refine done_any ?_
                    refine any_one 1 _ (by kernel_rfl) rfl ?_
                    refine oq 1 [(1, .go (owns 10 0 1))] [4, 21] [(20, .bool y105.pending)] ([]) (fun _ => by kernel_rfl) al0 ?_
                    refine ops_nil ?_
                    refine done_any ?_
                    refine any_tk (f := 0) [4, 5] [] [4] [(5, .bool y105.pending), (6, .int .i64 0)] ([]) #[true, true, true, true, true, true] (by kernel_rfl) (by kernel_rfl) al0 ?_
                    exact any_weak hm [4, 5, 6] (by kernel_rfl) rfl rfl rfl
                ·
                  refine oq 1 [(1, .go (owns 10 0 1))] [4, 8, 21] [(20, .bool y105.pending)] ([]) (fun _ => by kernel_rfl) al0 ?_
                  refine ops_nil ?_
                  refine done_any ?_
                  refine any_one 0 _ (by kernel_rfl) rfl ?_
                  refine oq 1 [(0, .go (owns 0 0 1))] [4, 20, 21] [(19, .agg #[.slice (some ⟨g52, 0, none⟩) n cq52])] ([]) (fun _ => by kernel_rfl) al0 ?_
                  refine ops_nil ?_
                  refine done_any ?_
                  refine any_one 3 _ (by kernel_rfl) rfl ?_
                  refine om 1 [(3, .go (owns 11 0 1))] [4, 20, 21] (fun _ => []) (fun _ L => (L.set 11 (bx (γ1 1) (#[.slice (some ⟨g52, 0, none⟩) n cq52]) 24))) (fun _ => []) (fun _ => by kernel_rfl) (fun _ => al0) (fun _ => ?_)
                  refine ops_nil ?_
                  refine done_any ?_
                  refine any_tk (f := 0) [4, 5] [] [4] [(5, .bool y105.pending), (6, .int .i64 0)] ([]) #[true, true, true, true, true, true] (by kernel_rfl) (by kernel_rfl) al0 ?_
                  exact any_weak hm [4, 5, 6] (by kernel_rfl) rfl rfl rfl
              refine any_nil (by kernel_rfl) ?_
              refine done_seq ?_
              refine at_return (owns 11 0 1) (.tuple #[.agg #[.slice (some ⟨g52, 0, none⟩) n cq52], .bool y105.pending, .int .i64 0]) [] (by kernel_rfl) (by kernel_rfl) al0 ?_
              exact fun w' hw => by rw [clearV_ok q9 hg105, pos_of hg105]; exact ⟨_, _, _, _, rfl, (SlO.ofOwn (hOw52.put (x' := (⟨y105.num, y105.vcpu, y105.peer, false, y105.masked⟩ : Port)) hnq52 hy105 (f := 3) (by decide) rfl) (len_set hnq52)), hw.below, hw.tailN 13⟩
            ·
              refine calm_callD (.bool true) (by kernel_rfl) (by kernel_rfl) (by kernel_rfl) (fun args w => Try.call39 args w) (fun w hw => by have := due_d (⟨y105.num, y105.vcpu, y105.peer, y105.pending, y105.masked⟩ : Port) w; rw [show dueB (⟨y105.num, y105.vcpu, y105.peer, y105.pending, y105.masked⟩ : Port) = true from q212] at this; exact this) ?_
              refine cm 13 [(14, .go (outs b166 (o166 + (posB l y105.num) * 5 + 1) [.int .i64 y105.vcpu])), (18, .go (ownps 11 (0 + (posB l k) * 5 + 1) [.int .i64 y105.vcpu])), (19, .no)] [4, 8] [(60, .bool false)] (cellsP w b166 (o166 + (posB l y105.num) * 5 + 1) [.int .i64 y105.vcpu] ++ (acellsP ((cs52).setIfInBounds (0 + (posB l k) * 5 + 3) (.bool false)) (0 + (posB l k) * 5 + 1) [.int .i64 y105.vcpu] ++ ([¬ ((y105.vcpu : Int) ≠ (y105.vcpu : Int))]))) (by kernel_rfl) rfl (alA (rd_part (hsl.get (get_pos (ris_asc l 0 (right_ris q9)) (get_self hg105)).1) 1 _ rfl) (alA (rda_part (((hOw52.put (x' := (⟨y105.num, y105.vcpu, y105.peer, false, y105.masked⟩ : Port)) hnq52 hy105 (f := 3) (by decide) rfl).rdx (len_set hnq52) (get_set hy105))) 1 _ rfl) (al1 ((fun h => h rfl))))) ?_
              refine calm_nil' ?_
              refine done_seq ?_
              refine at_false (by kernel_rfl) ?_
              refine at_skip ?_
              refine done_seq ?_
              refine at_seq ?_
              refine aq [] [] [(6, .int .i64 0)] ([]) (fun _ => by kernel_rfl) al0 ?_
              refine done_seq ?_
              refine at_back ([]) (.int .i64 0) [] (by kernel_rfl) (by kernel_rfl) al0 ?_
              refine oq 1 [] [4, 7] [(8, .int .i64 0)] ([]) (fun _ => by kernel_rfl) al0 ?_
              refine ops_nil ?_
              refine done_seq ?_
              refine at_seq ?_
              refine aq [] [4, 7, 8] [(22, .bool false)] ([]) (fun _ => by kernel_rfl) al0 ?_
              refine done_seq ?_
              refine at_false (by kernel_rfl) ?_
              refine at_skip ?_
              refine done_seq ?_
              refine at_seq ?_
              refine am [(0, .go (owns 0 0 1)), (1, .go (owns 1 0 1))] [4] (fun _ => [(5, .int .i64 0)]) (fun _ L => (L.set 1 (bx (γ7 1) (#[.slice (some ⟨g52, 0, none⟩) n cq52]) 24))) (fun _ => []) (fun _ => by kernel_rfl) (fun _ => al0) (fun _ => ?_)
              refine done_seq ?_
              refine at_back (owns 1 0 1) (.tuple #[.agg #[.slice (some ⟨g52, 0, none⟩) n cq52], .int .i64 0]) [] (by kernel_rfl) (by kernel_rfl) al0 ?_
              refine om 6 [(7, .go (owns 0 0 1))] [6, 9] (fun γ260 => [(10, .pointer (some ⟨γ260 0, 0, none⟩)), (11, .int .i64 0)]) (fun γ260 L => bx (γ260 0) (#[.slice (some ⟨g52, 0, none⟩) n cq52]) 24 :: L) (fun γ260 => []) (fun _ => by kernel_rfl) (fun γ260 => al0) (fun γ260 => ?_)
              refine ops_nil ?_
              refine done_seq ?_
              refine at_seq ?_
              refine at_any (by kernel_rfl) ?_
              refine any_tk (f := 5) [2] [] [6, 9, 10] [(20, .int .i64 0)] ([]) #[false, false, true, false, false, false] (by kernel_rfl) (by kernel_rfl) al0 ?_
              refine any_cut 0 #[true, true, true, true, true, true] ([(6, .pointer (some ⟨γ4 3, 0, none⟩)), (7, .int .i64 0), (8, .int .i64 0)]) ([bx (γ260 0) (#[.slice (some ⟨g52, 0, none⟩) n cq52]) 24, bx (γ101 0) (#[.slice (some ⟨g52, 0, none⟩) n cq52]) 24, bx (γ7 1) (#[.slice (some ⟨g52, 0, none⟩) n cq52]) 24, bx (γ7 0) (#[.slice (some ⟨b166, o166, none⟩) n cap]) 24, bx (γ5 0) (#[.int .i64 0]) 3, bx (γ4 3) (#[.slice (some ⟨g52, 0, none⟩) n cq52]) 24, bx (γ4 2) (#[.func (.func 41) #[] #[.pointer (some ⟨γ2 0, 0, none⟩)]]) 75, bx (γ4 1) (#[.int .i64 k]) 3, bx (γ4 0) (#[.slice (some ⟨b166, o166, none⟩) n cap]) 24, bx (γ2 0) (#[.bool y105.pending]) 4, bx (γ1 1) (#[.slice none 0 0]) 24, bx (γ1 0) (#[.slice (some ⟨b166, o166, none⟩) n cap]) 24, bx g52 ((cs52).setIfInBounds (0 + (posB l k) * 5 + 3) (.bool false)) 40]) ?_ (fun hm => ?_)
              rotate_left
              ·
                refine any_fork [0, 1] (by kernel_rfl) (by simp) (each_cons _ rfl ?_ (each_cons _ rfl ?_ (each_nil)))
                ·
                  refine oq 1 [(0, .go (owns 0 0 1))] [6, 9, 20] [(18, .agg #[.slice (some ⟨g52, 0, none⟩) n cq52])] ([]) (fun _ => by kernel_rfl) al0 ?_
                  refine ops_nil ?_
                  refine done_any ?_
                  refine any_fork [1, 3] (by kernel_rfl) (by simp) (each_cons _ rfl ?_ (each_cons _ rfl ?_ (each_nil)))
                  ·
                    refine oq 1 [(1, .go (owns 4 0 1))] [6, 18, 20] [(19, .int .i64 0)] ([]) (fun _ => by kernel_rfl) al0 ?_
                    refine ops_nil ?_
                    refine done_any ?_
                    refine any_one 3 _ (by kernel_rfl) rfl ?_
                    refine om 1 [(3, .go (owns 5 0 1))] [6, 19, 20] (fun _ => []) (fun _ L => (L.set 5 (bx (γ4 3) (#[.slice (some ⟨g52, 0, none⟩) n cq52]) 24))) (fun _ => []) (fun _ => by kernel_rfl) (fun _ => al0) (fun _ => ?_)
                    refine ops_nil ?_
                    refine done_any ?_
                    refine any_tk (f := 0) [4, 5] [] [6] [(7, .int .i64 0), (8, .int .i64 0)] ([]) #[true, true, true, true, true, true] (by kernel_rfl) (by kernel_rfl) al0 ?_
                    exact any_weak hm [6, 7, 8] (by kernel_rfl) rfl rfl rfl
                  ·
                    refine om 1 [(3, .go (owns 5 0 1))] [6, 9, 20] (fun _ => []) (fun _ L => (L.set 5 (bx (γ4 3) (#[.slice (some ⟨g52, 0, none⟩) n cq52]) 24))) (fun _ => []) (fun _ => by kernel_rfl) (fun _ => al0) (fun _ => ?_)
                    refine ops_nil ?_
                    refine done_any ?_
                    refine any_one 1 _ (by kernel_rfl) rfl ?_
                    refine oq 1 [(1, .go (owns 4 0 1))] [6, 20] [(19, .int .i64 0)] ([]) (fun _ => by kernel_rfl) al0 ?_
                    refine ops_nil ?_
                    refine done_any ?_
                    refine any_tk (f := 0) [4, 5] [] [6] [(7, .int .i64 0), (8, .int .i64 0)] ([]) #[true, true, true, true, true, true] (by kernel_rfl) (by kernel_rfl) al0 ?_
                    exact any_weak hm [6, 7, 8] (by kernel_rfl) rfl rfl rfl
                ·
                  refine oq 1 [(1, .go (owns 4 0 1))] [6, 10, 20] [(19, .int .i64 0)] ([]) (fun _ => by kernel_rfl) al0 ?_
                  refine ops_nil ?_
                  refine done_any ?_
                  refine any_one 0 _ (by kernel_rfl) rfl ?_
                  refine oq 1 [(0, .go (owns 0 0 1))] [6, 19, 20] [(18, .agg #[.slice (some ⟨g52, 0, none⟩) n cq52])] ([]) (fun _ => by kernel_rfl) al0 ?_
                  refine ops_nil ?_
                  refine done_any ?_
                  refine any_one 3 _ (by kernel_rfl) rfl ?_
                  refine om 1 [(3, .go (owns 5 0 1))] [6, 19, 20] (fun _ => []) (fun _ L => (L.set 5 (bx (γ4 3) (#[.slice (some ⟨g52, 0, none⟩) n cq52]) 24))) (fun _ => []) (fun _ => by kernel_rfl) (fun _ => al0) (fun _ => ?_)
                  refine ops_nil ?_
                  refine done_any ?_
                  refine any_tk (f := 0) [4, 5] [] [6] [(7, .int .i64 0), (8, .int .i64 0)] ([]) #[true, true, true, true, true, true] (by kernel_rfl) (by kernel_rfl) al0 ?_
                  exact any_weak hm [6, 7, 8] (by kernel_rfl) rfl rfl rfl
              refine any_nil (by kernel_rfl) ?_
              refine done_seq ?_
              refine at_back (owns 5 0 1) (.tuple #[.agg #[.slice (some ⟨g52, 0, none⟩) n cq52], .int .i64 0, .int .i64 0]) [] (by kernel_rfl) (by kernel_rfl) al0 ?_
              refine om 8 [(9, .go (owns 0 0 1))] [4, 7] (fun γ278 => [(8, .pointer (some ⟨γ278 0, 0, none⟩)), (10, .int .i64 0)]) (fun γ278 L => bx (γ278 0) (#[.slice (some ⟨g52, 0, none⟩) n cq52]) 24 :: L) (fun γ278 => []) (fun _ => by kernel_rfl) (fun γ278 => al0) (fun γ278 => ?_)
              refine ops_nil ?_
              refine done_seq ?_
              refine at_seq ?_
              refine at_any (by kernel_rfl) ?_
              refine any_tk (f := 5) [2] [] [4, 7, 8] [(21, .int .i64 0)] ([]) #[false, false, true, false, false, false] (by kernel_rfl) (by kernel_rfl) al0 ?_
              refine any_cut 0 #[true, true, true, true, true, true] ([(4, .pointer (some ⟨γ1 1, 0, none⟩)), (5, .bool y105.pending), (6, .int .i64 0)]) ([bx (γ278 0) (#[.slice (some ⟨g52, 0, none⟩) n cq52]) 24, bx (γ260 0) (#[.slice (some ⟨g52, 0, none⟩) n cq52]) 24, bx (γ101 0) (#[.slice (some ⟨g52, 0, none⟩) n cq52]) 24, bx (γ7 1) (#[.slice (some ⟨g52, 0, none⟩) n cq52]) 24, bx (γ7 0) (#[.slice (some ⟨b166, o166, none⟩) n cap]) 24, bx (γ5 0) (#[.int .i64 0]) 3, bx (γ4 3) (#[.slice (some ⟨g52, 0, none⟩) n cq52]) 24, bx (γ4 2) (#[.func (.func 41) #[] #[.pointer (some ⟨γ2 0, 0, none⟩)]]) 75, bx (γ4 1) (#[.int .i64 k]) 3, bx (γ4 0) (#[.slice (some ⟨b166, o166, none⟩) n cap]) 24, bx (γ2 0) (#[.bool y105.pending]) 4, bx (γ1 1) (#[.slice (some ⟨g52, 0, none⟩) n cq52]) 24, bx (γ1 0) (#[.slice (some ⟨b166, o166, none⟩) n cap]) 24, bx g52 ((cs52).setIfInBounds (0 + (posB l k) * 5 + 3) (.bool false)) 40]) ?_ (fun hm => ?_)
              rotate_left
              ·
                refine any_fork [0, 1] (by kernel_rfl) (by simp) (each_cons _ rfl ?_ (each_cons _ rfl ?_ (each_nil)))
                ·
                  refine oq 1 [(0, .go (owns 0 0 1))] [4, 7, 21] [(19, .agg #[.slice (some ⟨g52, 0, none⟩) n cq52])] ([]) (fun _ => by kernel_rfl) al0 ?_
                  refine ops_nil ?_
                  refine done_any ?_
                  refine any_fork [1, 3] (by kernel_rfl) (by simp) (each_cons _ rfl ?_ (each_cons _ rfl ?_ (each_nil)))
                  ·
                    refine oq 1 [(1, .go (owns 10 0 1))] [4, 19, 21] [(20, .bool y105.pending)] ([]) (fun _ => by kernel_rfl) al0 ?_
                    refine ops_nil ?_
                    refine done_any ?_
                    refine any_one 3 _ (by kernel_rfl) rfl ?_
                    refine om 1 [(3, .go (owns 11 0 1))] [4, 20, 21] (fun _ => []) (fun _ L => (L.set 11 (bx (γ1 1) (#[.slice (some ⟨g52, 0, none⟩) n cq52]) 24))) (fun _ => []) (fun _ => by kernel_rfl) (fun _ => al0) (fun _ => ?_)
                    refine ops_nil ?_
                    refine done_any ?_
                    refine any_tk (f := 0) [4, 5] [] [4] [(5, .bool y105.pending), (6, .int .i64 0)] ([]) #[true, true, true, true, true, true] (by kernel_rfl) (by kernel_rfl) al0 ?_
                    exact any_weak hm [4, 5, 6] (by kernel_rfl) rfl rfl rfl
                  ·
                    refine om 1 [(3, .go (owns 11 0 1))] [4, 7, 21] (fun _ => []) (fun _ L => (L.set 11 (bx (γ1 1) (#[.slice (some ⟨g52, 0, none⟩) n cq52]) 24))) (fun _ => []) (fun _ => by kernel_rfl) (fun _ => al0) (fun _ => ?_)
                    refine ops_nil ?_
                    refine done_any ?_
                    refine any_one 1 _ (by kernel_rfl) rfl ?_
                    refine oq 1 [(1, .go (owns 10 0 1))] [4, 21] [(20, .bool y105.pending)] ([]) (fun _ => by kernel_rfl) al0 ?_
                    refine ops_nil ?_
                    refine done_any ?_
                    refine any_tk (f := 0) [4, 5] [] [4] [(5, .bool y105.pending), (6, .int .i64 0)] ([]) #[true, true, true, true, true, true] (by kernel_rfl) (by kernel_rfl) al0 ?_
                    exact any_weak hm [4, 5, 6] (by kernel_rfl) rfl rfl rfl
                ·
                  refine oq 1 [(1, .go (owns 10 0 1))] [4, 8, 21] [(20, .bool y105.pending)] ([]) (fun _ => by kernel_rfl) al0 ?_
                  refine ops_nil ?_
                  refine done_any ?_
                  refine any_one 0 _ (by kernel_rfl) rfl ?_
                  refine oq 1 [(0, .go (owns 0 0 1))] [4, 20, 21] [(19, .agg #[.slice (some ⟨g52, 0, none⟩) n cq52])] ([]) (fun _ => by kernel_rfl) al0 ?_
                  refine ops_nil ?_
                  refine done_any ?_
                  refine any_one 3 _ (by kernel_rfl) rfl ?_
                  refine om 1 [(3, .go (owns 11 0 1))] [4, 20, 21] (fun _ => []) (fun _ L => (L.set 11 (bx (γ1 1) (#[.slice (some ⟨g52, 0, none⟩) n cq52]) 24))) (fun _ => []) (fun _ => by kernel_rfl) (fun _ => al0) (fun _ => ?_)
                  refine ops_nil ?_
                  refine done_any ?_
                  refine any_tk (f := 0) [4, 5] [] [4] [(5, .bool y105.pending), (6, .int .i64 0)] ([]) #[true, true, true, true, true, true] (by kernel_rfl) (by kernel_rfl) al0 ?_
                  exact any_weak hm [4, 5, 6] (by kernel_rfl) rfl rfl rfl
              refine any_nil (by kernel_rfl) ?_
              refine done_seq ?_
              refine at_return (owns 11 0 1) (.tuple #[.agg #[.slice (some ⟨g52, 0, none⟩) n cq52], .bool y105.pending, .int .i64 0]) [] (by kernel_rfl) (by kernel_rfl) al0 ?_
              exact fun w' hw => by rw [clearV_ok q9 hg105, pos_of hg105]; exact ⟨_, _, _, _, rfl, (SlO.ofOwn (hOw52.put (x' := (⟨y105.num, y105.vcpu, y105.peer, false, y105.masked⟩ : Port)) hnq52 hy105 (f := 3) (by decide) rfl) (len_set hnq52)), hw.below, hw.tailN 13⟩
end Go.Proofs.Ytfhlmijdokfdpaa
