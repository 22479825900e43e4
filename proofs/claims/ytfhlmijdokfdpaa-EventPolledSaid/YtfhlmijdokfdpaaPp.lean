/- event.Send. -/
import Derived.Test.YtfhlmijdokfdpaaPl
import Derived.Test.YtfhlmijdokfdpaaPm
import Derived.Test.YtfhlmijdokfdpaaEj
namespace Go.Proofs.Ytfhlmijdokfdpaa
open Go Go.RowKit

set_option maxRecDepth 100000 in
theorem due_d (x : Port) (w : World)
    : Calls Try.prog 39 #[.agg #[.int .i64 x.num, .int .i64 x.vcpu, .int .i64 x.peer, .bool x.pending, .bool x.masked]] w fun e w' => e = .returned (.bool (dueB x)) ∧ Below w.heap.size w w' := by
  refine enter (Hs.start w) Try.func39 rfl Try.ntmps39 rfl ?_
  refine at_seq ?_
  refine am [] [] (fun γ1 => [(1, .pointer (some ⟨γ1 0, 0, none⟩))]) (fun γ1 L => bx (γ1 0) (#[.int .i64 x.num, .int .i64 x.vcpu, .int .i64 x.peer, .bool x.pending, .bool x.masked]) 40 :: L) (fun γ1 => []) (fun _ => by kernel_rfl) (fun γ1 => al0) (fun γ1 => ?_)
  refine done_seq ?_
  refine at_seq ?_
  rcases q3 : x.pending with _ | _
  ·
    refine aq [(1, .go (owns 0 3 1))] [] [(2, .bool false)] ([]) (fun _ => by kernel_rfl) al0 ?_
    refine done_seq ?_
    refine at_return ([]) (.bool false) [] (by kernel_rfl) (by kernel_rfl) al0 ?_
    exact fun w' hw => ⟨by simp [dueB, *], hw.below⟩
  ·
    rcases q6 : x.masked with _ | _
    ·
      refine aq [(1, .go (owns 0 3 1)), (4, .go (owns 0 4 1))] [] [(2, .bool true)] ([]) (fun _ => by kernel_rfl) al0 ?_
      refine done_seq ?_
      refine at_return ([]) (.bool true) [] (by kernel_rfl) (by kernel_rfl) al0 ?_
      exact fun w' hw => ⟨by simp [dueB, *], hw.below⟩
    ·
      refine aq [(1, .go (owns 0 3 1)), (4, .go (owns 0 4 1))] [] [(2, .bool false)] ([]) (fun _ => by kernel_rfl) al0 ?_
      refine done_seq ?_
      refine at_return ([]) (.bool false) [] (by kernel_rfl) (by kernel_rfl) al0 ?_
      exact fun w' hw => ⟨by simp [dueB, *], hw.below⟩

set_option maxRecDepth 100000 in
theorem send_d (p : Option Addr) (n cap : Nat) (l : List Port) (k : Int) (w : World)
    (hsl : Sv w p l) (hn : n = l.length) (hb : n ≤ 1000)
    : Calls Try.prog 30 #[.agg #[.slice p n cap], .int .i64 k] w fun e w' => ∃ q m capq Y, e = .returned (.tuple #[.agg #[.slice q m capq], .int .i64 (sendV l k).2.1, .int .i64 (sendV l k).2.2]) ∧ SlO 40 Y q m capq (sendV l k).1 ∧ Below w.heap.size w w' ∧ Hs w Y w' := by
  refine enter (Hs.start w) Try.func30 rfl Try.ntmps30 rfl ?_
  refine at_seq ?_
  refine am [] [1] (fun γ1 => [(2, .pointer (some ⟨γ1 0, 0, none⟩)), (4, .pointer (some ⟨γ1 1, 0, none⟩))]) (fun γ1 L => bx (γ1 1) (#[.slice none 0 0]) 24 :: bx (γ1 0) (#[.slice p n cap]) 24 :: L) (fun γ1 => []) (fun _ => by kernel_rfl) (fun γ1 => al0) (fun γ1 => ?_)
  refine done_seq ?_
  refine at_seq ?_
  refine at_ops ?_
  refine oq 2 [(0, .go (owns 1 0 1))] [4] [(7, .agg #[.slice p n cap]), (8, .int .i64 k)] ([]) (fun _ => by kernel_rfl) al0 ?_
  refine ops_inline (g := 40) (args := #[.agg #[.slice p n cap], .int .i64 k, .func (.func 58) #[] #[]]) (by kernel_rfl) (by kernel_rfl) (by kernel_rfl) (fun args w => Try.call40 args w) Try.func40 rfl Try.ntmps40 rfl ?_
  refine at_seq ?_
  refine am [] [] (fun γ3 => [(3, .pointer (some ⟨γ3 0, 0, none⟩)), (4, .pointer (some ⟨γ3 1, 0, none⟩)), (5, .pointer (some ⟨γ3 2, 0, none⟩)), (6, .pointer (some ⟨γ3 3, 0, none⟩))]) (fun γ3 L => bx (γ3 3) (#[.slice none 0 0]) 24 :: bx (γ3 2) (#[.func (.func 58) #[] #[]]) 75 :: bx (γ3 1) (#[.int .i64 k]) 3 :: bx (γ3 0) (#[.slice p n cap]) 24 :: L) (fun γ3 => []) (fun _ => by kernel_rfl) (fun γ3 => al0) (fun γ3 => ?_)
  refine done_seq ?_
  refine at_seq ?_
  refine am [(1, .go (owns 0 0 1))] [3, 4, 5, 6] (fun γ4 => [(9, .pointer (some ⟨γ4 0, 0, none⟩))]) (fun γ4 L => bx (γ4 0) (#[.int .i64 0]) 3 :: L) (fun γ4 => []) (fun _ => by kernel_rfl) (fun γ4 => al0) (fun γ4 => ?_)
  refine done_seq ?_
  refine at_seq ?_
  refine at_ops ?_
  refine oq 2 [(0, .go (owns 4 0 1))] [6, 9] [(13, .agg #[.slice p n cap]), (14, .func (.func 61) #[] #[.pointer (some ⟨γ3 1, 0, none⟩), .pointer (some ⟨γ3 2, 0, none⟩), .pointer (some ⟨γ3 0, 0, none⟩), .pointer (some ⟨γ4 0, 0, none⟩)])] ([]) (fun _ => by kernel_rfl) al0 ?_
  refine ops_inline (g := 54) (args := #[.agg #[.slice p n cap], .func (.func 61) #[] #[.pointer (some ⟨γ3 1, 0, none⟩), .pointer (some ⟨γ3 2, 0, none⟩), .pointer (some ⟨γ3 0, 0, none⟩), .pointer (some ⟨γ4 0, 0, none⟩)]]) (by kernel_rfl) (by kernel_rfl) (by kernel_rfl) (fun args w => Try.call54 args w) Try.func54 rfl Try.ntmps54 rfl ?_
  refine at_seq ?_
  refine am [] [1] (fun γ6 => [(2, .pointer (some ⟨γ6 0, 0, none⟩)), (4, .pointer (some ⟨γ6 1, 0, none⟩))]) (fun γ6 L => bx (γ6 1) (#[.slice none 0 0]) 24 :: bx (γ6 0) (#[.slice p n cap]) 24 :: L) (fun γ6 => []) (fun _ => by kernel_rfl) (fun γ6 => al0) (fun γ6 => ?_)
  refine done_seq ?_
  refine at_seq ?_
  refine at_seq ?_
  refine at_ops ?_
  refine oq 1 [(0, .go (owns 1 0 1))] [1, 2, 4] [(9, .agg #[.slice p n cap])] ([]) (fun _ => by kernel_rfl) al0 ?_
  rcases q8 : rightB l with _ | _
  ·
    refine ops_callD (.int .i64 260) (by kernel_rfl) (by kernel_rfl) (by kernel_rfl) (fun args w => Try.call16 args w) (fun w hw => by have := check_d p n cap l w (hsl.kept hw.below) hn hb; rw [q8] at this; exact this) ?_
    refine oq 1 [] [1, 2, 4] [(6, .int .i64 260)] ([]) (fun _ => by kernel_rfl) al0 ?_
    refine ops_nil ?_
    refine done_seq ?_
    refine at_seq ?_
    refine aq [] [1, 2, 4, 6] [(12, .bool true)] ([]) (fun _ => by kernel_rfl) al0 ?_
    refine done_seq ?_
    refine at_true (by kernel_rfl) ?_
    refine at_seq ?_
    refine aq [(2, .go (owns 0 0 1))] [4] [(5, .int .i64 260)] ([]) (fun _ => by kernel_rfl) al0 ?_
    refine done_seq ?_
    refine at_back (owns 0 0 1) (.tuple #[.agg #[.slice none 0 0], .int .i64 260]) [] (by kernel_rfl) (by kernel_rfl) al0 ?_
    refine om 6 [(7, .go (owns 0 0 1))] [6, 9] (fun γ12 => [(10, .pointer (some ⟨γ12 0, 0, none⟩)), (11, .int .i64 260)]) (fun γ12 L => bx (γ12 0) (#[.slice none 0 0]) 24 :: L) (fun γ12 => []) (fun _ => by kernel_rfl) (fun γ12 => al0) (fun γ12 => ?_)
    refine ops_nil ?_
    refine done_seq ?_
    refine at_seq ?_
    refine at_any (by kernel_rfl) ?_
    refine any_tk (f := 5) [2] [] [6, 9, 10] [(20, .int .i64 260)] ([]) #[false, false, true, false, false, false] (by kernel_rfl) (by kernel_rfl) al0 ?_
    refine any_cut 0 #[true, true, true, true, true, true] ([(6, .pointer (some ⟨γ3 3, 0, none⟩)), (7, .int .i64 0), (8, .int .i64 260)]) ([bx (γ12 0) (#[.slice none 0 0]) 24, bx (γ6 1) (#[.slice none 0 0]) 24, bx (γ6 0) (#[.slice p n cap]) 24, bx (γ4 0) (#[.int .i64 0]) 3, bx (γ3 3) (#[.slice none 0 0]) 24, bx (γ3 2) (#[.func (.func 58) #[] #[]]) 75, bx (γ3 1) (#[.int .i64 k]) 3, bx (γ3 0) (#[.slice p n cap]) 24, bx (γ1 1) (#[.slice none 0 0]) 24, bx (γ1 0) (#[.slice p n cap]) 24]) ?_ (fun hm => ?_)
    rotate_left
    ·
      refine any_fork [0, 1] (by kernel_rfl) (by simp) (each_cons _ rfl ?_ (each_cons _ rfl ?_ (each_nil)))
      ·
        refine oq 1 [(0, .go (owns 0 0 1))] [6, 9, 20] [(18, .agg #[.slice none 0 0])] ([]) (fun _ => by kernel_rfl) al0 ?_
        refine ops_nil ?_
        refine done_any ?_
        refine any_fork [1, 3] (by kernel_rfl) (by simp) (each_cons _ rfl ?_ (each_cons _ rfl ?_ (each_nil)))
        ·
          refine oq 1 [(1, .go (owns 3 0 1))] [6, 18, 20] [(19, .int .i64 0)] ([]) (fun _ => by kernel_rfl) al0 ?_
          refine ops_nil ?_
          refine done_any ?_
          refine any_one 3 _ (by kernel_rfl) rfl ?_
          refine oq 1 [(3, .go (owns 4 0 1))] [6, 19, 20] [] ([]) (fun _ => by kernel_rfl) al0 ?_
          refine ops_nil ?_
          refine done_any ?_
          refine any_tk (f := 0) [4, 5] [] [6] [(7, .int .i64 0), (8, .int .i64 260)] ([]) #[true, true, true, true, true, true] (by kernel_rfl) (by kernel_rfl) al0 ?_
          exact any_weak hm [6, 7, 8] (by kernel_rfl) rfl rfl rfl
        ·
          refine oq 1 [(3, .go (owns 4 0 1))] [6, 9, 20] [] ([]) (fun _ => by kernel_rfl) al0 ?_
          refine ops_nil ?_
          refine done_any ?_
          refine any_one 1 _ (by kernel_rfl) rfl ?_
          refine oq 1 [(1, .go (owns 3 0 1))] [6, 20] [(19, .int .i64 0)] ([]) (fun _ => by kernel_rfl) al0 ?_
          refine ops_nil ?_
          refine done_any ?_
          refine any_tk (f := 0) [4, 5] [] [6] [(7, .int .i64 0), (8, .int .i64 260)] ([]) #[true, true, true, true, true, true] (by kernel_rfl) (by kernel_rfl) al0 ?_
          exact any_weak hm [6, 7, 8] (by kernel_rfl) rfl rfl rfl
      ·
        refine oq 1 [(1, .go (owns 3 0 1))] [6, 10, 20] [(19, .int .i64 0)] ([]) (fun _ => by kernel_rfl) al0 ?_
        refine ops_nil ?_
        refine done_any ?_
        refine any_one 0 _ (by kernel_rfl) rfl ?_
        refine oq 1 [(0, .go (owns 0 0 1))] [6, 19, 20] [(18, .agg #[.slice none 0 0])] ([]) (fun _ => by kernel_rfl) al0 ?_
        refine ops_nil ?_
        refine done_any ?_
        refine any_one 3 _ (by kernel_rfl) rfl ?_
        refine oq 1 [(3, .go (owns 4 0 1))] [6, 19, 20] [] ([]) (fun _ => by kernel_rfl) al0 ?_
        refine ops_nil ?_
        refine done_any ?_
        refine any_tk (f := 0) [4, 5] [] [6] [(7, .int .i64 0), (8, .int .i64 260)] ([]) #[true, true, true, true, true, true] (by kernel_rfl) (by kernel_rfl) al0 ?_
        exact any_weak hm [6, 7, 8] (by kernel_rfl) rfl rfl rfl
    refine any_nil (by kernel_rfl) ?_
    refine done_seq ?_
    refine at_back (owns 4 0 1) (.tuple #[.agg #[.slice none 0 0], .int .i64 0, .int .i64 260]) [] (by kernel_rfl) (by kernel_rfl) al0 ?_
    refine oq 6 [(6, .go (owns 8 0 1))] [4] [(5, .int .i64 0), (6, .int .i64 260)] ([]) (fun _ => by kernel_rfl) al0 ?_
    refine ops_nil ?_
    refine done_seq ?_
    refine at_return (owns 8 0 1) (.tuple #[.agg #[.slice none 0 0], .int .i64 0, .int .i64 260]) [] (by kernel_rfl) (by kernel_rfl) al0 ?_
    exact fun w' hw => by rw [sendV_bad q8]; exact ⟨none, 0, 0, [], rfl, SlO.nil, hw.below, hw.sub (List.nil_sublist _)⟩
  ·
    refine ops_callD (.int .i64 0) (by kernel_rfl) (by kernel_rfl) (by kernel_rfl) (fun args w => Try.call16 args w) (fun w hw => by have := check_d p n cap l w (hsl.kept hw.below) hn hb; rw [q8] at this; exact this) ?_
    refine oq 1 [] [1, 2, 4] [(6, .int .i64 0)] ([]) (fun _ => by kernel_rfl) al0 ?_
    refine ops_nil ?_
    refine done_seq ?_
    refine at_seq ?_
    refine aq [] [1, 2, 4, 6] [(12, .bool false)] ([]) (fun _ => by kernel_rfl) al0 ?_
    refine done_seq ?_
    refine at_false (by kernel_rfl) ?_
    refine at_skip ?_
    refine done_seq ?_
    refine at_seq ?_
    refine at_ops ?_
    refine oq 2 [(1, .go (owns 1 0 1))] [1, 4] [(16, .slice p n cap)] ([]) (fun _ => by kernel_rfl) al0 ?_
    refine ops_call (fun v L' => ∃ q capq Y, v = .slice q n capq ∧ L' = List.take 9 ([bx (γ6 1) (#[.slice none 0 0]) 24, bx (γ6 0) (#[.slice p n cap]) 24, bx (γ4 0) (#[.int .i64 0]) 3, bx (γ3 3) (#[.slice none 0 0]) 24, bx (γ3 2) (#[.func (.func 58) #[] #[]]) 75, bx (γ3 1) (#[.int .i64 k]) 3, bx (γ3 0) (#[.slice p n cap]) 24, bx (γ1 1) (#[.slice none 0 0]) 24, bx (γ1 0) (#[.slice p n cap]) 24]) ++ (Y ++ List.drop 9 ([bx (γ6 1) (#[.slice none 0 0]) 24, bx (γ6 0) (#[.slice p n cap]) 24, bx (γ4 0) (#[.int .i64 0]) 3, bx (γ3 3) (#[.slice none 0 0]) 24, bx (γ3 2) (#[.func (.func 58) #[] #[]]) 75, bx (γ3 1) (#[.int .i64 k]) 3, bx (γ3 0) (#[.slice p n cap]) 24, bx (γ1 1) (#[.slice none 0 0]) 24, bx (γ1 0) (#[.slice p n cap]) 24])) ∧ SlO 40 Y q n capq l) (by kernel_rfl) (by kernel_rfl) (by kernel_rfl) (fun args w => Try.call72 args w) (fun w hw => (clone_d p n cap l w (hsl.kept hw.below) hn (by omega)).mono fun e w' ⟨q, capq, Y, he, hO, hb, hY⟩ => ⟨_, _, he, ⟨q, capq, Y, rfl, rfl, hO⟩, hw.join hb hY 9⟩) ?_
    rintro v34 L34 ⟨q34, cq34, Y34, rfl, rfl, hO34⟩
    have hnq34 := hO34.len
    rcases hO34.parts with ⟨rfl, rfl, hz34⟩ | ⟨g34, cs34, rfl, rfl, hOw34⟩
    ·
      refine om 3 [(5, .go (owns 0 0 1))] [1, 4] (fun γ35 => [(7, .pointer (some ⟨γ35 0, 0, none⟩))]) (fun γ35 L => bx (γ35 0) (#[.slice none n cq34]) 24 :: L) (fun γ35 => []) (fun _ => by kernel_rfl) (fun γ35 => al0) (fun γ35 => ?_)
      refine ops_nil ?_
      refine done_seq ?_
      refine at_seq ?_
      refine at_seq ?_
      refine at_ops ?_
      refine oq 1 [] [4, 7] [(19, .func (.func 61) #[] #[.pointer (some ⟨γ3 1, 0, none⟩), .pointer (some ⟨γ3 2, 0, none⟩), .pointer (some ⟨γ3 0, 0, none⟩), .pointer (some ⟨γ4 0, 0, none⟩)])] ([]) (fun _ => by kernel_rfl) al0 ?_
      refine ops_inline (g := 61) (args := #[.pointer (some ⟨γ35 0, 0, none⟩), .pointer (some ⟨γ3 1, 0, none⟩), .pointer (some ⟨γ3 2, 0, none⟩), .pointer (some ⟨γ3 0, 0, none⟩), .pointer (some ⟨γ4 0, 0, none⟩)]) (by kernel_rfl) (by kernel_rfl) (by kernel_rfl) (fun args w => Try.call61 args w) Try.func61 rfl Try.ntmps61 rfl ?_
      refine at_seq ?_
      refine aq [] [0, 1, 2, 3, 4] [] ([]) (fun _ => by kernel_rfl) al0 ?_
      refine done_seq ?_
      refine at_seq ?_
      refine at_calm rfl (by kernel_rfl) (by kernel_rfl) ?_
      refine cm 5 [(3, .go (owns 0 0 1)), (4, .go (owns 6 0 1))] [0, 2, 3, 4] [(14, .slice none n cq34), (15, .int .i64 k)] ([]) (by kernel_rfl) rfl al0 ?_
      rcases hg39 : getB l k with _ | y39
      ·
        refine calm_callD (.pointer none) (by kernel_rfl) (by kernel_rfl) (by kernel_rfl) (fun args w => Try.call32 args w) (fun w hw => by have := port_d none n cq34 l k w (hO34.atN (A := []) hw) hnq34 (by omega) (ris_all (right_ris q8)) (ris_asc l 0 (right_ris q8)); rw [portV_none hg39] at this; exact this) ?_
        refine cm 1 [] [0, 2, 3, 4] [(7, .pointer none)] ([]) (by kernel_rfl) rfl al0 ?_
        refine calm_nil' ?_
        refine done_seq ?_
        refine at_seq ?_
        refine at_seq ?_
        refine aq [] [0, 2, 3, 4, 7] [(18, .bool true)] ([]) (fun _ => by kernel_rfl) al0 ?_
        refine done_seq ?_
        refine at_true (by kernel_rfl) ?_
        refine at_seq ?_
        refine aq [] [] [(6, .int .i64 4)] ([]) (fun _ => by kernel_rfl) al0 ?_
        refine done_seq ?_
        refine at_back ([]) (.int .i64 4) [] (by kernel_rfl) (by kernel_rfl) al0 ?_
        refine oq 1 [] [4, 7] [(8, .int .i64 4)] ([]) (fun _ => by kernel_rfl) al0 ?_
        refine ops_nil ?_
        refine done_seq ?_
        refine at_seq ?_
        refine aq [] [4, 7, 8] [(22, .bool true)] ([]) (fun _ => by kernel_rfl) al0 ?_
        refine done_seq ?_
        refine at_true (by kernel_rfl) ?_
        refine at_seq ?_
        refine aq [(2, .go (owns 1 0 1))] [4] [(5, .int .i64 4)] ([]) (fun _ => by kernel_rfl) al0 ?_
        refine done_seq ?_
        refine at_back (owns 1 0 1) (.tuple #[.agg #[.slice none 0 0], .int .i64 4]) [] (by kernel_rfl) (by kernel_rfl) al0 ?_
        refine om 6 [(7, .go (owns 0 0 1))] [6, 9] (fun γ46 => [(10, .pointer (some ⟨γ46 0, 0, none⟩)), (11, .int .i64 4)]) (fun γ46 L => bx (γ46 0) (#[.slice none 0 0]) 24 :: L) (fun γ46 => []) (fun _ => by kernel_rfl) (fun γ46 => al0) (fun γ46 => ?_)
        refine ops_nil ?_
        refine done_seq ?_
        refine at_seq ?_
        refine at_any (by kernel_rfl) ?_
        refine any_tk (f := 5) [2] [] [6, 9, 10] [(20, .int .i64 4)] ([]) #[false, false, true, false, false, false] (by kernel_rfl) (by kernel_rfl) al0 ?_
        refine any_cut 0 #[true, true, true, true, true, true] ([(6, .pointer (some ⟨γ3 3, 0, none⟩)), (7, .int .i64 0), (8, .int .i64 4)]) ([bx (γ46 0) (#[.slice none 0 0]) 24, bx (γ35 0) (#[.slice none n cq34]) 24, bx (γ6 1) (#[.slice none 0 0]) 24, bx (γ6 0) (#[.slice p n cap]) 24, bx (γ4 0) (#[.int .i64 0]) 3, bx (γ3 3) (#[.slice none 0 0]) 24, bx (γ3 2) (#[.func (.func 58) #[] #[]]) 75, bx (γ3 1) (#[.int .i64 k]) 3, bx (γ3 0) (#[.slice p n cap]) 24, bx (γ1 1) (#[.slice none 0 0]) 24, bx (γ1 0) (#[.slice p n cap]) 24]) ?_ (fun hm => ?_)
        rotate_left
        ·
          refine any_fork [0, 1] (by kernel_rfl) (by simp) (each_cons _ rfl ?_ (each_cons _ rfl ?_ (each_nil)))
          ·
            refine oq 1 [(0, .go (owns 0 0 1))] [6, 9, 20] [(18, .agg #[.slice none 0 0])] ([]) (fun _ => by kernel_rfl) al0 ?_
            refine ops_nil ?_
            refine done_any ?_
            refine any_fork [1, 3] (by kernel_rfl) (by simp) (each_cons _ rfl ?_ (each_cons _ rfl ?_ (each_nil)))
            ·
              refine oq 1 [(1, .go (owns 4 0 1))] [6, 18, 20] [(19, .int .i64 0)] ([]) (fun _ => by kernel_rfl) al0 ?_
              refine ops_nil ?_
              refine done_any ?_
              refine any_one 3 _ (by kernel_rfl) rfl ?_
              refine oq 1 [(3, .go (owns 5 0 1))] [6, 19, 20] [] ([]) (fun _ => by kernel_rfl) al0 ?_
              refine ops_nil ?_
              refine done_any ?_
              refine any_tk (f := 0) [4, 5] [] [6] [(7, .int .i64 0), (8, .int .i64 4)] ([]) #[true, true, true, true, true, true] (by kernel_rfl) (by kernel_rfl) al0 ?_
              exact any_weak hm [6, 7, 8] (by kernel_rfl) rfl rfl rfl
            ·
              refine oq 1 [(3, .go (owns 5 0 1))] [6, 9, 20] [] ([]) (fun _ => by kernel_rfl) al0 ?_
              refine ops_nil ?_
              refine done_any ?_
              refine any_one 1 _ (by kernel_rfl) rfl ?_
              refine oq 1 [(1, .go (owns 4 0 1))] [6, 20] [(19, .int .i64 0)] ([]) (fun _ => by kernel_rfl) al0 ?_
              refine ops_nil ?_
              refine done_any ?_
              refine any_tk (f := 0) [4, 5] [] [6] [(7, .int .i64 0), (8, .int .i64 4)] ([]) #[true, true, true, true, true, true] (by kernel_rfl) (by kernel_rfl) al0 ?_
              exact any_weak hm [6, 7, 8] (by kernel_rfl) rfl rfl rfl
          ·
            refine oq 1 [(1, .go (owns 4 0 1))] [6, 10, 20] [(19, .int .i64 0)] ([]) (fun _ => by kernel_rfl) al0 ?_
            refine ops_nil ?_
            refine done_any ?_
            refine any_one 0 _ (by kernel_rfl) rfl ?_
            refine oq 1 [(0, .go (owns 0 0 1))] [6, 19, 20] [(18, .agg #[.slice none 0 0])] ([]) (fun _ => by kernel_rfl) al0 ?_
            refine ops_nil ?_
            refine done_any ?_
            refine any_one 3 _ (by kernel_rfl) rfl ?_
            refine oq 1 [(3, .go (owns 5 0 1))] [6, 19, 20] [] ([]) (fun _ => by kernel_rfl) al0 ?_
            refine ops_nil ?_
            refine done_any ?_
            refine any_tk (f := 0) [4, 5] [] [6] [(7, .int .i64 0), (8, .int .i64 4)] ([]) #[true, true, true, true, true, true] (by kernel_rfl) (by kernel_rfl) al0 ?_
            exact any_weak hm [6, 7, 8] (by kernel_rfl) rfl rfl rfl
        refine any_nil (by kernel_rfl) ?_
        refine done_seq ?_
        refine at_back (owns 5 0 1) (.tuple #[.agg #[.slice none 0 0], .int .i64 0, .int .i64 4]) [] (by kernel_rfl) (by kernel_rfl) al0 ?_
        refine oq 6 [(6, .go (owns 9 0 1))] [4] [(5, .int .i64 0), (6, .int .i64 4)] ([]) (fun _ => by kernel_rfl) al0 ?_
        refine ops_nil ?_
        refine done_seq ?_
        refine at_return (owns 9 0 1) (.tuple #[.agg #[.slice none 0 0], .int .i64 0, .int .i64 4]) [] (by kernel_rfl) (by kernel_rfl) al0 ?_
        exact fun w' hw => by rw [sendV_none q8 hg39]; exact ⟨none, 0, 0, [], rfl, SlO.nil, hw.below, hw.sub (List.nil_sublist _)⟩
      ·
        have hy39 := (get_pos (ris_asc l 0 (right_ris q8)) hg39).1
        exact absurd (List.getElem?_eq_some_iff.1 hy39).1 (by omega)
    ·
      refine om 3 [(5, .go (owns 0 0 1))] [1, 4] (fun γ66 => [(7, .pointer (some ⟨γ66 0, 0, none⟩))]) (fun γ66 L => bx (γ66 0) (#[.slice (some ⟨g34, 0, none⟩) n cq34]) 24 :: L) (fun γ66 => []) (fun _ => by kernel_rfl) (fun γ66 => al0) (fun γ66 => ?_)
      refine ops_nil ?_
      refine done_seq ?_
      refine at_seq ?_
      refine at_seq ?_
      refine at_ops ?_
      refine oq 1 [] [4, 7] [(19, .func (.func 61) #[] #[.pointer (some ⟨γ3 1, 0, none⟩), .pointer (some ⟨γ3 2, 0, none⟩), .pointer (some ⟨γ3 0, 0, none⟩), .pointer (some ⟨γ4 0, 0, none⟩)])] ([]) (fun _ => by kernel_rfl) al0 ?_
      refine ops_inline (g := 61) (args := #[.pointer (some ⟨γ66 0, 0, none⟩), .pointer (some ⟨γ3 1, 0, none⟩), .pointer (some ⟨γ3 2, 0, none⟩), .pointer (some ⟨γ3 0, 0, none⟩), .pointer (some ⟨γ4 0, 0, none⟩)]) (by kernel_rfl) (by kernel_rfl) (by kernel_rfl) (fun args w => Try.call61 args w) Try.func61 rfl Try.ntmps61 rfl ?_
      refine at_seq ?_
      refine aq [] [0, 1, 2, 3, 4] [] ([]) (fun _ => by kernel_rfl) al0 ?_
      refine done_seq ?_
      refine at_seq ?_
      refine at_calm rfl (by kernel_rfl) (by kernel_rfl) ?_
      refine cm 5 [(3, .go (owns 0 0 1)), (4, .go (owns 6 0 1))] [0, 2, 3, 4] [(14, .slice (some ⟨g34, 0, none⟩) n cq34), (15, .int .i64 k)] ([]) (by kernel_rfl) rfl al0 ?_
      rcases hg70 : getB l k with _ | y70
      ·
        refine calm_callD (.pointer none) (by kernel_rfl) (by kernel_rfl) (by kernel_rfl) (fun args w => Try.call32 args w) (fun w hw => by have := port_d (some ⟨g34, 0, none⟩) n cq34 l k w (hO34.atN (A := [_, _, _, _, _, _, _, _, _, _]) hw) hnq34 (by omega) (ris_all (right_ris q8)) (ris_asc l 0 (right_ris q8)); rw [portV_none hg70] at this; exact this) ?_
        refine cm 1 [] [0, 2, 3, 4] [(7, .pointer none)] ([]) (by kernel_rfl) rfl al0 ?_
        refine calm_nil' ?_
        refine done_seq ?_
        refine at_seq ?_
        refine at_seq ?_
        refine aq [] [0, 2, 3, 4, 7] [(18, .bool true)] ([]) (fun _ => by kernel_rfl) al0 ?_
        refine done_seq ?_
        refine at_true (by kernel_rfl) ?_
        refine at_seq ?_
        refine aq [] [] [(6, .int .i64 4)] ([]) (fun _ => by kernel_rfl) al0 ?_
        refine done_seq ?_
        refine at_back ([]) (.int .i64 4) [] (by kernel_rfl) (by kernel_rfl) al0 ?_
        refine oq 1 [] [4, 7] [(8, .int .i64 4)] ([]) (fun _ => by kernel_rfl) al0 ?_
        refine ops_nil ?_
        refine done_seq ?_
        refine at_seq ?_
        refine aq [] [4, 7, 8] [(22, .bool true)] ([]) (fun _ => by kernel_rfl) al0 ?_
        refine done_seq ?_
        refine at_true (by kernel_rfl) ?_
        refine at_seq ?_
        refine aq [(2, .go (owns 1 0 1))] [4] [(5, .int .i64 4)] ([]) (fun _ => by kernel_rfl) al0 ?_
        refine done_seq ?_
        refine at_back (owns 1 0 1) (.tuple #[.agg #[.slice none 0 0], .int .i64 4]) [] (by kernel_rfl) (by kernel_rfl) al0 ?_
        refine om 6 [(7, .go (owns 0 0 1))] [6, 9] (fun γ77 => [(10, .pointer (some ⟨γ77 0, 0, none⟩)), (11, .int .i64 4)]) (fun γ77 L => bx (γ77 0) (#[.slice none 0 0]) 24 :: L) (fun γ77 => []) (fun _ => by kernel_rfl) (fun γ77 => al0) (fun γ77 => ?_)
        refine ops_nil ?_
        refine done_seq ?_
        refine at_seq ?_
        refine at_any (by kernel_rfl) ?_
        refine any_tk (f := 5) [2] [] [6, 9, 10] [(20, .int .i64 4)] ([]) #[false, false, true, false, false, false] (by kernel_rfl) (by kernel_rfl) al0 ?_
        refine any_cut 0 #[true, true, true, true, true, true] ([(6, .pointer (some ⟨γ3 3, 0, none⟩)), (7, .int .i64 0), (8, .int .i64 4)]) ([bx (γ77 0) (#[.slice none 0 0]) 24, bx (γ66 0) (#[.slice (some ⟨g34, 0, none⟩) n cq34]) 24, bx (γ6 1) (#[.slice none 0 0]) 24, bx (γ6 0) (#[.slice p n cap]) 24, bx (γ4 0) (#[.int .i64 0]) 3, bx (γ3 3) (#[.slice none 0 0]) 24, bx (γ3 2) (#[.func (.func 58) #[] #[]]) 75, bx (γ3 1) (#[.int .i64 k]) 3, bx (γ3 0) (#[.slice p n cap]) 24, bx (γ1 1) (#[.slice none 0 0]) 24, bx (γ1 0) (#[.slice p n cap]) 24, bx g34 cs34 40]) ?_ (fun hm => ?_)
        rotate_left
        ·
          refine any_fork [0, 1] (by kernel_rfl) (by simp) (each_cons _ rfl ?_ (each_cons _ rfl ?_ (each_nil)))
          ·
            refine oq 1 [(0, .go (owns 0 0 1))] [6, 9, 20] [(18, .agg #[.slice none 0 0])] ([]) (fun _ => by kernel_rfl) al0 ?_
            refine ops_nil ?_
            refine done_any ?_
            refine any_fork [1, 3] (by kernel_rfl) (by simp) (each_cons _ rfl ?_ (each_cons _ rfl ?_ (each_nil)))
            ·
              refine oq 1 [(1, .go (owns 4 0 1))] [6, 18, 20] [(19, .int .i64 0)] ([]) (fun _ => by kernel_rfl) al0 ?_
              refine ops_nil ?_
              refine done_any ?_
              refine any_one 3 _ (by kernel_rfl) rfl ?_
              refine oq 1 [(3, .go (owns 5 0 1))] [6, 19, 20] [] ([]) (fun _ => by kernel_rfl) al0 ?_
              refine ops_nil ?_
              refine done_any ?_
              refine any_tk (f := 0) [4, 5] [] [6] [(7, .int .i64 0), (8, .int .i64 4)] ([]) #[true, true, true, true, true, true] (by kernel_rfl) (by kernel_rfl) al0 ?_
              exact any_weak hm [6, 7, 8] (by kernel_rfl) rfl rfl rfl
            ·
              refine oq 1 [(3, .go (owns 5 0 1))] [6, 9, 20] [] ([]) (fun _ => by kernel_rfl) al0 ?_
              refine ops_nil ?_
              refine done_any ?_
              refine any_one 1 _ (by kernel_rfl) rfl ?_
              refine oq 1 [(1, .go (owns 4 0 1))] [6, 20] [(19, .int .i64 0)] ([]) (fun _ => by kernel_rfl) al0 ?_
              refine ops_nil ?_
              refine done_any ?_
              refine any_tk (f := 0) [4, 5] [] [6] [(7, .int .i64 0), (8, .int .i64 4)] ([]) #[true, true, true, true, true, true] (by kernel_rfl) (by kernel_rfl) al0 ?_
              exact any_weak hm [6, 7, 8] (by kernel_rfl) rfl rfl rfl
          ·
            refine oq 1 [(1, .go (owns 4 0 1))] [6, 10, 20] [(19, .int .i64 0)] ([]) (fun _ => by kernel_rfl) al0 ?_
            refine ops_nil ?_
            refine done_any ?_
            refine any_one 0 _ (by kernel_rfl) rfl ?_
            refine oq 1 [(0, .go (owns 0 0 1))] [6, 19, 20] [(18, .agg #[.slice none 0 0])] ([]) (fun _ => by kernel_rfl) al0 ?_
            refine ops_nil ?_
            refine done_any ?_
            refine any_one 3 _ (by kernel_rfl) rfl ?_
            refine oq 1 [(3, .go (owns 5 0 1))] [6, 19, 20] [] ([]) (fun _ => by kernel_rfl) al0 ?_
            refine ops_nil ?_
            refine done_any ?_
            refine any_tk (f := 0) [4, 5] [] [6] [(7, .int .i64 0), (8, .int .i64 4)] ([]) #[true, true, true, true, true, true] (by kernel_rfl) (by kernel_rfl) al0 ?_
            exact any_weak hm [6, 7, 8] (by kernel_rfl) rfl rfl rfl
        refine any_nil (by kernel_rfl) ?_
        refine done_seq ?_
        refine at_back (owns 5 0 1) (.tuple #[.agg #[.slice none 0 0], .int .i64 0, .int .i64 4]) [] (by kernel_rfl) (by kernel_rfl) al0 ?_
        refine oq 6 [(6, .go (owns 9 0 1))] [4] [(5, .int .i64 0), (6, .int .i64 4)] ([]) (fun _ => by kernel_rfl) al0 ?_
        refine ops_nil ?_
        refine done_seq ?_
        refine at_return (owns 9 0 1) (.tuple #[.agg #[.slice none 0 0], .int .i64 0, .int .i64 4]) [] (by kernel_rfl) (by kernel_rfl) al0 ?_
        exact fun w' hw => by rw [sendV_none q8 hg70]; exact ⟨none, 0, 0, [], rfl, SlO.nil, hw.below, hw.sub (List.nil_sublist _)⟩
      ·
        have hy70 := (get_pos (ris_asc l 0 (right_ris q8)) hg70).1
        refine calm_callD (.pointer (some ⟨g34, 0 + (posB l k) * 5, none⟩)) (by kernel_rfl) (by kernel_rfl) (by kernel_rfl) (fun args w => Try.call32 args w) (fun w hw => by have := port_d (some ⟨g34, 0, none⟩) n cq34 l k w (hO34.atN (A := [_, _, _, _, _, _, _, _, _, _]) hw) hnq34 (by omega) (ris_all (right_ris q8)) (ris_asc l 0 (right_ris q8)); rw [portV_some hg70] at this; exact this) ?_
        refine cm 1 [] [0, 2, 3, 4] [(7, .pointer (some ⟨g34, 0 + (posB l k) * 5, none⟩))] ([]) (by kernel_rfl) rfl al0 ?_
        refine calm_nil' ?_
        refine done_seq ?_
        refine at_seq ?_
        refine at_seq ?_
        refine aq [] [0, 2, 3, 4, 7] [(18, .bool false)] ([]) (fun _ => by kernel_rfl) al0 ?_
        refine done_seq ?_
        refine at_false (by kernel_rfl) ?_
        refine at_skip ?_
        refine done_seq ?_
        refine at_seq ?_
        refine at_any (by kernel_rfl) ?_
        refine any_tk (f := 8) [1, 2, 3, 4] [] [2, 3, 4] [(21, .pointer (some ⟨g34, 0 + (posB l k) * 5, none⟩)), (24, .pointer (some ⟨γ66 0, 0, none⟩))] ([]) #[false, true, true, true, true, false, false, false, false, false, false, false] (by kernel_rfl) (by kernel_rfl) al0 ?_
        refine any_cut 6 #[true, true, true, true, true, true, false, false, false, false, false, false] ([(3, .pointer (some ⟨γ3 0, 0, none⟩)), (4, .pointer (some ⟨γ4 0, 0, none⟩)), (20, .func (.func 58) #[] #[]), (21, .pointer (some ⟨g34, 0 + (posB l k) * 5, none⟩)), (25, .slice (some ⟨g34, 0, none⟩) n cq34)]) ([bx (γ66 0) (#[.slice (some ⟨g34, 0, none⟩) n cq34]) 24, bx (γ6 1) (#[.slice none 0 0]) 24, bx (γ6 0) (#[.slice p n cap]) 24, bx (γ4 0) (#[.int .i64 0]) 3, bx (γ3 3) (#[.slice none 0 0]) 24, bx (γ3 2) (#[.func (.func 58) #[] #[]]) 75, bx (γ3 1) (#[.int .i64 k]) 3, bx (γ3 0) (#[.slice p n cap]) 24, bx (γ1 1) (#[.slice none 0 0]) 24, bx (γ1 0) (#[.slice p n cap]) 24, bx g34 cs34 40]) ?_ (fun hm => ?_)
        rotate_left
        ·
          refine any_fork [0, 5] (by kernel_rfl) (by simp) (each_cons _ rfl ?_ (each_cons _ rfl ?_ (each_nil)))
          ·
            refine oq 1 [(0, .go (owns 5 0 1))] [3, 4, 21, 24] [(20, .func (.func 58) #[] #[])] ([]) (fun _ => by kernel_rfl) al0 ?_
            refine ops_nil ?_
            refine done_any ?_
            refine any_one 5 _ (by kernel_rfl) rfl ?_
            refine oq 1 [(5, .go (owns 0 0 1))] [3, 4, 20, 21] [(25, .slice (some ⟨g34, 0, none⟩) n cq34)] ([]) (fun _ => by kernel_rfl) al0 ?_
            refine ops_nil ?_
            refine done_any ?_
            exact any_weak hm [3, 4, 20, 21, 25] (by kernel_rfl) rfl rfl rfl
          ·
            refine oq 1 [(5, .go (owns 0 0 1))] [2, 3, 4, 21] [(25, .slice (some ⟨g34, 0, none⟩) n cq34)] ([]) (fun _ => by kernel_rfl) al0 ?_
            refine ops_nil ?_
            refine done_any ?_
            refine any_one 0 _ (by kernel_rfl) rfl ?_
            refine oq 1 [(0, .go (owns 5 0 1))] [3, 4, 21, 25] [(20, .func (.func 58) #[] #[])] ([]) (fun _ => by kernel_rfl) al0 ?_
            refine ops_nil ?_
            refine done_any ?_
            exact any_weak hm [3, 4, 20, 21, 25] (by kernel_rfl) rfl rfl rfl
        refine any_one 6 _ (by kernel_rfl) rfl ?_
        refine ops_inline (g := 58) (args := #[.pointer (some ⟨g34, 0 + (posB l k) * 5, none⟩), .slice (some ⟨g34, 0, none⟩) n cq34]) (by kernel_rfl) (by kernel_rfl) (by kernel_rfl) (fun args w => Try.call58 args w) Try.func58 rfl Try.ntmps58 rfl ?_
        refine at_seq ?_
        refine aq [] [0, 1] [] ([]) (fun _ => by kernel_rfl) al0 ?_
        refine done_seq ?_
        refine at_seq ?_
        refine at_seq ?_
        by_cases q110 : (y70.peer : Int) = (0 : Int)
        ·
          refine aq [(3, .go (ownps 10 (0 + (posB l k) * 5 + 2) [.int .i64 y70.peer])), (4, .yes)] [0, 1] [(11, .bool true)] (acellsP cs34 (0 + (posB l k) * 5 + 2) [.int .i64 y70.peer] ++ ([(y70.peer : Int) = (0 : Int)])) (fun _ => by kernel_rfl) (alA (rda_part ((hOw34.rdx hnq34 hy70)) 2 _ rfl) (al1 q110)) ?_
          refine done_seq ?_
          refine at_true (by kernel_rfl) ?_
          refine at_seq ?_
          refine aq [] [] [(4, .pointer none), (5, .int .i64 261)] ([]) (fun _ => by kernel_rfl) al0 ?_
          refine done_seq ?_
          refine at_back ([]) (.tuple #[.pointer none, .int .i64 261]) [] (by kernel_rfl) (by kernel_rfl) al0 ?_
          refine ops_nil ?_
          refine done_any ?_
          refine any_tk (f := 0) [7, 8, 9, 10, 11] [] [3, 4] [(8, .pointer none), (9, .int .i64 261)] ([]) #[true, true, true, true, true, true, true, true, true, true, true, true] (by kernel_rfl) (by kernel_rfl) al0 ?_
          refine any_nil (by kernel_rfl) ?_
          refine done_seq ?_
          refine at_seq ?_
          refine at_seq ?_
          refine aq [] [3, 4, 8, 9] [(30, .bool true)] ([]) (fun _ => by kernel_rfl) al0 ?_
          refine done_seq ?_
          refine at_true (by kernel_rfl) ?_
          refine at_seq ?_
          refine aq [] [] [(6, .int .i64 261)] ([]) (fun _ => by kernel_rfl) al0 ?_
          refine done_seq ?_
          refine at_back ([]) (.int .i64 261) [] (by kernel_rfl) (by kernel_rfl) al0 ?_
          refine oq 1 [] [4, 7] [(8, .int .i64 261)] ([]) (fun _ => by kernel_rfl) al0 ?_
          refine ops_nil ?_
          refine done_seq ?_
          refine at_seq ?_
          refine aq [] [4, 7, 8] [(22, .bool true)] ([]) (fun _ => by kernel_rfl) al0 ?_
          refine done_seq ?_
          refine at_true (by kernel_rfl) ?_
          refine at_seq ?_
          refine aq [(2, .go (owns 1 0 1))] [4] [(5, .int .i64 261)] ([]) (fun _ => by kernel_rfl) al0 ?_
          refine done_seq ?_
          refine at_back (owns 1 0 1) (.tuple #[.agg #[.slice none 0 0], .int .i64 261]) [] (by kernel_rfl) (by kernel_rfl) al0 ?_
          refine om 6 [(7, .go (owns 0 0 1))] [6, 9] (fun γ119 => [(10, .pointer (some ⟨γ119 0, 0, none⟩)), (11, .int .i64 261)]) (fun γ119 L => bx (γ119 0) (#[.slice none 0 0]) 24 :: L) (fun γ119 => []) (fun _ => by kernel_rfl) (fun γ119 => al0) (fun γ119 => ?_)
          refine ops_nil ?_
          refine done_seq ?_
          refine at_seq ?_
          refine at_any (by kernel_rfl) ?_
          refine any_tk (f := 5) [2] [] [6, 9, 10] [(20, .int .i64 261)] ([]) #[false, false, true, false, false, false] (by kernel_rfl) (by kernel_rfl) al0 ?_
          refine any_cut 0 #[true, true, true, true, true, true] ([(6, .pointer (some ⟨γ3 3, 0, none⟩)), (7, .int .i64 0), (8, .int .i64 261)]) ([bx (γ119 0) (#[.slice none 0 0]) 24, bx (γ66 0) (#[.slice (some ⟨g34, 0, none⟩) n cq34]) 24, bx (γ6 1) (#[.slice none 0 0]) 24, bx (γ6 0) (#[.slice p n cap]) 24, bx (γ4 0) (#[.int .i64 0]) 3, bx (γ3 3) (#[.slice none 0 0]) 24, bx (γ3 2) (#[.func (.func 58) #[] #[]]) 75, bx (γ3 1) (#[.int .i64 k]) 3, bx (γ3 0) (#[.slice p n cap]) 24, bx (γ1 1) (#[.slice none 0 0]) 24, bx (γ1 0) (#[.slice p n cap]) 24, bx g34 cs34 40]) ?_ (fun hm => ?_)
          rotate_left
          ·
            refine any_fork [0, 1] (by kernel_rfl) (by simp) (each_cons _ rfl ?_ (each_cons _ rfl ?_ (each_nil)))
            ·
              refine oq 1 [(0, .go (owns 0 0 1))] [6, 9, 20] [(18, .agg #[.slice none 0 0])] ([]) (fun _ => by kernel_rfl) al0 ?_
              refine ops_nil ?_
              refine done_any ?_
              refine any_fork [1, 3] (by kernel_rfl) (by simp) (each_cons _ rfl ?_ (each_cons _ rfl ?_ (each_nil)))
              ·
                refine oq 1 [(1, .go (owns 4 0 1))] [6, 18, 20] [(19, .int .i64 0)] ([]) (fun _ => by kernel_rfl) al0 ?_
                refine ops_nil ?_
                refine done_any ?_
                refine any_one 3 _ (by kernel_rfl) rfl ?_
                refine oq 1 [(3, .go (owns 5 0 1))] [6, 19, 20] [] ([]) (fun _ => by kernel_rfl) al0 ?_
                refine ops_nil ?_
                refine done_any ?_
                refine any_tk (f := 0) [4, 5] [] [6] [(7, .int .i64 0), (8, .int .i64 261)] ([]) #[true, true, true, true, true, true] (by kernel_rfl) (by kernel_rfl) al0 ?_
                exact any_weak hm [6, 7, 8] (by kernel_rfl) rfl rfl rfl
              ·
                refine oq 1 [(3, .go (owns 5 0 1))] [6, 9, 20] [] ([]) (fun _ => by kernel_rfl) al0 ?_
                refine ops_nil ?_
                refine done_any ?_
                refine any_one 1 _ (by kernel_rfl) rfl ?_
                refine oq 1 [(1, .go (owns 4 0 1))] [6, 20] [(19, .int .i64 0)] ([]) (fun _ => by kernel_rfl) al0 ?_
                refine ops_nil ?_
                refine done_any ?_
                refine any_tk (f := 0) [4, 5] [] [6] [(7, .int .i64 0), (8, .int .i64 261)] ([]) #[true, true, true, true, true, true] (by kernel_rfl) (by kernel_rfl) al0 ?_
                exact any_weak hm [6, 7, 8] (by kernel_rfl) rfl rfl rfl
            ·
              refine oq 1 [(1, .go (owns 4 0 1))] [6, 10, 20] [(19, .int .i64 0)] ([]) (fun _ => by kernel_rfl) al0 ?_
              refine ops_nil ?_
              refine done_any ?_
              refine any_one 0 _ (by kernel_rfl) rfl ?_
              refine oq 1 [(0, .go (owns 0 0 1))] [6, 19, 20] [(18, .agg #[.slice none 0 0])] ([]) (fun _ => by kernel_rfl) al0 ?_
              refine ops_nil ?_
              refine done_any ?_
              refine any_one 3 _ (by kernel_rfl) rfl ?_
              refine oq 1 [(3, .go (owns 5 0 1))] [6, 19, 20] [] ([]) (fun _ => by kernel_rfl) al0 ?_
              refine ops_nil ?_
              refine done_any ?_
              refine any_tk (f := 0) [4, 5] [] [6] [(7, .int .i64 0), (8, .int .i64 261)] ([]) #[true, true, true, true, true, true] (by kernel_rfl) (by kernel_rfl) al0 ?_
              exact any_weak hm [6, 7, 8] (by kernel_rfl) rfl rfl rfl
          refine any_nil (by kernel_rfl) ?_
          refine done_seq ?_
          refine at_back (owns 5 0 1) (.tuple #[.agg #[.slice none 0 0], .int .i64 0, .int .i64 261]) [] (by kernel_rfl) (by kernel_rfl) al0 ?_
          refine oq 6 [(6, .go (owns 9 0 1))] [4] [(5, .int .i64 0), (6, .int .i64 261)] ([]) (fun _ => by kernel_rfl) al0 ?_
          refine ops_nil ?_
          refine done_seq ?_
          refine at_return (owns 9 0 1) (.tuple #[.agg #[.slice none 0 0], .int .i64 0, .int .i64 261]) [] (by kernel_rfl) (by kernel_rfl) al0 ?_
          exact fun w' hw => by rw [sendV_alone q8 hg70 q110]; exact ⟨none, 0, 0, [], rfl, SlO.nil, hw.below, hw.sub (List.nil_sublist _)⟩
        ·
          refine aq [(3, .go (ownps 10 (0 + (posB l k) * 5 + 2) [.int .i64 y70.peer])), (4, .no)] [0, 1] [(11, .bool false)] (acellsP cs34 (0 + (posB l k) * 5 + 2) [.int .i64 y70.peer] ++ ([¬ ((y70.peer : Int) = (0 : Int))])) (fun _ => by kernel_rfl) (alA (rda_part ((hOw34.rdx hnq34 hy70)) 2 _ rfl) (al1 q110)) ?_
          refine done_seq ?_
          refine at_false (by kernel_rfl) ?_
          refine at_skip ?_
          refine done_seq ?_
          refine at_seq ?_
          refine at_ops ?_
          refine oq 5 [(4, .go (ownps 10 (0 + (posB l k) * 5 + 2) [.int .i64 y70.peer]))] [] [(12, .slice (some ⟨g34, 0, none⟩) n cq34), (16, .int .i64 y70.peer)] (acellsP cs34 (0 + (posB l k) * 5 + 2) [.int .i64 y70.peer]) (fun _ => by kernel_rfl) (rda_part ((hOw34.rdx hnq34 hy70)) 2 _ rfl) ?_
          obtain ⟨y140, hg140, hpr140, hpn140⟩ := right_peer q8 hg70 q110
          ·
            have hy140 := (get_pos (ris_asc l 0 (right_ris q8)) hg140).1
            refine ops_callD (.pointer (some ⟨g34, 0 + (posB l y70.peer) * 5, none⟩)) (by kernel_rfl) (by kernel_rfl) (by kernel_rfl) (fun args w => Try.call32 args w) (fun w hw => by have := port_d (some ⟨g34, 0, none⟩) n cq34 l y70.peer w (hO34.atN (A := [_, _, _, _, _, _, _, _, _, _]) hw) hnq34 (by omega) (ris_all (right_ris q8)) (ris_asc l 0 (right_ris q8)); rw [portV_some hg140] at this; exact this) ?_
            refine oq 1 [] [] [(6, .pointer (some ⟨g34, 0 + (posB l y70.peer) * 5, none⟩))] ([]) (fun _ => by kernel_rfl) al0 ?_
            refine ops_nil ?_
            refine done_seq ?_
            refine at_seq ?_
            refine am [(3, .go (ownps 10 (0 + (posB l y70.peer) * 5 + 3) [undef]))] [6] (fun _ => []) (fun _ L => (L.set 10 (bx g34 ((cs34).setIfInBounds (0 + (posB l y70.peer) * 5 + 3) (.bool true)) 40))) (fun _ => [0 + (posB l y70.peer) * 5 + 3 < (cs34).size]) (fun _ => by kernel_rfl) (fun _ => (al1 (hOw34.room hnq34 hy140 (f := 3) (by decide)))) (fun _ => ?_)
            refine done_seq ?_
            refine at_seq ?_
            refine aq [] [] [(4, .pointer (some ⟨g34, 0 + (posB l y70.peer) * 5, none⟩)), (5, .int .i64 0)] ([]) (fun _ => by kernel_rfl) al0 ?_
            refine done_seq ?_
            refine at_back ([]) (.tuple #[.pointer (some ⟨g34, 0 + (posB l y70.peer) * 5, none⟩), .int .i64 0]) [] (by kernel_rfl) (by kernel_rfl) al0 ?_
            refine ops_nil ?_
            refine done_any ?_
            refine any_tk (f := 0) [7, 8, 9, 10, 11] [] [3, 4] [(8, .pointer (some ⟨g34, 0 + (posB l y70.peer) * 5, none⟩)), (9, .int .i64 0)] ([]) #[true, true, true, true, true, true, true, true, true, true, true, true] (by kernel_rfl) (by kernel_rfl) al0 ?_
            refine any_nil (by kernel_rfl) ?_
            refine done_seq ?_
            refine at_seq ?_
            refine at_seq ?_
            refine aq [] [3, 4, 8, 9] [(30, .bool false)] ([]) (fun _ => by kernel_rfl) al0 ?_
            refine done_seq ?_
            refine at_false (by kernel_rfl) ?_
            refine at_skip ?_
            refine done_seq ?_
            refine at_seq ?_
            refine at_calm rfl (by kernel_rfl) (by kernel_rfl) ?_
            refine cm 6 [(1, .go (owns 7 0 1)), (5, .go (ownps 10 (0 + (posB l y70.peer) * 5) [.int .i64 y140.num]))] [4, 8] [(33, .slice p n cap), (37, .int .i64 y140.num)] (acellsP ((cs34).setIfInBounds (0 + (posB l y70.peer) * 5 + 3) (.bool true)) (0 + (posB l y70.peer) * 5) [.int .i64 y140.num]) (by kernel_rfl) rfl (rda_pre (((hOw34.put (x' := (⟨y140.num, y140.vcpu, y140.peer, true, y140.masked⟩ : Port)) hnq34 hy140 (f := 3) (by decide) rfl).rdx (len_set hnq34) (get_set hy140))) _ rfl) ?_
            skip
            ·
              obtain ⟨b148, o148, rfl⟩ := hsl.pos (i := posB l y140.num) (List.getElem?_eq_some_iff.1 (get_pos (ris_asc l 0 (right_ris q8)) (get_self hg140)).1).1
              refine calm_callD (.pointer (some ⟨b148, o148 + (posB l y140.num) * 5, none⟩)) (by kernel_rfl) (by kernel_rfl) (by kernel_rfl) (fun args w => Try.call32 args w) (fun w hw => by have := port_d (some ⟨b148, o148, none⟩) n cap l y140.num w (hsl.kept hw.below) hn (by omega) (ris_all (right_ris q8)) (ris_asc l 0 (right_ris q8)); rw [portV_some (get_self hg140)] at this; exact this) ?_
              refine cm 1 [] [4, 8] [(10, .pointer (some ⟨b148, o148 + (posB l y140.num) * 5, none⟩))] ([]) (by kernel_rfl) rfl al0 ?_
              refine calm_nil' ?_
              refine done_seq ?_
              refine at_seq ?_
              refine at_seq ?_
              refine at_calm rfl (by kernel_rfl) (by kernel_rfl) ?_
              refine cm 3 [(2, .go (ownps 10 (0 + (posB l y70.peer) * 5) [.int .i64 y140.num, .int .i64 y140.vcpu, .int .i64 y140.peer, .bool true, .bool y140.masked]))] [4, 8, 10] [(41, .agg #[.int .i64 y140.num, .int .i64 y140.vcpu, .int .i64 y140.peer, .bool true, .bool y140.masked])] (acellsP ((cs34).setIfInBounds (0 + (posB l y70.peer) * 5 + 3) (.bool true)) (0 + (posB l y70.peer) * 5) [.int .i64 y140.num, .int .i64 y140.vcpu, .int .i64 y140.peer, .bool true, .bool y140.masked]) (by kernel_rfl) rfl (rda_pre (((hOw34.put (x' := (⟨y140.num, y140.vcpu, y140.peer, true, y140.masked⟩ : Port)) hnq34 hy140 (f := 3) (by decide) rfl).rdx (len_set hnq34) (get_set hy140))) _ rfl) ?_
              rcases q151 : (true && !y140.masked) with _ | _
              ·
                refine calm_callD (.bool false) (by kernel_rfl) (by kernel_rfl) (by kernel_rfl) (fun args w => Try.call39 args w) (fun w hw => by have := due_d (⟨y140.num, y140.vcpu, y140.peer, true, y140.masked⟩ : Port) w; rw [show dueB (⟨y140.num, y140.vcpu, y140.peer, true, y140.masked⟩ : Port) = false from q151] at this; exact this) ?_
                refine cm 18 [] [4, 8] [(60, .bool false)] ([]) (by kernel_rfl) rfl al0 ?_
                refine calm_nil' ?_
                refine done_seq ?_
                refine at_false (by kernel_rfl) ?_
                refine at_skip ?_
                refine done_seq ?_
                refine at_seq ?_
                refine aq [] [] [(6, .int .i64 0)] ([]) (fun _ => by kernel_rfl) al0 ?_
                refine done_seq ?_
                refine at_back ([]) (.int .i64 0) [] (by kernel_rfl) (by kernel_rfl) al0 ?_
                refine oq 1 [] [4, 7] [(8, .int .i64 0)] ([]) (fun _ => by kernel_rfl) al0 ?_
                refine ops_nil ?_
                refine done_seq ?_
                refine at_seq ?_
                refine aq [] [4, 7, 8] [(22, .bool false)] ([]) (fun _ => by kernel_rfl) al0 ?_
                refine done_seq ?_
                refine at_false (by kernel_rfl) ?_
                refine at_skip ?_
                refine done_seq ?_
                refine at_seq ?_
                refine am [(0, .go (owns 0 0 1)), (1, .go (owns 1 0 1))] [4] (fun _ => [(5, .int .i64 0)]) (fun _ L => (L.set 1 (bx (γ6 1) (#[.slice (some ⟨g34, 0, none⟩) n cq34]) 24))) (fun _ => []) (fun _ => by kernel_rfl) (fun _ => al0) (fun _ => ?_)
                refine done_seq ?_
                refine at_back (owns 1 0 1) (.tuple #[.agg #[.slice (some ⟨g34, 0, none⟩) n cq34], .int .i64 0]) [] (by kernel_rfl) (by kernel_rfl) al0 ?_
                refine om 6 [(7, .go (owns 0 0 1))] [6, 9] (fun γ157 => [(10, .pointer (some ⟨γ157 0, 0, none⟩)), (11, .int .i64 0)]) (fun γ157 L => bx (γ157 0) (#[.slice (some ⟨g34, 0, none⟩) n cq34]) 24 :: L) (fun γ157 => []) (fun _ => by kernel_rfl) (fun γ157 => al0) (fun γ157 => ?_)
                refine ops_nil ?_
                refine done_seq ?_
                refine at_seq ?_
                refine at_any (by kernel_rfl) ?_
                refine any_tk (f := 5) [2] [] [6, 9, 10] [(20, .int .i64 0)] ([]) #[false, false, true, false, false, false] (by kernel_rfl) (by kernel_rfl) al0 ?_
                refine any_cut 0 #[true, true, true, true, true, true] ([(6, .pointer (some ⟨γ3 3, 0, none⟩)), (7, .int .i64 0), (8, .int .i64 0)]) ([bx (γ157 0) (#[.slice (some ⟨g34, 0, none⟩) n cq34]) 24, bx (γ66 0) (#[.slice (some ⟨g34, 0, none⟩) n cq34]) 24, bx (γ6 1) (#[.slice (some ⟨g34, 0, none⟩) n cq34]) 24, bx (γ6 0) (#[.slice (some ⟨b148, o148, none⟩) n cap]) 24, bx (γ4 0) (#[.int .i64 0]) 3, bx (γ3 3) (#[.slice (some ⟨g34, 0, none⟩) n cq34]) 24, bx (γ3 2) (#[.func (.func 58) #[] #[]]) 75, bx (γ3 1) (#[.int .i64 k]) 3, bx (γ3 0) (#[.slice (some ⟨b148, o148, none⟩) n cap]) 24, bx (γ1 1) (#[.slice none 0 0]) 24, bx (γ1 0) (#[.slice (some ⟨b148, o148, none⟩) n cap]) 24, bx g34 ((cs34).setIfInBounds (0 + (posB l y70.peer) * 5 + 3) (.bool true)) 40]) ?_ (fun hm => ?_)
                rotate_left
                ·
                  refine any_fork [0, 1] (by kernel_rfl) (by simp) (each_cons _ rfl ?_ (each_cons _ rfl ?_ (each_nil)))
                  ·
                    refine oq 1 [(0, .go (owns 0 0 1))] [6, 9, 20] [(18, .agg #[.slice (some ⟨g34, 0, none⟩) n cq34])] ([]) (fun _ => by kernel_rfl) al0 ?_
                    refine ops_nil ?_
                    refine done_any ?_
                    refine any_fork [1, 3] (by kernel_rfl) (by simp) (each_cons _ rfl ?_ (each_cons _ rfl ?_ (each_nil)))
                    ·
                      refine oq 1 [(1, .go (owns 4 0 1))] [6, 18, 20] [(19, .int .i64 0)] ([]) (fun _ => by kernel_rfl) al0 ?_
                      refine ops_nil ?_
                      refine done_any ?_
                      refine any_one 3 _ (by kernel_rfl) rfl ?_
                      refine om 1 [(3, .go (owns 5 0 1))] [6, 19, 20] (fun _ => []) (fun _ L => (L.set 5 (bx (γ3 3) (#[.slice (some ⟨g34, 0, none⟩) n cq34]) 24))) (fun _ => []) (fun _ => by kernel_rfl) (fun _ => al0) (fun _ => ?_)
                      refine ops_nil ?_
                      refine done_any ?_
                      refine any_tk (f := 0) [4, 5] [] [6] [(7, .int .i64 0), (8, .int .i64 0)] ([]) #[true, true, true, true, true, true] (by kernel_rfl) (by kernel_rfl) al0 ?_
                      exact any_weak hm [6, 7, 8] (by kernel_rfl) rfl rfl rfl
                    ·
                      refine om 1 [(3, .go (owns 5 0 1))] [6, 9, 20] (fun _ => []) (fun _ L => (L.set 5 (bx (γ3 3) (#[.slice (some ⟨g34, 0, none⟩) n cq34]) 24))) (fun _ => []) (fun _ => by kernel_rfl) (fun _ => al0) (fun _ => ?_)
                      refine ops_nil ?_
                      refine done_any ?_
                      refine any_one 1 _ (by kernel_rfl) rfl ?_
                      refine oq 1 [(1, .go (owns 4 0 1))] [6, 20] [(19, .int .i64 0)] ([]) (fun _ => by kernel_rfl) al0 ?_
                      refine ops_nil ?_
                      refine done_any ?_
                      refine any_tk (f := 0) [4, 5] [] [6] [(7, .int .i64 0), (8, .int .i64 0)] ([]) #[true, true, true, true, true, true] (by kernel_rfl) (by kernel_rfl) al0 ?_
                      exact any_weak hm [6, 7, 8] (by kernel_rfl) rfl rfl rfl
                  ·
                    refine oq 1 [(1, .go (owns 4 0 1))] [6, 10, 20] [(19, .int .i64 0)] ([]) (fun _ => by kernel_rfl) al0 ?_
                    refine ops_nil ?_
                    refine done_any ?_
                    refine any_one 0 _ (by kernel_rfl) rfl ?_
                    refine oq 1 [(0, .go (owns 0 0 1))] [6, 19, 20] [(18, .agg #[.slice (some ⟨g34, 0, none⟩) n cq34])] ([]) (fun _ => by kernel_rfl) al0 ?_
                    refine ops_nil ?_
                    refine done_any ?_
                    refine any_one 3 _ (by kernel_rfl) rfl ?_
                    refine om 1 [(3, .go (owns 5 0 1))] [6, 19, 20] (fun _ => []) (fun _ L => (L.set 5 (bx (γ3 3) (#[.slice (some ⟨g34, 0, none⟩) n cq34]) 24))) (fun _ => []) (fun _ => by kernel_rfl) (fun _ => al0) (fun _ => ?_)
                    refine ops_nil ?_
                    refine done_any ?_
                    refine any_tk (f := 0) [4, 5] [] [6] [(7, .int .i64 0), (8, .int .i64 0)] ([]) #[true, true, true, true, true, true] (by kernel_rfl) (by kernel_rfl) al0 ?_
                    exact any_weak hm [6, 7, 8] (by kernel_rfl) rfl rfl rfl
                refine any_nil (by kernel_rfl) ?_
                refine done_seq ?_
                refine at_back (owns 5 0 1) (.tuple #[.agg #[.slice (some ⟨g34, 0, none⟩) n cq34], .int .i64 0, .int .i64 0]) [] (by kernel_rfl) (by kernel_rfl) al0 ?_
                refine om 6 [(6, .go (owns 9 0 1))] [4] (fun _ => [(5, .int .i64 0), (6, .int .i64 0)]) (fun _ L => (L.set 9 (bx (γ1 1) (#[.slice (some ⟨g34, 0, none⟩) n cq34]) 24))) (fun _ => []) (fun _ => by kernel_rfl) (fun _ => al0) (fun _ => ?_)
                refine ops_nil ?_
                refine done_seq ?_
                refine at_return (owns 9 0 1) (.tuple #[.agg #[.slice (some ⟨g34, 0, none⟩) n cq34], .int .i64 0, .int .i64 0]) [] (by kernel_rfl) (by kernel_rfl) al0 ?_
                exact fun w' hw => by rw [sendV_ok q8 hg70 q110 hg140, turnP_no (y := y140) (z := (⟨y140.num, y140.vcpu, y140.peer, true, y140.masked⟩ : Port)) (fun ⟨a, _⟩ => absurd (a.symm.trans q151) (by decide)), pos_of hg140]; exact ⟨_, _, _, _, rfl, (SlO.ofOwn (hOw34.put (x' := (⟨y140.num, y140.vcpu, y140.peer, true, y140.masked⟩ : Port)) hnq34 hy140 (f := 3) (by decide) rfl) (len_set hnq34)), hw.below, hw.tailN 11⟩
              ·
                refine calm_callD (.bool true) (by kernel_rfl) (by kernel_rfl) (by kernel_rfl) (fun args w => Try.call39 args w) (fun w hw => by have := due_d (⟨y140.num, y140.vcpu, y140.peer, true, y140.masked⟩ : Port) w; rw [show dueB (⟨y140.num, y140.vcpu, y140.peer, true, y140.masked⟩ : Port) = true from q151] at this; exact this) ?_
                refine cm 4 [(7, .go (outs b148 (o148 + (posB l y140.num) * 5) [.int .i64 y140.num, .int .i64 y140.vcpu, .int .i64 y140.peer, .bool y140.pending, .bool y140.masked]))] [4, 8, 10] [(43, .bool true), (46, .agg #[.int .i64 y140.num, .int .i64 y140.vcpu, .int .i64 y140.peer, .bool y140.pending, .bool y140.masked])] (cellsP w b148 (o148 + (posB l y140.num) * 5) [.int .i64 y140.num, .int .i64 y140.vcpu, .int .i64 y140.peer, .bool y140.pending, .bool y140.masked]) (by kernel_rfl) rfl (rd_pre (hsl.get (get_pos (ris_asc l 0 (right_ris q8)) (get_self hg140)).1) _ rfl) ?_
                rcases q177 : (y140.pending && !y140.masked) with _ | _
                ·
                  refine calm_callD (.bool false) (by kernel_rfl) (by kernel_rfl) (by kernel_rfl) (fun args w => Try.call39 args w) (fun w hw => by have := due_d (⟨y140.num, y140.vcpu, y140.peer, y140.pending, y140.masked⟩ : Port) w; rw [show dueB (⟨y140.num, y140.vcpu, y140.peer, y140.pending, y140.masked⟩ : Port) = false from q177] at this; exact this) ?_
                  refine cm 13 [] [4, 8] [(60, .bool true)] ([]) (by kernel_rfl) rfl al0 ?_
                  refine calm_nil' ?_
                  refine done_seq ?_
                  refine at_true (by kernel_rfl) ?_
                  refine am [(3, .go (ownps 10 (0 + (posB l y70.peer) * 5 + 1) [.int .i64 y140.vcpu])), (4, .go (owns 3 0 1))] [] (fun _ => []) (fun _ L => (L.set 3 (bx (γ4 0) (#[.int .i64 y140.vcpu]) 3))) (fun _ => acellsP ((cs34).setIfInBounds (0 + (posB l y70.peer) * 5 + 3) (.bool true)) (0 + (posB l y70.peer) * 5 + 1) [.int .i64 y140.vcpu]) (fun _ => by kernel_rfl) (fun _ => (rda_part (((hOw34.put (x' := (⟨y140.num, y140.vcpu, y140.peer, true, y140.masked⟩ : Port)) hnq34 hy140 (f := 3) (by decide) rfl).rdx (len_set hnq34) (get_set hy140))) 1 _ rfl)) (fun _ => ?_)
                  refine done_seq ?_
                  refine at_seq ?_
                  refine aq [] [] [(6, .int .i64 0)] ([]) (fun _ => by kernel_rfl) al0 ?_
                  refine done_seq ?_
                  refine at_back ([]) (.int .i64 0) [] (by kernel_rfl) (by kernel_rfl) al0 ?_
                  refine oq 1 [] [4, 7] [(8, .int .i64 0)] ([]) (fun _ => by kernel_rfl) al0 ?_
                  refine ops_nil ?_
                  refine done_seq ?_
                  refine at_seq ?_
                  refine aq [] [4, 7, 8] [(22, .bool false)] ([]) (fun _ => by kernel_rfl) al0 ?_
                  refine done_seq ?_
                  refine at_false (by kernel_rfl) ?_
                  refine at_skip ?_
                  refine done_seq ?_
                  refine at_seq ?_
                  refine am [(0, .go (owns 0 0 1)), (1, .go (owns 1 0 1))] [4] (fun _ => [(5, .int .i64 0)]) (fun _ L => (L.set 1 (bx (γ6 1) (#[.slice (some ⟨g34, 0, none⟩) n cq34]) 24))) (fun _ => []) (fun _ => by kernel_rfl) (fun _ => al0) (fun _ => ?_)
                  refine done_seq ?_
                  refine at_back (owns 1 0 1) (.tuple #[.agg #[.slice (some ⟨g34, 0, none⟩) n cq34], .int .i64 0]) [] (by kernel_rfl) (by kernel_rfl) al0 ?_
                  refine om 6 [(7, .go (owns 0 0 1))] [6, 9] (fun γ184 => [(10, .pointer (some ⟨γ184 0, 0, none⟩)), (11, .int .i64 0)]) (fun γ184 L => bx (γ184 0) (#[.slice (some ⟨g34, 0, none⟩) n cq34]) 24 :: L) (fun γ184 => []) (fun _ => by kernel_rfl) (fun γ184 => al0) (fun γ184 => ?_)
                  refine ops_nil ?_
                  refine done_seq ?_
                  refine at_seq ?_
                  refine at_any (by kernel_rfl) ?_
                  refine any_tk (f := 5) [2] [] [6, 9, 10] [(20, .int .i64 0)] ([]) #[false, false, true, false, false, false] (by kernel_rfl) (by kernel_rfl) al0 ?_
                  refine any_cut 0 #[true, true, true, true, true, true] ([(6, .pointer (some ⟨γ3 3, 0, none⟩)), (7, .int .i64 y140.vcpu), (8, .int .i64 0)]) ([bx (γ184 0) (#[.slice (some ⟨g34, 0, none⟩) n cq34]) 24, bx (γ66 0) (#[.slice (some ⟨g34, 0, none⟩) n cq34]) 24, bx (γ6 1) (#[.slice (some ⟨g34, 0, none⟩) n cq34]) 24, bx (γ6 0) (#[.slice (some ⟨b148, o148, none⟩) n cap]) 24, bx (γ4 0) (#[.int .i64 y140.vcpu]) 3, bx (γ3 3) (#[.slice (some ⟨g34, 0, none⟩) n cq34]) 24, bx (γ3 2) (#[.func (.func 58) #[] #[]]) 75, bx (γ3 1) (#[.int .i64 k]) 3, bx (γ3 0) (#[.slice (some ⟨b148, o148, none⟩) n cap]) 24, bx (γ1 1) (#[.slice none 0 0]) 24, bx (γ1 0) (#[.slice (some ⟨b148, o148, none⟩) n cap]) 24, bx g34 ((cs34).setIfInBounds (0 + (posB l y70.peer) * 5 + 3) (.bool true)) 40]) ?_ (fun hm => ?_)
                  rotate_left
                  ·
                    refine any_fork [0, 1] (by kernel_rfl) (by simp) (each_cons _ rfl ?_ (each_cons _ rfl ?_ (each_nil)))
                    ·
                      refine oq 1 [(0, .go (owns 0 0 1))] [6, 9, 20] [(18, .agg #[.slice (some ⟨g34, 0, none⟩) n cq34])] ([]) (fun _ => by kernel_rfl) al0 ?_
                      refine ops_nil ?_
                      refine done_any ?_
                      refine any_fork [1, 3] (by kernel_rfl) (by simp) (each_cons _ rfl ?_ (each_cons _ rfl ?_ (each_nil)))
                      ·
                        refine oq 1 [(1, .go (owns 4 0 1))] [6, 18, 20] [(19, .int .i64 y140.vcpu)] ([]) (fun _ => by kernel_rfl) al0 ?_
                        refine ops_nil ?_
                        refine done_any ?_
                        refine any_one 3 _ (by kernel_rfl) rfl ?_
                        refine om 1 [(3, .go (owns 5 0 1))] [6, 19, 20] (fun _ => []) (fun _ L => (L.set 5 (bx (γ3 3) (#[.slice (some ⟨g34, 0, none⟩) n cq34]) 24))) (fun _ => []) (fun _ => by kernel_rfl) (fun _ => al0) (fun _ => ?_)
                        refine ops_nil ?_
                        refine done_any ?_
                        refine any_tk (f := 0) [4, 5] [] [6] [(7, .int .i64 y140.vcpu), (8, .int .i64 0)] ([]) #[true, true, true, true, true, true] (by kernel_rfl) (by kernel_rfl) al0 ?_
                        exact any_weak hm [6, 7, 8] (by kernel_rfl) rfl rfl rfl
                      ·
                        refine om 1 [(3, .go (owns 5 0 1))] [6, 9, 20] (fun _ => []) (fun _ L => (L.set 5 (bx (γ3 3) (#[.slice (some ⟨g34, 0, none⟩) n cq34]) 24))) (fun _ => []) (fun _ => by kernel_rfl) (fun _ => al0) (fun _ => ?_)
                        refine ops_nil ?_
                        refine done_any ?_
                        refine any_one 1 _ (by kernel_rfl) rfl ?_
                        refine oq 1 [(1, .go (owns 4 0 1))] [6, 20] [(19, .int .i64 y140.vcpu)] ([]) (fun _ => by kernel_rfl) al0 ?_
                        refine ops_nil ?_
                        refine done_any ?_
                        refine any_tk (f := 0) [4, 5] [] [6] [(7, .int .i64 y140.vcpu), (8, .int .i64 0)] ([]) #[true, true, true, true, true, true] (by kernel_rfl) (by kernel_rfl) al0 ?_
                        exact any_weak hm [6, 7, 8] (by kernel_rfl) rfl rfl rfl
                    ·
                      refine oq 1 [(1, .go (owns 4 0 1))] [6, 10, 20] [(19, .int .i64 y140.vcpu)] ([]) (fun _ => by kernel_rfl) al0 ?_
                      refine ops_nil ?_
                      refine done_any ?_
                      refine any_one 0 _ (by kernel_rfl) rfl ?_
                      refine oq 1 [(0, .go (owns 0 0 1))] [6, 19, 20] [(18, .agg #[.slice (some ⟨g34, 0, none⟩) n cq34])] ([]) (fun _ => by kernel_rfl) al0 ?_
                      refine ops_nil ?_
                      refine done_any ?_
                      refine any_one 3 _ (by kernel_rfl) rfl ?_
                      refine om 1 [(3, .go (owns 5 0 1))] [6, 19, 20] (fun _ => []) (fun _ L => (L.set 5 (bx (γ3 3) (#[.slice (some ⟨g34, 0, none⟩) n cq34]) 24))) (fun _ => []) (fun _ => by kernel_rfl) (fun _ => al0) (fun _ => ?_)
                      refine ops_nil ?_
                      refine done_any ?_
                      refine any_tk (f := 0) [4, 5] [] [6] [(7, .int .i64 y140.vcpu), (8, .int .i64 0)] ([]) #[true, true, true, true, true, true] (by kernel_rfl) (by kernel_rfl) al0 ?_
                      exact any_weak hm [6, 7, 8] (by kernel_rfl) rfl rfl rfl
                  refine any_nil (by kernel_rfl) ?_
                  refine done_seq ?_
                  refine at_back (owns 5 0 1) (.tuple #[.agg #[.slice (some ⟨g34, 0, none⟩) n cq34], .int .i64 y140.vcpu, .int .i64 0]) [] (by kernel_rfl) (by kernel_rfl) al0 ?_
                  refine om 6 [(6, .go (owns 9 0 1))] [4] (fun _ => [(5, .int .i64 y140.vcpu), (6, .int .i64 0)]) (fun _ L => (L.set 9 (bx (γ1 1) (#[.slice (some ⟨g34, 0, none⟩) n cq34]) 24))) (fun _ => []) (fun _ => by kernel_rfl) (fun _ => al0) (fun _ => ?_)
                  refine ops_nil ?_
                  refine done_seq ?_
                  refine at_return (owns 9 0 1) (.tuple #[.agg #[.slice (some ⟨g34, 0, none⟩) n cq34], .int .i64 y140.vcpu, .int .i64 0]) [] (by kernel_rfl) (by kernel_rfl) al0 ?_
                  exact fun w' hw => by rw [sendV_ok q8 hg70 q110 hg140, turnP_yes (y := y140) (z := (⟨y140.num, y140.vcpu, y140.peer, true, y140.masked⟩ : Port)) q151 (.inl q177), pos_of hg140]; exact ⟨_, _, _, _, rfl, (SlO.ofOwn (hOw34.put (x' := (⟨y140.num, y140.vcpu, y140.peer, true, y140.masked⟩ : Port)) hnq34 hy140 (f := 3) (by decide) rfl) (len_set hnq34)), hw.below, hw.tailN 11⟩
                ·
                  refine calm_callD (.bool true) (by kernel_rfl) (by kernel_rfl) (by kernel_rfl) (fun args w => Try.call39 args w) (fun w hw => by have := due_d (⟨y140.num, y140.vcpu, y140.peer, y140.pending, y140.masked⟩ : Port) w; rw [show dueB (⟨y140.num, y140.vcpu, y140.peer, y140.pending, y140.masked⟩ : Port) = true from q177] at this; exact this) ?_
                  refine cm 13 [(14, .go (outs b148 (o148 + (posB l y140.num) * 5 + 1) [.int .i64 y140.vcpu])), (18, .go (ownps 10 (0 + (posB l y70.peer) * 5 + 1) [.int .i64 y140.vcpu])), (19, .no)] [4, 8] [(60, .bool false)] (cellsP w b148 (o148 + (posB l y140.num) * 5 + 1) [.int .i64 y140.vcpu] ++ (acellsP ((cs34).setIfInBounds (0 + (posB l y70.peer) * 5 + 3) (.bool true)) (0 + (posB l y70.peer) * 5 + 1) [.int .i64 y140.vcpu] ++ ([¬ ((y140.vcpu : Int) ≠ (y140.vcpu : Int))]))) (by kernel_rfl) rfl (alA (rd_part (hsl.get (get_pos (ris_asc l 0 (right_ris q8)) (get_self hg140)).1) 1 _ rfl) (alA (rda_part (((hOw34.put (x' := (⟨y140.num, y140.vcpu, y140.peer, true, y140.masked⟩ : Port)) hnq34 hy140 (f := 3) (by decide) rfl).rdx (len_set hnq34) (get_set hy140))) 1 _ rfl) (al1 ((fun h => h rfl))))) ?_
                  refine calm_nil' ?_
                  refine done_seq ?_
                  refine at_false (by kernel_rfl) ?_
                  refine at_skip ?_
                  refine done_seq ?_
                  refine at_seq ?_
                  refine aq [] [] [(6, .int .i64 0)] ([]) (fun _ => by kernel_rfl) al0 ?_
                  refine done_seq ?_
                  refine at_back ([]) (.int .i64 0) [] (by kernel_rfl) (by kernel_rfl) al0 ?_
                  refine oq 1 [] [4, 7] [(8, .int .i64 0)] ([]) (fun _ => by kernel_rfl) al0 ?_
                  refine ops_nil ?_
                  refine done_seq ?_
                  refine at_seq ?_
                  refine aq [] [4, 7, 8] [(22, .bool false)] ([]) (fun _ => by kernel_rfl) al0 ?_
                  refine done_seq ?_
                  refine at_false (by kernel_rfl) ?_
                  refine at_skip ?_
                  refine done_seq ?_
                  refine at_seq ?_
                  refine am [(0, .go (owns 0 0 1)), (1, .go (owns 1 0 1))] [4] (fun _ => [(5, .int .i64 0)]) (fun _ L => (L.set 1 (bx (γ6 1) (#[.slice (some ⟨g34, 0, none⟩) n cq34]) 24))) (fun _ => []) (fun _ => by kernel_rfl) (fun _ => al0) (fun _ => ?_)
                  refine done_seq ?_
                  refine at_back (owns 1 0 1) (.tuple #[.agg #[.slice (some ⟨g34, 0, none⟩) n cq34], .int .i64 0]) [] (by kernel_rfl) (by kernel_rfl) al0 ?_
                  refine om 6 [(7, .go (owns 0 0 1))] [6, 9] (fun γ208 => [(10, .pointer (some ⟨γ208 0, 0, none⟩)), (11, .int .i64 0)]) (fun γ208 L => bx (γ208 0) (#[.slice (some ⟨g34, 0, none⟩) n cq34]) 24 :: L) (fun γ208 => []) (fun _ => by kernel_rfl) (fun γ208 => al0) (fun γ208 => ?_)
                  refine ops_nil ?_
                  refine done_seq ?_
                  refine at_seq ?_
                  refine at_any (by kernel_rfl) ?_
                  refine any_tk (f := 5) [2] [] [6, 9, 10] [(20, .int .i64 0)] ([]) #[false, false, true, false, false, false] (by kernel_rfl) (by kernel_rfl) al0 ?_
                  refine any_cut 0 #[true, true, true, true, true, true] ([(6, .pointer (some ⟨γ3 3, 0, none⟩)), (7, .int .i64 0), (8, .int .i64 0)]) ([bx (γ208 0) (#[.slice (some ⟨g34, 0, none⟩) n cq34]) 24, bx (γ66 0) (#[.slice (some ⟨g34, 0, none⟩) n cq34]) 24, bx (γ6 1) (#[.slice (some ⟨g34, 0, none⟩) n cq34]) 24, bx (γ6 0) (#[.slice (some ⟨b148, o148, none⟩) n cap]) 24, bx (γ4 0) (#[.int .i64 0]) 3, bx (γ3 3) (#[.slice (some ⟨g34, 0, none⟩) n cq34]) 24, bx (γ3 2) (#[.func (.func 58) #[] #[]]) 75, bx (γ3 1) (#[.int .i64 k]) 3, bx (γ3 0) (#[.slice (some ⟨b148, o148, none⟩) n cap]) 24, bx (γ1 1) (#[.slice none 0 0]) 24, bx (γ1 0) (#[.slice (some ⟨b148, o148, none⟩) n cap]) 24, bx g34 ((cs34).setIfInBounds (0 + (posB l y70.peer) * 5 + 3) (.bool true)) 40]) ?_ (fun hm => ?_)
                  rotate_left
                  ·
                    refine any_fork [0, 1] (by kernel_rfl) (by simp) (each_cons _ rfl ?_ (each_cons _ rfl ?_ (each_nil)))
                    ·
                      refine oq 1 [(0, .go (owns 0 0 1))] [6, 9, 20] [(18, .agg #[.slice (some ⟨g34, 0, none⟩) n cq34])] ([]) (fun _ => by kernel_rfl) al0 ?_
                      refine ops_nil ?_
                      refine done_any ?_
                      refine any_fork [1, 3] (by kernel_rfl) (by simp) (each_cons _ rfl ?_ (each_cons _ rfl ?_ (each_nil)))
                      ·
                        refine oq 1 [(1, .go (owns 4 0 1))] [6, 18, 20] [(19, .int .i64 0)] ([]) (fun _ => by kernel_rfl) al0 ?_
                        refine ops_nil ?_
                        refine done_any ?_
                        refine any_one 3 _ (by kernel_rfl) rfl ?_
                        refine om 1 [(3, .go (owns 5 0 1))] [6, 19, 20] (fun _ => []) (fun _ L => (L.set 5 (bx (γ3 3) (#[.slice (some ⟨g34, 0, none⟩) n cq34]) 24))) (fun _ => []) (fun _ => by kernel_rfl) (fun _ => al0) (fun _ => ?_)
                        refine ops_nil ?_
                        refine done_any ?_
                        refine any_tk (f := 0) [4, 5] [] [6] [(7, .int .i64 0), (8, .int .i64 0)] ([]) #[true, true, true, true, true, true] (by kernel_rfl) (by kernel_rfl) al0 ?_
                        exact any_weak hm [6, 7, 8] (by kernel_rfl) rfl rfl rfl
                      ·
                        refine om 1 [(3, .go (owns 5 0 1))] [6, 9, 20] (fun _ => []) (fun _ L => (L.set 5 (bx (γ3 3) (#[.slice (some ⟨g34, 0, none⟩) n cq34]) 24))) (fun _ => []) (fun _ => by kernel_rfl) (fun _ => al0) (fun _ => ?_)
                        refine ops_nil ?_
                        refine done_any ?_
                        refine any_one 1 _ (by kernel_rfl) rfl ?_
                        refine oq 1 [(1, .go (owns 4 0 1))] [6, 20] [(19, .int .i64 0)] ([]) (fun _ => by kernel_rfl) al0 ?_
                        refine ops_nil ?_
                        refine done_any ?_
                        refine any_tk (f := 0) [4, 5] [] [6] [(7, .int .i64 0), (8, .int .i64 0)] ([]) #[true, true, true, true, true, true] (by kernel_rfl) (by kernel_rfl) al0 ?_
                        exact any_weak hm [6, 7, 8] (by kernel_rfl) rfl rfl rfl
                    ·
                      refine oq 1 [(1, .go (owns 4 0 1))] [6, 10, 20] [(19, .int .i64 0)] ([]) (fun _ => by kernel_rfl) al0 ?_
                      refine ops_nil ?_
                      refine done_any ?_
                      refine any_one 0 _ (by kernel_rfl) rfl ?_
                      refine oq 1 [(0, .go (owns 0 0 1))] [6, 19, 20] [(18, .agg #[.slice (some ⟨g34, 0, none⟩) n cq34])] ([]) (fun _ => by kernel_rfl) al0 ?_
                      refine ops_nil ?_
                      refine done_any ?_
                      refine any_one 3 _ (by kernel_rfl) rfl ?_
                      refine om 1 [(3, .go (owns 5 0 1))] [6, 19, 20] (fun _ => []) (fun _ L => (L.set 5 (bx (γ3 3) (#[.slice (some ⟨g34, 0, none⟩) n cq34]) 24))) (fun _ => []) (fun _ => by kernel_rfl) (fun _ => al0) (fun _ => ?_)
                      refine ops_nil ?_
                      refine done_any ?_
                      refine any_tk (f := 0) [4, 5] [] [6] [(7, .int .i64 0), (8, .int .i64 0)] ([]) #[true, true, true, true, true, true] (by kernel_rfl) (by kernel_rfl) al0 ?_
                      exact any_weak hm [6, 7, 8] (by kernel_rfl) rfl rfl rfl
                  refine any_nil (by kernel_rfl) ?_
                  refine done_seq ?_
                  refine at_back (owns 5 0 1) (.tuple #[.agg #[.slice (some ⟨g34, 0, none⟩) n cq34], .int .i64 0, .int .i64 0]) [] (by kernel_rfl) (by kernel_rfl) al0 ?_
                  refine om 6 [(6, .go (owns 9 0 1))] [4] (fun _ => [(5, .int .i64 0), (6, .int .i64 0)]) (fun _ L => (L.set 9 (bx (γ1 1) (#[.slice (some ⟨g34, 0, none⟩) n cq34]) 24))) (fun _ => []) (fun _ => by kernel_rfl) (fun _ => al0) (fun _ => ?_)
                  refine ops_nil ?_
                  refine done_seq ?_
                  refine at_return (owns 9 0 1) (.tuple #[.agg #[.slice (some ⟨g34, 0, none⟩) n cq34], .int .i64 0, .int .i64 0]) [] (by kernel_rfl) (by kernel_rfl) al0 ?_
                  exact fun w' hw => by rw [sendV_ok q8 hg70 q110 hg140, turnP_no (y := y140) (z := (⟨y140.num, y140.vcpu, y140.peer, true, y140.masked⟩ : Port)) (fun ⟨_, b⟩ => b.elim (fun e => absurd (e.symm.trans q177) (by decide)) (fun e => e rfl)), pos_of hg140]; exact ⟨_, _, _, _, rfl, (SlO.ofOwn (hOw34.put (x' := (⟨y140.num, y140.vcpu, y140.peer, true, y140.masked⟩ : Port)) hnq34 hy140 (f := 3) (by decide) rfl) (len_set hnq34)), hw.below, hw.tailN 11⟩
end Go.Proofs.Ytfhlmijdokfdpaa
