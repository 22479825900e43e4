/- event.Open. -/
import Derived.Test.YtfhlmijdokfdpaaPl
import Derived.Test.YtfhlmijdokfdpaaPm
namespace Go.Proofs.Ytfhlmijdokfdpaa
open Go Go.RowKit

set_option maxRecDepth 100000 in
theorem open_d (p : Option Addr) (n cap : Nat) (l : List Port) (own : Int) (w : World)
    (hsl : Sv w p l) (hn : n = l.length) (hb : n ≤ 1000)
    : Calls Try.prog 28 #[.agg #[.slice p n cap], .int .i64 own] w fun e w' => ∃ q m capq Y, e = .returned (.tuple #[.agg #[.slice q m capq], .int .i64 (openV l own).2.1, .int .i64 (openV l own).2.2]) ∧ SlO 40 Y q m capq (openV l own).1 ∧ Below w.heap.size w w' ∧ Hs w Y w' := by
  refine enter (Hs.start w) Try.func28 rfl Try.ntmps28 rfl ?_
  refine at_seq ?_
  refine am [] [] (fun γ1 => [(2, .pointer (some ⟨γ1 0, 0, none⟩)), (3, .pointer (some ⟨γ1 1, 0, none⟩)), (4, .pointer (some ⟨γ1 2, 0, none⟩))]) (fun γ1 L => bx (γ1 2) (#[.slice none 0 0]) 24 :: bx (γ1 1) (#[.int .i64 own]) 3 :: bx (γ1 0) (#[.slice p n cap]) 24 :: L) (fun γ1 => []) (fun _ => by kernel_rfl) (fun γ1 => al0) (fun γ1 => ?_)
  refine done_seq ?_
  refine at_seq ?_
  refine am [(1, .go (owns 0 0 1))] [2, 3, 4] (fun γ2 => [(7, .pointer (some ⟨γ2 0, 0, none⟩))]) (fun γ2 L => bx (γ2 0) (#[.int .i64 0]) 3 :: L) (fun γ2 => []) (fun _ => by kernel_rfl) (fun γ2 => al0) (fun γ2 => ?_)
  refine done_seq ?_
  refine at_seq ?_
  refine at_ops ?_
  refine oq 2 [(0, .go (owns 3 0 1))] [4, 7] [(11, .agg #[.slice p n cap]), (12, .func (.func 55) #[] #[.pointer (some ⟨γ1 1, 0, none⟩), .pointer (some ⟨γ2 0, 0, none⟩)])] ([]) (fun _ => by kernel_rfl) al0 ?_
  refine ops_inline (g := 54) (args := #[.agg #[.slice p n cap], .func (.func 55) #[] #[.pointer (some ⟨γ1 1, 0, none⟩), .pointer (some ⟨γ2 0, 0, none⟩)]]) (by kernel_rfl) (by kernel_rfl) (by kernel_rfl) (fun args w => Try.call54 args w) Try.func54 rfl Try.ntmps54 rfl ?_
  refine at_seq ?_
  refine am [] [1] (fun γ4 => [(2, .pointer (some ⟨γ4 0, 0, none⟩)), (4, .pointer (some ⟨γ4 1, 0, none⟩))]) (fun γ4 L => bx (γ4 1) (#[.slice none 0 0]) 24 :: bx (γ4 0) (#[.slice p n cap]) 24 :: L) (fun γ4 => []) (fun _ => by kernel_rfl) (fun γ4 => al0) (fun γ4 => ?_)
  refine done_seq ?_
  refine at_seq ?_
  refine at_seq ?_
  refine at_ops ?_
  refine oq 1 [(0, .go (owns 1 0 1))] [1, 2, 4] [(9, .agg #[.slice p n cap])] ([]) (fun _ => by kernel_rfl) al0 ?_
  rcases q6 : rightB l with _ | _
  ·
    refine ops_callD (.int .i64 260) (by kernel_rfl) (by kernel_rfl) (by kernel_rfl) (fun args w => Try.call16 args w) (fun w hw => by have := check_d p n cap l w (hsl.kept hw.below) hn hb; rw [q6] at this; exact this) ?_
    refine oq 1 [] [1, 2, 4] [(6, .int .i64 260)] ([]) (fun _ => by kernel_rfl) al0 ?_
    refine ops_nil ?_
    refine done_seq ?_
    refine at_seq ?_
    refine aq [] [1, 2, 4, 6] [(12, .bool true)] ([]) (fun _ => by kernel_rfl) al0 ?_
    refine done_seq ?_
    refine at_true (by kernel_rfl) ?_
    refine at_seq ?_
    refine aq [(2, .go (owns 0 0 1))] [4] [(5, .int .i64 260)] ([]) (fun _ => by kernel_rfl) al0 ?_
    refine done_seq ?_
    refine at_back (owns 0 0 1) (.tuple #[.agg #[.slice none 0 0], .int .i64 260]) [] (by kernel_rfl) (by kernel_rfl) al0 ?_
    refine om 6 [(7, .go (owns 0 0 1))] [4, 7] (fun γ10 => [(8, .pointer (some ⟨γ10 0, 0, none⟩)), (9, .int .i64 260)]) (fun γ10 L => bx (γ10 0) (#[.slice none 0 0]) 24 :: L) (fun γ10 => []) (fun _ => by kernel_rfl) (fun γ10 => al0) (fun γ10 => ?_)
    refine ops_nil ?_
    refine done_seq ?_
    refine at_seq ?_
    refine at_any (by kernel_rfl) ?_
    refine any_tk (f := 5) [2] [] [4, 7, 8] [(18, .int .i64 260)] ([]) #[false, false, true, false, false, false] (by kernel_rfl) (by kernel_rfl) al0 ?_
    refine any_cut 0 #[true, true, true, true, true, true] ([(4, .pointer (some ⟨γ1 2, 0, none⟩)), (5, .int .i64 0), (6, .int .i64 260)]) ([bx (γ10 0) (#[.slice none 0 0]) 24, bx (γ4 1) (#[.slice none 0 0]) 24, bx (γ4 0) (#[.slice p n cap]) 24, bx (γ2 0) (#[.int .i64 0]) 3, bx (γ1 2) (#[.slice none 0 0]) 24, bx (γ1 1) (#[.int .i64 own]) 3, bx (γ1 0) (#[.slice p n cap]) 24]) ?_ (fun hm => ?_)
    rotate_left
    ·
      refine any_fork [0, 1] (by kernel_rfl) (by simp) (each_cons _ rfl ?_ (each_cons _ rfl ?_ (each_nil)))
      ·
        refine oq 1 [(0, .go (owns 0 0 1))] [4, 7, 18] [(16, .agg #[.slice none 0 0])] ([]) (fun _ => by kernel_rfl) al0 ?_
        refine ops_nil ?_
        refine done_any ?_
        refine any_fork [1, 3] (by kernel_rfl) (by simp) (each_cons _ rfl ?_ (each_cons _ rfl ?_ (each_nil)))
        ·
          refine oq 1 [(1, .go (owns 3 0 1))] [4, 16, 18] [(17, .int .i64 0)] ([]) (fun _ => by kernel_rfl) al0 ?_
          refine ops_nil ?_
          refine done_any ?_
          refine any_one 3 _ (by kernel_rfl) rfl ?_
          refine oq 1 [(3, .go (owns 4 0 1))] [4, 17, 18] [] ([]) (fun _ => by kernel_rfl) al0 ?_
          refine ops_nil ?_
          refine done_any ?_
          refine any_tk (f := 0) [4, 5] [] [4] [(5, .int .i64 0), (6, .int .i64 260)] ([]) #[true, true, true, true, true, true] (by kernel_rfl) (by kernel_rfl) al0 ?_
          exact any_weak hm [4, 5, 6] (by kernel_rfl) rfl rfl rfl
        ·
          refine oq 1 [(3, .go (owns 4 0 1))] [4, 7, 18] [] ([]) (fun _ => by kernel_rfl) al0 ?_
          refine ops_nil ?_
          refine done_any ?_
          refine any_one 1 _ (by kernel_rfl) rfl ?_
          refine oq 1 [(1, .go (owns 3 0 1))] [4, 18] [(17, .int .i64 0)] ([]) (fun _ => by kernel_rfl) al0 ?_
          refine ops_nil ?_
          refine done_any ?_
          refine any_tk (f := 0) [4, 5] [] [4] [(5, .int .i64 0), (6, .int .i64 260)] ([]) #[true, true, true, true, true, true] (by kernel_rfl) (by kernel_rfl) al0 ?_
          exact any_weak hm [4, 5, 6] (by kernel_rfl) rfl rfl rfl
      ·
        refine oq 1 [(1, .go (owns 3 0 1))] [4, 8, 18] [(17, .int .i64 0)] ([]) (fun _ => by kernel_rfl) al0 ?_
        refine ops_nil ?_
        refine done_any ?_
        refine any_one 0 _ (by kernel_rfl) rfl ?_
        refine oq 1 [(0, .go (owns 0 0 1))] [4, 17, 18] [(16, .agg #[.slice none 0 0])] ([]) (fun _ => by kernel_rfl) al0 ?_
        refine ops_nil ?_
        refine done_any ?_
        refine any_one 3 _ (by kernel_rfl) rfl ?_
        refine oq 1 [(3, .go (owns 4 0 1))] [4, 17, 18] [] ([]) (fun _ => by kernel_rfl) al0 ?_
        refine ops_nil ?_
        refine done_any ?_
        refine any_tk (f := 0) [4, 5] [] [4] [(5, .int .i64 0), (6, .int .i64 260)] ([]) #[true, true, true, true, true, true] (by kernel_rfl) (by kernel_rfl) al0 ?_
        exact any_weak hm [4, 5, 6] (by kernel_rfl) rfl rfl rfl
    refine any_nil (by kernel_rfl) ?_
    refine done_seq ?_
    refine at_return (owns 4 0 1) (.tuple #[.agg #[.slice none 0 0], .int .i64 0, .int .i64 260]) [] (by kernel_rfl) (by kernel_rfl) al0 ?_
    exact fun w' hw => by rw [openV_bad q6]; exact ⟨none, 0, 0, [], rfl, SlO.nil, hw.below, hw.sub (List.nil_sublist _)⟩
  ·
    refine ops_callD (.int .i64 0) (by kernel_rfl) (by kernel_rfl) (by kernel_rfl) (fun args w => Try.call16 args w) (fun w hw => by have := check_d p n cap l w (hsl.kept hw.below) hn hb; rw [q6] at this; exact this) ?_
    refine oq 1 [] [1, 2, 4] [(6, .int .i64 0)] ([]) (fun _ => by kernel_rfl) al0 ?_
    refine ops_nil ?_
    refine done_seq ?_
    refine at_seq ?_
    refine aq [] [1, 2, 4, 6] [(12, .bool false)] ([]) (fun _ => by kernel_rfl) al0 ?_
    refine done_seq ?_
    refine at_false (by kernel_rfl) ?_
    refine at_skip ?_
    refine done_seq ?_
    refine at_seq ?_
    refine at_ops ?_
    refine oq 2 [(1, .go (owns 1 0 1))] [1, 4] [(16, .slice p n cap)] ([]) (fun _ => by kernel_rfl) al0 ?_
    refine ops_call (fun v L' => ∃ q capq Y, v = .slice q n capq ∧ L' = List.take 6 ([bx (γ4 1) (#[.slice none 0 0]) 24, bx (γ4 0) (#[.slice p n cap]) 24, bx (γ2 0) (#[.int .i64 0]) 3, bx (γ1 2) (#[.slice none 0 0]) 24, bx (γ1 1) (#[.int .i64 own]) 3, bx (γ1 0) (#[.slice p n cap]) 24]) ++ (Y ++ List.drop 6 ([bx (γ4 1) (#[.slice none 0 0]) 24, bx (γ4 0) (#[.slice p n cap]) 24, bx (γ2 0) (#[.int .i64 0]) 3, bx (γ1 2) (#[.slice none 0 0]) 24, bx (γ1 1) (#[.int .i64 own]) 3, bx (γ1 0) (#[.slice p n cap]) 24])) ∧ SlO 40 Y q n capq l) (by kernel_rfl) (by kernel_rfl) (by kernel_rfl) (fun args w => Try.call72 args w) (fun w hw => (clone_d p n cap l w (hsl.kept hw.below) hn (by omega)).mono fun e w' ⟨q, capq, Y, he, hO, hb, hY⟩ => ⟨_, _, he, ⟨q, capq, Y, rfl, rfl, hO⟩, hw.join hb hY 6⟩) ?_
    rintro v31 L31 ⟨q31, cq31, Y31, rfl, rfl, hO31⟩
    have hnq31 := hO31.len
    rcases hO31.parts with ⟨rfl, rfl, hz31⟩ | ⟨g31, cs31, rfl, rfl, hOw31⟩
    ·
      refine om 3 [(5, .go (owns 0 0 1))] [1, 4] (fun γ32 => [(7, .pointer (some ⟨γ32 0, 0, none⟩))]) (fun γ32 L => bx (γ32 0) (#[.slice none n cq31]) 24 :: L) (fun γ32 => []) (fun _ => by kernel_rfl) (fun γ32 => al0) (fun γ32 => ?_)
      refine ops_nil ?_
      refine done_seq ?_
      refine at_seq ?_
      refine at_seq ?_
      refine at_ops ?_
      refine oq 1 [] [4, 7] [(19, .func (.func 55) #[] #[.pointer (some ⟨γ1 1, 0, none⟩), .pointer (some ⟨γ2 0, 0, none⟩)])] ([]) (fun _ => by kernel_rfl) al0 ?_
      refine ops_inline (g := 55) (args := #[.pointer (some ⟨γ32 0, 0, none⟩), .pointer (some ⟨γ1 1, 0, none⟩), .pointer (some ⟨γ2 0, 0, none⟩)]) (by kernel_rfl) (by kernel_rfl) (by kernel_rfl) (fun args w => Try.call55 args w) Try.func55 rfl Try.ntmps55 rfl ?_
      refine at_seq ?_
      refine aq [] [0, 1, 2] [] ([]) (fun _ => by kernel_rfl) al0 ?_
      refine done_seq ?_
      refine at_seq ?_
      refine at_seq ?_
      refine at_ops ?_
      refine oq 1 [(0, .go (owns 5 0 1))] [0, 1, 2] [(6, .int .i64 own)] ([]) (fun _ => by kernel_rfl) al0 ?_
      rcases q36 : vcpuB own with _ | _
      ·
        refine ops_callD (.bool false) (by kernel_rfl) (by kernel_rfl) (by kernel_rfl) (fun args w => Try.call31 args w) (fun w hw => by have := vcpu_d own w; rw [q36] at this; exact this) ?_
        refine oq 1 [] [0, 1, 2] [(8, .bool true)] ([]) (fun _ => by kernel_rfl) al0 ?_
        refine ops_nil ?_
        refine done_seq ?_
        refine at_true (by kernel_rfl) ?_
        refine at_seq ?_
        refine aq [] [] [(4, .int .i64 2)] ([]) (fun _ => by kernel_rfl) al0 ?_
        refine done_seq ?_
        refine at_back ([]) (.int .i64 2) [] (by kernel_rfl) (by kernel_rfl) al0 ?_
        refine oq 1 [] [4, 7] [(8, .int .i64 2)] ([]) (fun _ => by kernel_rfl) al0 ?_
        refine ops_nil ?_
        refine done_seq ?_
        refine at_seq ?_
        refine aq [] [4, 7, 8] [(22, .bool true)] ([]) (fun _ => by kernel_rfl) al0 ?_
        refine done_seq ?_
        refine at_true (by kernel_rfl) ?_
        refine at_seq ?_
        refine aq [(2, .go (owns 1 0 1))] [4] [(5, .int .i64 2)] ([]) (fun _ => by kernel_rfl) al0 ?_
        refine done_seq ?_
        refine at_back (owns 1 0 1) (.tuple #[.agg #[.slice none 0 0], .int .i64 2]) [] (by kernel_rfl) (by kernel_rfl) al0 ?_
        refine om 6 [(7, .go (owns 0 0 1))] [4, 7] (fun γ42 => [(8, .pointer (some ⟨γ42 0, 0, none⟩)), (9, .int .i64 2)]) (fun γ42 L => bx (γ42 0) (#[.slice none 0 0]) 24 :: L) (fun γ42 => []) (fun _ => by kernel_rfl) (fun γ42 => al0) (fun γ42 => ?_)
        refine ops_nil ?_
        refine done_seq ?_
        refine at_seq ?_
        refine at_any (by kernel_rfl) ?_
        refine any_tk (f := 5) [2] [] [4, 7, 8] [(18, .int .i64 2)] ([]) #[false, false, true, false, false, false] (by kernel_rfl) (by kernel_rfl) al0 ?_
        refine any_cut 0 #[true, true, true, true, true, true] ([(4, .pointer (some ⟨γ1 2, 0, none⟩)), (5, .int .i64 0), (6, .int .i64 2)]) ([bx (γ42 0) (#[.slice none 0 0]) 24, bx (γ32 0) (#[.slice none n cq31]) 24, bx (γ4 1) (#[.slice none 0 0]) 24, bx (γ4 0) (#[.slice p n cap]) 24, bx (γ2 0) (#[.int .i64 0]) 3, bx (γ1 2) (#[.slice none 0 0]) 24, bx (γ1 1) (#[.int .i64 own]) 3, bx (γ1 0) (#[.slice p n cap]) 24]) ?_ (fun hm => ?_)
        rotate_left
        ·
          refine any_fork [0, 1] (by kernel_rfl) (by simp) (each_cons _ rfl ?_ (each_cons _ rfl ?_ (each_nil)))
          ·
            refine oq 1 [(0, .go (owns 0 0 1))] [4, 7, 18] [(16, .agg #[.slice none 0 0])] ([]) (fun _ => by kernel_rfl) al0 ?_
            refine ops_nil ?_
            refine done_any ?_
            refine any_fork [1, 3] (by kernel_rfl) (by simp) (each_cons _ rfl ?_ (each_cons _ rfl ?_ (each_nil)))
            ·
              refine oq 1 [(1, .go (owns 4 0 1))] [4, 16, 18] [(17, .int .i64 0)] ([]) (fun _ => by kernel_rfl) al0 ?_
              refine ops_nil ?_
              refine done_any ?_
              refine any_one 3 _ (by kernel_rfl) rfl ?_
              refine oq 1 [(3, .go (owns 5 0 1))] [4, 17, 18] [] ([]) (fun _ => by kernel_rfl) al0 ?_
              refine ops_nil ?_
              refine done_any ?_
              refine any_tk (f := 0) [4, 5] [] [4] [(5, .int .i64 0), (6, .int .i64 2)] ([]) #[true, true, true, true, true, true] (by kernel_rfl) (by kernel_rfl) al0 ?_
              exact any_weak hm [4, 5, 6] (by kernel_rfl) rfl rfl rfl
            ·
              refine oq 1 [(3, .go (owns 5 0 1))] [4, 7, 18] [] ([]) (fun _ => by kernel_rfl) al0 ?_
              refine ops_nil ?_
              refine done_any ?_
              refine any_one 1 _ (by kernel_rfl) rfl ?_
              refine oq 1 [(1, .go (owns 4 0 1))] [4, 18] [(17, .int .i64 0)] ([]) (fun _ => by kernel_rfl) al0 ?_
              refine ops_nil ?_
              refine done_any ?_
              refine any_tk (f := 0) [4, 5] [] [4] [(5, .int .i64 0), (6, .int .i64 2)] ([]) #[true, true, true, true, true, true] (by kernel_rfl) (by kernel_rfl) al0 ?_
              exact any_weak hm [4, 5, 6] (by kernel_rfl) rfl rfl rfl
          ·
            refine oq 1 [(1, .go (owns 4 0 1))] [4, 8, 18] [(17, .int .i64 0)] ([]) (fun _ => by kernel_rfl) al0 ?_
            refine ops_nil ?_
            refine done_any ?_
            refine any_one 0 _ (by kernel_rfl) rfl ?_
            refine oq 1 [(0, .go (owns 0 0 1))] [4, 17, 18] [(16, .agg #[.slice none 0 0])] ([]) (fun _ => by kernel_rfl) al0 ?_
            refine ops_nil ?_
            refine done_any ?_
            refine any_one 3 _ (by kernel_rfl) rfl ?_
            refine oq 1 [(3, .go (owns 5 0 1))] [4, 17, 18] [] ([]) (fun _ => by kernel_rfl) al0 ?_
            refine ops_nil ?_
            refine done_any ?_
            refine any_tk (f := 0) [4, 5] [] [4] [(5, .int .i64 0), (6, .int .i64 2)] ([]) #[true, true, true, true, true, true] (by kernel_rfl) (by kernel_rfl) al0 ?_
            exact any_weak hm [4, 5, 6] (by kernel_rfl) rfl rfl rfl
        refine any_nil (by kernel_rfl) ?_
        refine done_seq ?_
        refine at_return (owns 5 0 1) (.tuple #[.agg #[.slice none 0 0], .int .i64 0, .int .i64 2]) [] (by kernel_rfl) (by kernel_rfl) al0 ?_
        exact fun w' hw => by rw [openV_arg q6 q36]; exact ⟨none, 0, 0, [], rfl, SlO.nil, hw.below, hw.sub (List.nil_sublist _)⟩
      ·
        refine ops_callD (.bool true) (by kernel_rfl) (by kernel_rfl) (by kernel_rfl) (fun args w => Try.call31 args w) (fun w hw => by have := vcpu_d own w; rw [q36] at this; exact this) ?_
        refine oq 1 [] [0, 1, 2] [(8, .bool false)] ([]) (fun _ => by kernel_rfl) al0 ?_
        refine ops_nil ?_
        refine done_seq ?_
        refine at_false (by kernel_rfl) ?_
        refine at_skip ?_
        refine done_seq ?_
        refine at_seq ?_
        refine aq [] [0, 1, 2] [(5, .int .i64 0)] ([]) (fun _ => by kernel_rfl) al0 ?_
        refine done_seq ?_
        refine at_seq ?_
        refine at_block ?_
        refine at_loop (α := Nat) [0, 1, 2, 5] (fun j => [(0, .pointer (some ⟨γ32 0, 0, none⟩)), (1, .pointer (some ⟨γ1 1, 0, none⟩)), (2, .pointer (some ⟨γ2 0, 0, none⟩)), (5, .int .i64 ((j : Nat)))]) (fun j => [bx (γ32 0) (#[.slice none n cq31]) 24, bx (γ4 1) (#[.slice none 0 0]) 24, bx (γ4 0) (#[.slice p n cap]) 24, bx (γ2 0) (#[.int .i64 0]) 3, bx (γ1 2) (#[.slice none 0 0]) 24, bx (γ1 1) (#[.int .i64 own]) 3, bx (γ1 0) (#[.slice p n cap]) 24]) (fun j => j ≤ n ∧ openI (l.drop j) j = openI l 0) (fun j => n - j) 0 (by kernel_rfl) rfl ⟨Nat.zero_le _, by rw [List.drop_zero]⟩ ?_
        rintro j
        rintro ⟨hj, hI⟩
        refine at_seq ?_
        refine at_seq ?_
        refine aq [(4, .go (owns 0 0 1)), (6, .no)] [0, 1, 2, 5] [(28, .bool false)] ([¬ (((j : Nat) : Int) < ((n : Nat) : Int))]) (fun _ => by kernel_rfl) (al1 ((by omega))) ?_
        refine done_seq ?_
        refine at_false (by kernel_rfl) ?_
        refine at_leave _ (by rfl) ?_
        refine done_seq ?_
        refine at_seq ?_
        refine at_seq ?_
        by_cases q64 : ((j : Nat) : Int) = (32 : Int)
        ·
          refine aq [(1, .yes)] [0, 1, 2, 5] [(32, .bool true)] ([((j : Nat) : Int) = (32 : Int)]) (fun _ => by kernel_rfl) (al1 q64) ?_
          refine done_seq ?_
          refine at_true (by kernel_rfl) ?_
          refine at_seq ?_
          refine aq [] [] [(4, .int .i64 6)] ([]) (fun _ => by kernel_rfl) al0 ?_
          refine done_seq ?_
          refine at_back ([]) (.int .i64 6) [] (by kernel_rfl) (by kernel_rfl) al0 ?_
          refine oq 1 [] [4, 7] [(8, .int .i64 6)] ([]) (fun _ => by kernel_rfl) al0 ?_
          refine ops_nil ?_
          refine done_seq ?_
          refine at_seq ?_
          refine aq [] [4, 7, 8] [(22, .bool true)] ([]) (fun _ => by kernel_rfl) al0 ?_
          refine done_seq ?_
          refine at_true (by kernel_rfl) ?_
          refine at_seq ?_
          refine aq [(2, .go (owns 1 0 1))] [4] [(5, .int .i64 6)] ([]) (fun _ => by kernel_rfl) al0 ?_
          refine done_seq ?_
          refine at_back (owns 1 0 1) (.tuple #[.agg #[.slice none 0 0], .int .i64 6]) [] (by kernel_rfl) (by kernel_rfl) al0 ?_
          refine om 6 [(7, .go (owns 0 0 1))] [4, 7] (fun γ70 => [(8, .pointer (some ⟨γ70 0, 0, none⟩)), (9, .int .i64 6)]) (fun γ70 L => bx (γ70 0) (#[.slice none 0 0]) 24 :: L) (fun γ70 => []) (fun _ => by kernel_rfl) (fun γ70 => al0) (fun γ70 => ?_)
          refine ops_nil ?_
          refine done_seq ?_
          refine at_seq ?_
          refine at_any (by kernel_rfl) ?_
          refine any_tk (f := 5) [2] [] [4, 7, 8] [(18, .int .i64 6)] ([]) #[false, false, true, false, false, false] (by kernel_rfl) (by kernel_rfl) al0 ?_
          refine any_cut 0 #[true, true, true, true, true, true] ([(4, .pointer (some ⟨γ1 2, 0, none⟩)), (5, .int .i64 0), (6, .int .i64 6)]) ([bx (γ70 0) (#[.slice none 0 0]) 24, bx (γ32 0) (#[.slice none n cq31]) 24, bx (γ4 1) (#[.slice none 0 0]) 24, bx (γ4 0) (#[.slice p n cap]) 24, bx (γ2 0) (#[.int .i64 0]) 3, bx (γ1 2) (#[.slice none 0 0]) 24, bx (γ1 1) (#[.int .i64 own]) 3, bx (γ1 0) (#[.slice p n cap]) 24]) ?_ (fun hm => ?_)
          rotate_left
          ·
            refine any_fork [0, 1] (by kernel_rfl) (by simp) (each_cons _ rfl ?_ (each_cons _ rfl ?_ (each_nil)))
            ·
              refine oq 1 [(0, .go (owns 0 0 1))] [4, 7, 18] [(16, .agg #[.slice none 0 0])] ([]) (fun _ => by kernel_rfl) al0 ?_
              refine ops_nil ?_
              refine done_any ?_
              refine any_fork [1, 3] (by kernel_rfl) (by simp) (each_cons _ rfl ?_ (each_cons _ rfl ?_ (each_nil)))
              ·
                refine oq 1 [(1, .go (owns 4 0 1))] [4, 16, 18] [(17, .int .i64 0)] ([]) (fun _ => by kernel_rfl) al0 ?_
                refine ops_nil ?_
                refine done_any ?_
                refine any_one 3 _ (by kernel_rfl) rfl ?_
                refine oq 1 [(3, .go (owns 5 0 1))] [4, 17, 18] [] ([]) (fun _ => by kernel_rfl) al0 ?_
                refine ops_nil ?_
                refine done_any ?_
                refine any_tk (f := 0) [4, 5] [] [4] [(5, .int .i64 0), (6, .int .i64 6)] ([]) #[true, true, true, true, true, true] (by kernel_rfl) (by kernel_rfl) al0 ?_
                exact any_weak hm [4, 5, 6] (by kernel_rfl) rfl rfl rfl
              ·
                refine oq 1 [(3, .go (owns 5 0 1))] [4, 7, 18] [] ([]) (fun _ => by kernel_rfl) al0 ?_
                refine ops_nil ?_
                refine done_any ?_
                refine any_one 1 _ (by kernel_rfl) rfl ?_
                refine oq 1 [(1, .go (owns 4 0 1))] [4, 18] [(17, .int .i64 0)] ([]) (fun _ => by kernel_rfl) al0 ?_
                refine ops_nil ?_
                refine done_any ?_
                refine any_tk (f := 0) [4, 5] [] [4] [(5, .int .i64 0), (6, .int .i64 6)] ([]) #[true, true, true, true, true, true] (by kernel_rfl) (by kernel_rfl) al0 ?_
                exact any_weak hm [4, 5, 6] (by kernel_rfl) rfl rfl rfl
            ·
              refine oq 1 [(1, .go (owns 4 0 1))] [4, 8, 18] [(17, .int .i64 0)] ([]) (fun _ => by kernel_rfl) al0 ?_
              refine ops_nil ?_
              refine done_any ?_
              refine any_one 0 _ (by kernel_rfl) rfl ?_
              refine oq 1 [(0, .go (owns 0 0 1))] [4, 17, 18] [(16, .agg #[.slice none 0 0])] ([]) (fun _ => by kernel_rfl) al0 ?_
              refine ops_nil ?_
              refine done_any ?_
              refine any_one 3 _ (by kernel_rfl) rfl ?_
              refine oq 1 [(3, .go (owns 5 0 1))] [4, 17, 18] [] ([]) (fun _ => by kernel_rfl) al0 ?_
              refine ops_nil ?_
              refine done_any ?_
              refine any_tk (f := 0) [4, 5] [] [4] [(5, .int .i64 0), (6, .int .i64 6)] ([]) #[true, true, true, true, true, true] (by kernel_rfl) (by kernel_rfl) al0 ?_
              exact any_weak hm [4, 5, 6] (by kernel_rfl) rfl rfl rfl
          refine any_nil (by kernel_rfl) ?_
          refine done_seq ?_
          refine at_return (owns 5 0 1) (.tuple #[.agg #[.slice none 0 0], .int .i64 0, .int .i64 6]) [] (by kernel_rfl) (by kernel_rfl) al0 ?_
          exact fun w' hw => by rw [openV_full q6 q36 (open_end hI (by omega)) q64]; exact ⟨none, 0, 0, [], rfl, SlO.nil, hw.below, hw.sub (List.nil_sublist _)⟩
        ·
          refine aq [(1, .no)] [0, 1, 2, 5] [(32, .bool false)] ([¬ (((j : Nat) : Int) = (32 : Int))]) (fun _ => by kernel_rfl) (al1 q64) ?_
          refine done_seq ?_
          refine at_false (by kernel_rfl) ?_
          refine at_skip ?_
          refine done_seq ?_
          refine at_seq ?_
          refine am [(1, .fit), (2, .go (owns 3 0 1))] [0, 1, 2, 5] (fun _ => []) (fun _ L => (L.set 3 (bx (γ2 0) (#[.int .i64 ((j + 1 : Nat))]) 3))) (fun _ => [Fit .i64 ((j + 1 : Nat))]) (fun _ => by kernel_rfl) (fun _ => (al1 (fit64 (by omega) (by omega)))) (fun _ => ?_)
          refine done_seq ?_
          refine at_seq ?_
          refine at_any (by kernel_rfl) ?_
          refine any_tk (f := 9) [0, 1, 2, 3, 5] [] [1, 2] [(35, .pointer (some ⟨γ32 0, 0, none⟩)), (38, .pointer (some ⟨γ32 0, 0, none⟩)), (40, .int .i64 ((j : Nat)))] ([]) #[true, true, true, true, false, true, false, false, false, false, false, false, false, false] (by kernel_rfl) (by kernel_rfl) al0 ?_
          refine any_cutG 4 #[true, true, true, true, true, true, true, true, true, true, false, false, false, false] (fun γ96 => [(35, .pointer (some ⟨γ32 0, 0, none⟩)), (39, .slice none n cq31), (40, .int .i64 ((j : Nat))), (44, .slice (some ⟨γ96 0, 0, none⟩) 1 1)]) (fun γ96 => [bx (γ96 0) (#[.int .i64 ((j + 1 : Nat)), .int .i64 own, .int .i64 0, .bool false, .bool false]) 40, bx (γ32 0) (#[.slice none n cq31]) 24, bx (γ4 1) (#[.slice none 0 0]) 24, bx (γ4 0) (#[.slice p n cap]) 24, bx (γ2 0) (#[.int .i64 ((j + 1 : Nat))]) 3, bx (γ1 2) (#[.slice none 0 0]) 24, bx (γ1 1) (#[.int .i64 own]) 3, bx (γ1 0) (#[.slice p n cap]) 24]) (fun γ96 => ?_) (fun hm => ?_)
          rotate_left
          ·
            refine any_fork [4, 6, 7] (by kernel_rfl) (by simp) (each_cons _ rfl ?_ (each_cons _ rfl ?_ (each_cons _ rfl ?_ (each_nil))))
            ·
              refine oq 1 [(4, .go (owns 0 0 1))] [1, 2, 35, 40] [(39, .slice none n cq31)] ([]) (fun _ => by kernel_rfl) al0 ?_
              refine ops_nil ?_
              refine done_any ?_
              refine any_fork [6, 7] (by kernel_rfl) (by simp) (each_cons _ rfl ?_ (each_cons _ rfl ?_ (each_nil)))
              ·
                refine oq 1 [(6, .go (owns 3 0 1))] [1, 35, 39, 40] [(41, .int .i64 ((j + 1 : Nat)))] ([]) (fun _ => by kernel_rfl) al0 ?_
                refine ops_nil ?_
                refine done_any ?_
                refine any_one 7 _ (by kernel_rfl) rfl ?_
                refine oq 1 [(7, .go (owns 5 0 1))] [35, 39, 40, 41] [(42, .int .i64 own)] ([]) (fun _ => by kernel_rfl) al0 ?_
                refine ops_nil ?_
                refine done_any ?_
                refine any_tk (f := 5) [8] [] [35, 39, 40] [(43, .agg #[.int .i64 ((j + 1 : Nat)), .int .i64 own, .int .i64 0, .bool false, .bool false])] ([]) #[true, true, true, true, true, true, true, true, true, false, false, false, false, false] (by kernel_rfl) (by kernel_rfl) al0 ?_
                refine any_one 9 _ (by kernel_rfl) rfl ?_
                refine om 1 [] [35, 39, 40] (fun γ101 => [(44, .slice (some ⟨γ101 0, 0, none⟩) 1 1)]) (fun γ101 L => bx (γ101 0) (#[.int .i64 ((j + 1 : Nat)), .int .i64 own, .int .i64 0, .bool false, .bool false]) 40 :: L) (fun γ101 => []) (fun _ => by kernel_rfl) (fun γ101 => al0) (fun γ101 => ?_)
                refine ops_nil ?_
                refine done_any ?_
                exact any_weak (hm fun i => [γ101 0].getD i 0) [35, 39, 40, 44] (by kernel_rfl) rfl rfl rfl
              ·
                refine oq 1 [(7, .go (owns 5 0 1))] [2, 35, 39, 40] [(42, .int .i64 own)] ([]) (fun _ => by kernel_rfl) al0 ?_
                refine ops_nil ?_
                refine done_any ?_
                refine any_one 6 _ (by kernel_rfl) rfl ?_
                refine oq 1 [(6, .go (owns 3 0 1))] [35, 39, 40, 42] [(41, .int .i64 ((j + 1 : Nat)))] ([]) (fun _ => by kernel_rfl) al0 ?_
                refine ops_nil ?_
                refine done_any ?_
                refine any_tk (f := 5) [8] [] [35, 39, 40] [(43, .agg #[.int .i64 ((j + 1 : Nat)), .int .i64 own, .int .i64 0, .bool false, .bool false])] ([]) #[true, true, true, true, true, true, true, true, true, false, false, false, false, false] (by kernel_rfl) (by kernel_rfl) al0 ?_
                refine any_one 9 _ (by kernel_rfl) rfl ?_
                refine om 1 [] [35, 39, 40] (fun γ105 => [(44, .slice (some ⟨γ105 0, 0, none⟩) 1 1)]) (fun γ105 L => bx (γ105 0) (#[.int .i64 ((j + 1 : Nat)), .int .i64 own, .int .i64 0, .bool false, .bool false]) 40 :: L) (fun γ105 => []) (fun _ => by kernel_rfl) (fun γ105 => al0) (fun γ105 => ?_)
                refine ops_nil ?_
                refine done_any ?_
                exact any_weak (hm fun i => [γ105 0].getD i 0) [35, 39, 40, 44] (by kernel_rfl) rfl rfl rfl
            ·
              refine oq 1 [(6, .go (owns 3 0 1))] [1, 35, 38, 40] [(41, .int .i64 ((j + 1 : Nat)))] ([]) (fun _ => by kernel_rfl) al0 ?_
              refine ops_nil ?_
              refine done_any ?_
              refine any_fork [4, 7] (by kernel_rfl) (by simp) (each_cons _ rfl ?_ (each_cons _ rfl ?_ (each_nil)))
              ·
                refine oq 1 [(4, .go (owns 0 0 1))] [1, 35, 40, 41] [(39, .slice none n cq31)] ([]) (fun _ => by kernel_rfl) al0 ?_
                refine ops_nil ?_
                refine done_any ?_
                refine any_one 7 _ (by kernel_rfl) rfl ?_
                refine oq 1 [(7, .go (owns 5 0 1))] [35, 39, 40, 41] [(42, .int .i64 own)] ([]) (fun _ => by kernel_rfl) al0 ?_
                refine ops_nil ?_
                refine done_any ?_
                refine any_tk (f := 5) [8] [] [35, 39, 40] [(43, .agg #[.int .i64 ((j + 1 : Nat)), .int .i64 own, .int .i64 0, .bool false, .bool false])] ([]) #[true, true, true, true, true, true, true, true, true, false, false, false, false, false] (by kernel_rfl) (by kernel_rfl) al0 ?_
                refine any_one 9 _ (by kernel_rfl) rfl ?_
                refine om 1 [] [35, 39, 40] (fun γ110 => [(44, .slice (some ⟨γ110 0, 0, none⟩) 1 1)]) (fun γ110 L => bx (γ110 0) (#[.int .i64 ((j + 1 : Nat)), .int .i64 own, .int .i64 0, .bool false, .bool false]) 40 :: L) (fun γ110 => []) (fun _ => by kernel_rfl) (fun γ110 => al0) (fun γ110 => ?_)
                refine ops_nil ?_
                refine done_any ?_
                exact any_weak (hm fun i => [γ110 0].getD i 0) [35, 39, 40, 44] (by kernel_rfl) rfl rfl rfl
              ·
                refine oq 1 [(7, .go (owns 5 0 1))] [35, 38, 40, 41] [(42, .int .i64 own)] ([]) (fun _ => by kernel_rfl) al0 ?_
                refine ops_nil ?_
                refine done_any ?_
                refine any_tk (f := 6) [8] [] [35, 38, 40] [(43, .agg #[.int .i64 ((j + 1 : Nat)), .int .i64 own, .int .i64 0, .bool false, .bool false])] ([]) #[true, true, true, true, false, true, true, true, true, false, false, false, false, false] (by kernel_rfl) (by kernel_rfl) al0 ?_
                refine any_fork [4, 9] (by kernel_rfl) (by simp) (each_cons _ rfl ?_ (each_cons _ rfl ?_ (each_nil)))
                ·
                  refine oq 1 [(4, .go (owns 0 0 1))] [35, 40, 43] [(39, .slice none n cq31)] ([]) (fun _ => by kernel_rfl) al0 ?_
                  refine ops_nil ?_
                  refine done_any ?_
                  refine any_one 9 _ (by kernel_rfl) rfl ?_
                  refine om 1 [] [35, 39, 40] (fun γ114 => [(44, .slice (some ⟨γ114 0, 0, none⟩) 1 1)]) (fun γ114 L => bx (γ114 0) (#[.int .i64 ((j + 1 : Nat)), .int .i64 own, .int .i64 0, .bool false, .bool false]) 40 :: L) (fun γ114 => []) (fun _ => by kernel_rfl) (fun γ114 => al0) (fun γ114 => ?_)
                  refine ops_nil ?_
                  refine done_any ?_
                  exact any_weak (hm fun i => [γ114 0].getD i 0) [35, 39, 40, 44] (by kernel_rfl) rfl rfl rfl
                ·
                  refine om 1 [] [35, 38, 40] (fun γ115 => [(44, .slice (some ⟨γ115 0, 0, none⟩) 1 1)]) (fun γ115 L => bx (γ115 0) (#[.int .i64 ((j + 1 : Nat)), .int .i64 own, .int .i64 0, .bool false, .bool false]) 40 :: L) (fun γ115 => []) (fun _ => by kernel_rfl) (fun γ115 => al0) (fun γ115 => ?_)
                  refine ops_nil ?_
                  refine done_any ?_
                  refine any_one 4 _ (by kernel_rfl) rfl ?_
                  refine oq 1 [(4, .go (owns 1 0 1))] [35, 40, 44] [(39, .slice none n cq31)] ([]) (fun _ => by kernel_rfl) al0 ?_
                  refine ops_nil ?_
                  refine done_any ?_
                  exact any_weak (hm fun i => [γ115 0].getD i 0) [35, 39, 40, 44] (by kernel_rfl) rfl rfl rfl
            ·
              refine oq 1 [(7, .go (owns 5 0 1))] [2, 35, 38, 40] [(42, .int .i64 own)] ([]) (fun _ => by kernel_rfl) al0 ?_
              refine ops_nil ?_
              refine done_any ?_
              refine any_fork [4, 6] (by kernel_rfl) (by simp) (each_cons _ rfl ?_ (each_cons _ rfl ?_ (each_nil)))
              ·
                refine oq 1 [(4, .go (owns 0 0 1))] [2, 35, 40, 42] [(39, .slice none n cq31)] ([]) (fun _ => by kernel_rfl) al0 ?_
                refine ops_nil ?_
                refine done_any ?_
                refine any_one 6 _ (by kernel_rfl) rfl ?_
                refine oq 1 [(6, .go (owns 3 0 1))] [35, 39, 40, 42] [(41, .int .i64 ((j + 1 : Nat)))] ([]) (fun _ => by kernel_rfl) al0 ?_
                refine ops_nil ?_
                refine done_any ?_
                refine any_tk (f := 5) [8] [] [35, 39, 40] [(43, .agg #[.int .i64 ((j + 1 : Nat)), .int .i64 own, .int .i64 0, .bool false, .bool false])] ([]) #[true, true, true, true, true, true, true, true, true, false, false, false, false, false] (by kernel_rfl) (by kernel_rfl) al0 ?_
                refine any_one 9 _ (by kernel_rfl) rfl ?_
                refine om 1 [] [35, 39, 40] (fun γ121 => [(44, .slice (some ⟨γ121 0, 0, none⟩) 1 1)]) (fun γ121 L => bx (γ121 0) (#[.int .i64 ((j + 1 : Nat)), .int .i64 own, .int .i64 0, .bool false, .bool false]) 40 :: L) (fun γ121 => []) (fun _ => by kernel_rfl) (fun γ121 => al0) (fun γ121 => ?_)
                refine ops_nil ?_
                refine done_any ?_
                exact any_weak (hm fun i => [γ121 0].getD i 0) [35, 39, 40, 44] (by kernel_rfl) rfl rfl rfl
              ·
                refine oq 1 [(6, .go (owns 3 0 1))] [35, 38, 40, 42] [(41, .int .i64 ((j + 1 : Nat)))] ([]) (fun _ => by kernel_rfl) al0 ?_
                refine ops_nil ?_
                refine done_any ?_
                refine any_tk (f := 6) [8] [] [35, 38, 40] [(43, .agg #[.int .i64 ((j + 1 : Nat)), .int .i64 own, .int .i64 0, .bool false, .bool false])] ([]) #[true, true, true, true, false, true, true, true, true, false, false, false, false, false] (by kernel_rfl) (by kernel_rfl) al0 ?_
                refine any_fork [4, 9] (by kernel_rfl) (by simp) (each_cons _ rfl ?_ (each_cons _ rfl ?_ (each_nil)))
                ·
                  refine oq 1 [(4, .go (owns 0 0 1))] [35, 40, 43] [(39, .slice none n cq31)] ([]) (fun _ => by kernel_rfl) al0 ?_
                  refine ops_nil ?_
                  refine done_any ?_
                  refine any_one 9 _ (by kernel_rfl) rfl ?_
                  refine om 1 [] [35, 39, 40] (fun γ125 => [(44, .slice (some ⟨γ125 0, 0, none⟩) 1 1)]) (fun γ125 L => bx (γ125 0) (#[.int .i64 ((j + 1 : Nat)), .int .i64 own, .int .i64 0, .bool false, .bool false]) 40 :: L) (fun γ125 => []) (fun _ => by kernel_rfl) (fun γ125 => al0) (fun γ125 => ?_)
                  refine ops_nil ?_
                  refine done_any ?_
                  exact any_weak (hm fun i => [γ125 0].getD i 0) [35, 39, 40, 44] (by kernel_rfl) rfl rfl rfl
                ·
                  refine om 1 [] [35, 38, 40] (fun γ126 => [(44, .slice (some ⟨γ126 0, 0, none⟩) 1 1)]) (fun γ126 L => bx (γ126 0) (#[.int .i64 ((j + 1 : Nat)), .int .i64 own, .int .i64 0, .bool false, .bool false]) 40 :: L) (fun γ126 => []) (fun _ => by kernel_rfl) (fun γ126 => al0) (fun γ126 => ?_)
                  refine ops_nil ?_
                  refine done_any ?_
                  refine any_one 4 _ (by kernel_rfl) rfl ?_
                  refine oq 1 [(4, .go (owns 1 0 1))] [35, 40, 44] [(39, .slice none n cq31)] ([]) (fun _ => by kernel_rfl) al0 ?_
                  refine ops_nil ?_
                  refine done_any ?_
                  exact any_weak (hm fun i => [γ126 0].getD i 0) [35, 39, 40, 44] (by kernel_rfl) rfl rfl rfl
          refine any_one 10 _ (by kernel_rfl) rfl ?_
          refine ops_call (fun v L' => ∃ q capq Y, v = .slice q (n + 1) capq ∧ L' = [bx (γ32 0) (#[.slice none n cq31]) 24, bx (γ4 1) (#[.slice none 0 0]) 24, bx (γ4 0) (#[.slice p n cap]) 24, bx (γ2 0) (#[.int .i64 ((j + 1 : Nat))]) 3, bx (γ1 2) (#[.slice none 0 0]) 24, bx (γ1 1) (#[.int .i64 own]) 3, bx (γ1 0) (#[.slice p n cap]) 24] ++ (Y ++ []) ∧ SlO 40 Y q (n + 1) capq (l.take j ++ [⟨(j + 1 : Nat), own, 0, false, false⟩] ++ l.drop j)) (by kernel_rfl) (by kernel_rfl) (by kernel_rfl) (fun args w => Try.call56 args w) (fun w hw => (insert_d _ ([bx (γ32 0) (#[.slice none n cq31]) 24, bx (γ4 1) (#[.slice none 0 0]) 24, bx (γ4 0) (#[.slice p n cap]) 24, bx (γ2 0) (#[.int .i64 ((j + 1 : Nat))]) 3, bx (γ1 2) (#[.slice none 0 0]) 24, bx (γ1 1) (#[.int .i64 own]) 3, bx (γ1 0) (#[.slice p n cap]) 24] ++ []) [] none n cq31 l j (γ96 0) (#[.int .i64 ((j + 1 : Nat)), .int .i64 own, .int .i64 0, .bool false, .bool false]) 1 ([⟨(j + 1 : Nat), own, 0, false, false⟩]) w (hw.pull (A := [bx (γ32 0) (#[.slice none n cq31]) 24, bx (γ4 1) (#[.slice none 0 0]) 24, bx (γ4 0) (#[.slice p n cap]) 24, bx (γ2 0) (#[.int .i64 ((j + 1 : Nat))]) 3, bx (γ1 2) (#[.slice none 0 0]) 24, bx (γ1 1) (#[.int .i64 own]) 3, bx (γ1 0) (#[.slice p n cap]) 24]) (Y := []) (R := [])) hO31 (by rfl) (by rfl) (by omega) (by omega) (by omega) (by omega)).mono fun e w' ⟨q, capq, Y', he, hO, hY⟩ => ⟨_, _, he, ⟨q, capq, Y', rfl, rfl, hO⟩, hY.push⟩) ?_
          rintro v128 L128 ⟨q128, cq128, Y128, rfl, rfl, hO128⟩
          refine ops_nil ?_
          refine done_any ?_
          refine any_tk (f := 1) [11, 12] [] [45] [(47, .pointer (some ⟨γ32 0, 0, none⟩))] ([]) #[true, true, true, true, true, true, true, true, true, true, true, true, true, false] (by kernel_rfl) (by kernel_rfl) al0 ?_
          refine any_one 13 _ (by kernel_rfl) rfl ?_
          refine om 1 [(13, .go (owns 0 0 1))] [] (fun _ => []) (fun _ L => (L.set 0 (bx (γ32 0) (#[.slice q128 (n + 1) cq128]) 24))) (fun _ => []) (fun _ => by kernel_rfl) (fun _ => al0) (fun _ => ?_)
          refine ops_nil ?_
          refine done_any ?_
          refine any_nil (by kernel_rfl) ?_
          refine done_seq ?_
          refine at_seq ?_
          refine aq [] [] [(4, .int .i64 0)] ([]) (fun _ => by kernel_rfl) al0 ?_
          refine done_seq ?_
          refine at_back ([]) (.int .i64 0) [] (by kernel_rfl) (by kernel_rfl) al0 ?_
          refine oq 1 [] [4, 7] [(8, .int .i64 0)] ([]) (fun _ => by kernel_rfl) al0 ?_
          refine ops_nil ?_
          refine done_seq ?_
          refine at_seq ?_
          refine aq [] [4, 7, 8] [(22, .bool false)] ([]) (fun _ => by kernel_rfl) al0 ?_
          refine done_seq ?_
          refine at_false (by kernel_rfl) ?_
          refine at_skip ?_
          refine done_seq ?_
          refine at_seq ?_
          refine am [(0, .go (owns 0 0 1)), (1, .go (owns 1 0 1))] [4] (fun _ => [(5, .int .i64 0)]) (fun _ L => (L.set 1 (bx (γ4 1) (#[.slice q128 (n + 1) cq128]) 24))) (fun _ => []) (fun _ => by kernel_rfl) (fun _ => al0) (fun _ => ?_)
          refine done_seq ?_
          refine at_back (owns 1 0 1) (.tuple #[.agg #[.slice q128 (n + 1) cq128], .int .i64 0]) [] (by kernel_rfl) (by kernel_rfl) al0 ?_
          refine om 6 [(7, .go (owns 0 0 1))] [4, 7] (fun γ135 => [(8, .pointer (some ⟨γ135 0, 0, none⟩)), (9, .int .i64 0)]) (fun γ135 L => bx (γ135 0) (#[.slice q128 (n + 1) cq128]) 24 :: L) (fun γ135 => []) (fun _ => by kernel_rfl) (fun γ135 => al0) (fun γ135 => ?_)
          refine ops_nil ?_
          refine done_seq ?_
          refine at_seq ?_
          refine at_any (by kernel_rfl) ?_
          refine any_tk (f := 5) [2] [] [4, 7, 8] [(18, .int .i64 0)] ([]) #[false, false, true, false, false, false] (by kernel_rfl) (by kernel_rfl) al0 ?_
          refine any_cut 0 #[true, true, true, true, true, true] ([(4, .pointer (some ⟨γ1 2, 0, none⟩)), (5, .int .i64 ((j + 1 : Nat))), (6, .int .i64 0)]) (bx (γ135 0) (#[.slice q128 (n + 1) cq128]) 24 :: bx (γ32 0) (#[.slice q128 (n + 1) cq128]) 24 :: bx (γ4 1) (#[.slice q128 (n + 1) cq128]) 24 :: bx (γ4 0) (#[.slice p n cap]) 24 :: bx (γ2 0) (#[.int .i64 ((j + 1 : Nat))]) 3 :: bx (γ1 2) (#[.slice q128 (n + 1) cq128]) 24 :: bx (γ1 1) (#[.int .i64 own]) 3 :: bx (γ1 0) (#[.slice p n cap]) 24 :: (Y128 ++ [])) ?_ (fun hm => ?_)
          rotate_left
          ·
            refine any_fork [0, 1] (by kernel_rfl) (by simp) (each_cons _ rfl ?_ (each_cons _ rfl ?_ (each_nil)))
            ·
              refine oq 1 [(0, .go (owns 0 0 1))] [4, 7, 18] [(16, .agg #[.slice q128 (n + 1) cq128])] ([]) (fun _ => by kernel_rfl) al0 ?_
              refine ops_nil ?_
              refine done_any ?_
              refine any_fork [1, 3] (by kernel_rfl) (by simp) (each_cons _ rfl ?_ (each_cons _ rfl ?_ (each_nil)))
              ·
                refine oq 1 [(1, .go (owns 4 0 1))] [4, 16, 18] [(17, .int .i64 ((j + 1 : Nat)))] ([]) (fun _ => by kernel_rfl) al0 ?_
                refine ops_nil ?_
                refine done_any ?_
                refine any_one 3 _ (by kernel_rfl) rfl ?_
                refine om 1 [(3, .go (owns 5 0 1))] [4, 17, 18] (fun _ => []) (fun _ L => (L.set 5 (bx (γ1 2) (#[.slice q128 (n + 1) cq128]) 24))) (fun _ => []) (fun _ => by kernel_rfl) (fun _ => al0) (fun _ => ?_)
                refine ops_nil ?_
                refine done_any ?_
                refine any_tk (f := 0) [4, 5] [] [4] [(5, .int .i64 ((j + 1 : Nat))), (6, .int .i64 0)] ([]) #[true, true, true, true, true, true] (by kernel_rfl) (by kernel_rfl) al0 ?_
                exact any_weak hm [4, 5, 6] (by kernel_rfl) rfl rfl rfl
              ·
                refine om 1 [(3, .go (owns 5 0 1))] [4, 7, 18] (fun _ => []) (fun _ L => (L.set 5 (bx (γ1 2) (#[.slice q128 (n + 1) cq128]) 24))) (fun _ => []) (fun _ => by kernel_rfl) (fun _ => al0) (fun _ => ?_)
                refine ops_nil ?_
                refine done_any ?_
                refine any_one 1 _ (by kernel_rfl) rfl ?_
                refine oq 1 [(1, .go (owns 4 0 1))] [4, 18] [(17, .int .i64 ((j + 1 : Nat)))] ([]) (fun _ => by kernel_rfl) al0 ?_
                refine ops_nil ?_
                refine done_any ?_
                refine any_tk (f := 0) [4, 5] [] [4] [(5, .int .i64 ((j + 1 : Nat))), (6, .int .i64 0)] ([]) #[true, true, true, true, true, true] (by kernel_rfl) (by kernel_rfl) al0 ?_
                exact any_weak hm [4, 5, 6] (by kernel_rfl) rfl rfl rfl
            ·
              refine oq 1 [(1, .go (owns 4 0 1))] [4, 8, 18] [(17, .int .i64 ((j + 1 : Nat)))] ([]) (fun _ => by kernel_rfl) al0 ?_
              refine ops_nil ?_
              refine done_any ?_
              refine any_one 0 _ (by kernel_rfl) rfl ?_
              refine oq 1 [(0, .go (owns 0 0 1))] [4, 17, 18] [(16, .agg #[.slice q128 (n + 1) cq128])] ([]) (fun _ => by kernel_rfl) al0 ?_
              refine ops_nil ?_
              refine done_any ?_
              refine any_one 3 _ (by kernel_rfl) rfl ?_
              refine om 1 [(3, .go (owns 5 0 1))] [4, 17, 18] (fun _ => []) (fun _ L => (L.set 5 (bx (γ1 2) (#[.slice q128 (n + 1) cq128]) 24))) (fun _ => []) (fun _ => by kernel_rfl) (fun _ => al0) (fun _ => ?_)
              refine ops_nil ?_
              refine done_any ?_
              refine any_tk (f := 0) [4, 5] [] [4] [(5, .int .i64 ((j + 1 : Nat))), (6, .int .i64 0)] ([]) #[true, true, true, true, true, true] (by kernel_rfl) (by kernel_rfl) al0 ?_
              exact any_weak hm [4, 5, 6] (by kernel_rfl) rfl rfl rfl
          refine any_nil (by kernel_rfl) ?_
          refine done_seq ?_
          refine at_return (owns 5 0 1) (.tuple #[.agg #[.slice q128 (n + 1) cq128], .int .i64 ((j + 1 : Nat)), .int .i64 0]) [] (by kernel_rfl) (by kernel_rfl) al0 ?_
          exact fun w' hw => by rw [openV_ok q6 q36 (open_end hI (by omega)) q64]; exact ⟨_, _, _, _, rfl, hO128, hw.below, ((hw.tailN 8).sub (List.sublist_append_left Y128 ([])))⟩
    ·
      refine om 3 [(5, .go (owns 0 0 1))] [1, 4] (fun γ153 => [(7, .pointer (some ⟨γ153 0, 0, none⟩))]) (fun γ153 L => bx (γ153 0) (#[.slice (some ⟨g31, 0, none⟩) n cq31]) 24 :: L) (fun γ153 => []) (fun _ => by kernel_rfl) (fun γ153 => al0) (fun γ153 => ?_)
      refine ops_nil ?_
      refine done_seq ?_
      refine at_seq ?_
      refine at_seq ?_
      refine at_ops ?_
      refine oq 1 [] [4, 7] [(19, .func (.func 55) #[] #[.pointer (some ⟨γ1 1, 0, none⟩), .pointer (some ⟨γ2 0, 0, none⟩)])] ([]) (fun _ => by kernel_rfl) al0 ?_
      refine ops_inline (g := 55) (args := #[.pointer (some ⟨γ153 0, 0, none⟩), .pointer (some ⟨γ1 1, 0, none⟩), .pointer (some ⟨γ2 0, 0, none⟩)]) (by kernel_rfl) (by kernel_rfl) (by kernel_rfl) (fun args w => Try.call55 args w) Try.func55 rfl Try.ntmps55 rfl ?_
      refine at_seq ?_
      refine aq [] [0, 1, 2] [] ([]) (fun _ => by kernel_rfl) al0 ?_
      refine done_seq ?_
      refine at_seq ?_
      refine at_seq ?_
      refine at_ops ?_
      refine oq 1 [(0, .go (owns 5 0 1))] [0, 1, 2] [(6, .int .i64 own)] ([]) (fun _ => by kernel_rfl) al0 ?_
      rcases q157 : vcpuB own with _ | _
      ·
        refine ops_callD (.bool false) (by kernel_rfl) (by kernel_rfl) (by kernel_rfl) (fun args w => Try.call31 args w) (fun w hw => by have := vcpu_d own w; rw [q157] at this; exact this) ?_
        refine oq 1 [] [0, 1, 2] [(8, .bool true)] ([]) (fun _ => by kernel_rfl) al0 ?_
        refine ops_nil ?_
        refine done_seq ?_
        refine at_true (by kernel_rfl) ?_
        refine at_seq ?_
        refine aq [] [] [(4, .int .i64 2)] ([]) (fun _ => by kernel_rfl) al0 ?_
        refine done_seq ?_
        refine at_back ([]) (.int .i64 2) [] (by kernel_rfl) (by kernel_rfl) al0 ?_
        refine oq 1 [] [4, 7] [(8, .int .i64 2)] ([]) (fun _ => by kernel_rfl) al0 ?_
        refine ops_nil ?_
        refine done_seq ?_
        refine at_seq ?_
        refine aq [] [4, 7, 8] [(22, .bool true)] ([]) (fun _ => by kernel_rfl) al0 ?_
        refine done_seq ?_
        refine at_true (by kernel_rfl) ?_
        refine at_seq ?_
        refine aq [(2, .go (owns 1 0 1))] [4] [(5, .int .i64 2)] ([]) (fun _ => by kernel_rfl) al0 ?_
        refine done_seq ?_
        refine at_back (owns 1 0 1) (.tuple #[.agg #[.slice none 0 0], .int .i64 2]) [] (by kernel_rfl) (by kernel_rfl) al0 ?_
        refine om 6 [(7, .go (owns 0 0 1))] [4, 7] (fun γ163 => [(8, .pointer (some ⟨γ163 0, 0, none⟩)), (9, .int .i64 2)]) (fun γ163 L => bx (γ163 0) (#[.slice none 0 0]) 24 :: L) (fun γ163 => []) (fun _ => by kernel_rfl) (fun γ163 => al0) (fun γ163 => ?_)
        refine ops_nil ?_
        refine done_seq ?_
        refine at_seq ?_
        refine at_any (by kernel_rfl) ?_
        refine any_tk (f := 5) [2] [] [4, 7, 8] [(18, .int .i64 2)] ([]) #[false, false, true, false, false, false] (by kernel_rfl) (by kernel_rfl) al0 ?_
        refine any_cut 0 #[true, true, true, true, true, true] ([(4, .pointer (some ⟨γ1 2, 0, none⟩)), (5, .int .i64 0), (6, .int .i64 2)]) ([bx (γ163 0) (#[.slice none 0 0]) 24, bx (γ153 0) (#[.slice (some ⟨g31, 0, none⟩) n cq31]) 24, bx (γ4 1) (#[.slice none 0 0]) 24, bx (γ4 0) (#[.slice p n cap]) 24, bx (γ2 0) (#[.int .i64 0]) 3, bx (γ1 2) (#[.slice none 0 0]) 24, bx (γ1 1) (#[.int .i64 own]) 3, bx (γ1 0) (#[.slice p n cap]) 24, bx g31 cs31 40]) ?_ (fun hm => ?_)
        rotate_left
        ·
          refine any_fork [0, 1] (by kernel_rfl) (by simp) (each_cons _ rfl ?_ (each_cons _ rfl ?_ (each_nil)))
          ·
            refine oq 1 [(0, .go (owns 0 0 1))] [4, 7, 18] [(16, .agg #[.slice none 0 0])] ([]) (fun _ => by kernel_rfl) al0 ?_
            refine ops_nil ?_
            refine done_any ?_
            refine any_fork [1, 3] (by kernel_rfl) (by simp) (each_cons _ rfl ?_ (each_cons _ rfl ?_ (each_nil)))
            ·
              refine oq 1 [(1, .go (owns 4 0 1))] [4, 16, 18] [(17, .int .i64 0)] ([]) (fun _ => by kernel_rfl) al0 ?_
              refine ops_nil ?_
              refine done_any ?_
              refine any_one 3 _ (by kernel_rfl) rfl ?_
              refine oq 1 [(3, .go (owns 5 0 1))] [4, 17, 18] [] ([]) (fun _ => by kernel_rfl) al0 ?_
              refine ops_nil ?_
              refine done_any ?_
              refine any_tk (f := 0) [4, 5] [] [4] [(5, .int .i64 0), (6, .int .i64 2)] ([]) #[true, true, true, true, true, true] (by kernel_rfl) (by kernel_rfl) al0 ?_
              exact any_weak hm [4, 5, 6] (by kernel_rfl) rfl rfl rfl
            ·
              refine oq 1 [(3, .go (owns 5 0 1))] [4, 7, 18] [] ([]) (fun _ => by kernel_rfl) al0 ?_
              refine ops_nil ?_
              refine done_any ?_
              refine any_one 1 _ (by kernel_rfl) rfl ?_
              refine oq 1 [(1, .go (owns 4 0 1))] [4, 18] [(17, .int .i64 0)] ([]) (fun _ => by kernel_rfl) al0 ?_
              refine ops_nil ?_
              refine done_any ?_
              refine any_tk (f := 0) [4, 5] [] [4] [(5, .int .i64 0), (6, .int .i64 2)] ([]) #[true, true, true, true, true, true] (by kernel_rfl) (by kernel_rfl) al0 ?_
              exact any_weak hm [4, 5, 6] (by kernel_rfl) rfl rfl rfl
          ·
            refine oq 1 [(1, .go (owns 4 0 1))] [4, 8, 18] [(17, .int .i64 0)] ([]) (fun _ => by kernel_rfl) al0 ?_
            refine ops_nil ?_
            refine done_any ?_
            refine any_one 0 _ (by kernel_rfl) rfl ?_
            refine oq 1 [(0, .go (owns 0 0 1))] [4, 17, 18] [(16, .agg #[.slice none 0 0])] ([]) (fun _ => by kernel_rfl) al0 ?_
            refine ops_nil ?_
            refine done_any ?_
            refine any_one 3 _ (by kernel_rfl) rfl ?_
            refine oq 1 [(3, .go (owns 5 0 1))] [4, 17, 18] [] ([]) (fun _ => by kernel_rfl) al0 ?_
            refine ops_nil ?_
            refine done_any ?_
            refine any_tk (f := 0) [4, 5] [] [4] [(5, .int .i64 0), (6, .int .i64 2)] ([]) #[true, true, true, true, true, true] (by kernel_rfl) (by kernel_rfl) al0 ?_
            exact any_weak hm [4, 5, 6] (by kernel_rfl) rfl rfl rfl
        refine any_nil (by kernel_rfl) ?_
        refine done_seq ?_
        refine at_return (owns 5 0 1) (.tuple #[.agg #[.slice none 0 0], .int .i64 0, .int .i64 2]) [] (by kernel_rfl) (by kernel_rfl) al0 ?_
        exact fun w' hw => by rw [openV_arg q6 q157]; exact ⟨none, 0, 0, [], rfl, SlO.nil, hw.below, hw.sub (List.nil_sublist _)⟩
      ·
        refine ops_callD (.bool true) (by kernel_rfl) (by kernel_rfl) (by kernel_rfl) (fun args w => Try.call31 args w) (fun w hw => by have := vcpu_d own w; rw [q157] at this; exact this) ?_
        refine oq 1 [] [0, 1, 2] [(8, .bool false)] ([]) (fun _ => by kernel_rfl) al0 ?_
        refine ops_nil ?_
        refine done_seq ?_
        refine at_false (by kernel_rfl) ?_
        refine at_skip ?_
        refine done_seq ?_
        refine at_seq ?_
        refine aq [] [0, 1, 2] [(5, .int .i64 0)] ([]) (fun _ => by kernel_rfl) al0 ?_
        refine done_seq ?_
        refine at_seq ?_
        refine at_block ?_
        refine at_loop (α := Nat) [0, 1, 2, 5] (fun j => [(0, .pointer (some ⟨γ153 0, 0, none⟩)), (1, .pointer (some ⟨γ1 1, 0, none⟩)), (2, .pointer (some ⟨γ2 0, 0, none⟩)), (5, .int .i64 ((j : Nat)))]) (fun j => [bx (γ153 0) (#[.slice (some ⟨g31, 0, none⟩) n cq31]) 24, bx (γ4 1) (#[.slice none 0 0]) 24, bx (γ4 0) (#[.slice p n cap]) 24, bx (γ2 0) (#[.int .i64 0]) 3, bx (γ1 2) (#[.slice none 0 0]) 24, bx (γ1 1) (#[.int .i64 own]) 3, bx (γ1 0) (#[.slice p n cap]) 24, bx g31 cs31 40]) (fun j => j ≤ n ∧ openI (l.drop j) j = openI l 0) (fun j => n - j) 0 (by kernel_rfl) rfl ⟨Nat.zero_le _, by rw [List.drop_zero]⟩ ?_
        rintro j
        rintro ⟨hj, hI⟩
        refine at_seq ?_
        refine at_seq ?_
        by_cases q184 : ((j : Nat) : Int) < ((n : Nat) : Int)
        ·
          obtain ⟨x186, hx186⟩ := get_some (l := l) (m := j) (by omega)
          by_cases q188 : (x186.num : Int) = ((j + 1 : Nat) : Int)
          ·
            refine aq [(4, .go (owns 0 0 1)), (6, .yes), (11, .go (owns 0 0 1)), (13, .at g31 0 j), (15, .go (ownps 7 (0 + j * 5) [.int .i64 x186.num])), (17, .fit), (18, .yes)] [0, 1, 2, 5] [(28, .bool true)] ([((j : Nat) : Int) < ((n : Nat) : Int)] ++ ([(some ⟨g31, 0, none⟩ : Option Addr) = some ⟨g31, 0, none⟩, ((j : Nat)) = ((j : Nat) : Int), j < n] ++ (acellsP cs31 (0 + j * 5) [.int .i64 x186.num] ++ ([Fit .i64 ((j + 1 : Nat))] ++ ([(x186.num : Int) = ((j + 1 : Nat) : Int)]))))) (fun _ => by kernel_rfl) (alA (al1 q184) (alA (al2 rfl (al2 rfl (al1 (by omega)))) (alA (rda_pre ((hOw31.rdx hnq31 hx186)) _ rfl) (alA (al1 (fit64 (by omega) (by omega))) (al1 q188))))) ?_
            refine done_seq ?_
            refine at_true (by kernel_rfl) ?_
            refine at_skip ?_
            refine done_seq ?_
            refine at_block ?_
            refine aq [(1, .fit)] [0, 1, 2] [(5, .int .i64 ((j + 1 : Nat)))] ([Fit .i64 ((j + 1 : Nat))]) (fun _ => by kernel_rfl) (al1 (fit64 (by omega) (by omega))) ?_
            refine done_block ?_
            exact done_round [0, 1, 2, 5] (j + 1) (by kernel_rfl) rfl ⟨by omega, open_on hI hx186 (by assumption)⟩ (by first | omega | (simp only; omega))
          ·
            refine aq [(4, .go (owns 0 0 1)), (6, .yes), (11, .go (owns 0 0 1)), (13, .at g31 0 j), (15, .go (ownps 7 (0 + j * 5) [.int .i64 x186.num])), (17, .fit), (18, .no)] [0, 1, 2, 5] [(28, .bool false)] ([((j : Nat) : Int) < ((n : Nat) : Int)] ++ ([(some ⟨g31, 0, none⟩ : Option Addr) = some ⟨g31, 0, none⟩, ((j : Nat)) = ((j : Nat) : Int), j < n] ++ (acellsP cs31 (0 + j * 5) [.int .i64 x186.num] ++ ([Fit .i64 ((j + 1 : Nat))] ++ ([¬ ((x186.num : Int) = ((j + 1 : Nat) : Int))]))))) (fun _ => by kernel_rfl) (alA (al1 q184) (alA (al2 rfl (al2 rfl (al1 (by omega)))) (alA (rda_pre ((hOw31.rdx hnq31 hx186)) _ rfl) (alA (al1 (fit64 (by omega) (by omega))) (al1 q188))))) ?_
            refine done_seq ?_
            refine at_false (by kernel_rfl) ?_
            refine at_leave _ (by rfl) ?_
            refine done_seq ?_
            refine at_seq ?_
            refine at_seq ?_
            by_cases q193 : ((j : Nat) : Int) = (32 : Int)
            ·
              refine aq [(1, .yes)] [0, 1, 2, 5] [(32, .bool true)] ([((j : Nat) : Int) = (32 : Int)]) (fun _ => by kernel_rfl) (al1 q193) ?_
              refine done_seq ?_
              refine at_true (by kernel_rfl) ?_
              refine at_seq ?_
              refine aq [] [] [(4, .int .i64 6)] ([]) (fun _ => by kernel_rfl) al0 ?_
              refine done_seq ?_
              refine at_back ([]) (.int .i64 6) [] (by kernel_rfl) (by kernel_rfl) al0 ?_
              refine oq 1 [] [4, 7] [(8, .int .i64 6)] ([]) (fun _ => by kernel_rfl) al0 ?_
              refine ops_nil ?_
              refine done_seq ?_
              refine at_seq ?_
              refine aq [] [4, 7, 8] [(22, .bool true)] ([]) (fun _ => by kernel_rfl) al0 ?_
              refine done_seq ?_
              refine at_true (by kernel_rfl) ?_
              refine at_seq ?_
              refine aq [(2, .go (owns 1 0 1))] [4] [(5, .int .i64 6)] ([]) (fun _ => by kernel_rfl) al0 ?_
              refine done_seq ?_
              refine at_back (owns 1 0 1) (.tuple #[.agg #[.slice none 0 0], .int .i64 6]) [] (by kernel_rfl) (by kernel_rfl) al0 ?_
              refine om 6 [(7, .go (owns 0 0 1))] [4, 7] (fun γ199 => [(8, .pointer (some ⟨γ199 0, 0, none⟩)), (9, .int .i64 6)]) (fun γ199 L => bx (γ199 0) (#[.slice none 0 0]) 24 :: L) (fun γ199 => []) (fun _ => by kernel_rfl) (fun γ199 => al0) (fun γ199 => ?_)
              refine ops_nil ?_
              refine done_seq ?_
              refine at_seq ?_
              refine at_any (by kernel_rfl) ?_
              refine any_tk (f := 5) [2] [] [4, 7, 8] [(18, .int .i64 6)] ([]) #[false, false, true, false, false, false] (by kernel_rfl) (by kernel_rfl) al0 ?_
              refine any_cut 0 #[true, true, true, true, true, true] ([(4, .pointer (some ⟨γ1 2, 0, none⟩)), (5, .int .i64 0), (6, .int .i64 6)]) ([bx (γ199 0) (#[.slice none 0 0]) 24, bx (γ153 0) (#[.slice (some ⟨g31, 0, none⟩) n cq31]) 24, bx (γ4 1) (#[.slice none 0 0]) 24, bx (γ4 0) (#[.slice p n cap]) 24, bx (γ2 0) (#[.int .i64 0]) 3, bx (γ1 2) (#[.slice none 0 0]) 24, bx (γ1 1) (#[.int .i64 own]) 3, bx (γ1 0) (#[.slice p n cap]) 24, bx g31 cs31 40]) ?_ (fun hm => ?_)
              rotate_left
              ·
                refine any_fork [0, 1] (by kernel_rfl) (by simp) (each_cons _ rfl ?_ (each_cons _ rfl ?_ (each_nil)))
                ·
                  refine oq 1 [(0, .go (owns 0 0 1))] [4, 7, 18] [(16, .agg #[.slice none 0 0])] ([]) (fun _ => by kernel_rfl) al0 ?_
                  refine ops_nil ?_
                  refine done_any ?_
                  refine any_fork [1, 3] (by kernel_rfl) (by simp) (each_cons _ rfl ?_ (each_cons _ rfl ?_ (each_nil)))
                  ·
                    refine oq 1 [(1, .go (owns 4 0 1))] [4, 16, 18] [(17, .int .i64 0)] ([]) (fun _ => by kernel_rfl) al0 ?_
                    refine ops_nil ?_
                    refine done_any ?_
                    refine any_one 3 _ (by kernel_rfl) rfl ?_
                    refine oq 1 [(3, .go (owns 5 0 1))] [4, 17, 18] [] ([]) (fun _ => by kernel_rfl) al0 ?_
                    refine ops_nil ?_
                    refine done_any ?_
                    refine any_tk (f := 0) [4, 5] [] [4] [(5, .int .i64 0), (6, .int .i64 6)] ([]) #[true, true, true, true, true, true] (by kernel_rfl) (by kernel_rfl) al0 ?_
                    exact any_weak hm [4, 5, 6] (by kernel_rfl) rfl rfl rfl
                  ·
                    refine oq 1 [(3, .go (owns 5 0 1))] [4, 7, 18] [] ([]) (fun _ => by kernel_rfl) al0 ?_
                    refine ops_nil ?_
                    refine done_any ?_
                    refine any_one 1 _ (by kernel_rfl) rfl ?_
                    refine oq 1 [(1, .go (owns 4 0 1))] [4, 18] [(17, .int .i64 0)] ([]) (fun _ => by kernel_rfl) al0 ?_
                    refine ops_nil ?_
                    refine done_any ?_
                    refine any_tk (f := 0) [4, 5] [] [4] [(5, .int .i64 0), (6, .int .i64 6)] ([]) #[true, true, true, true, true, true] (by kernel_rfl) (by kernel_rfl) al0 ?_
                    exact any_weak hm [4, 5, 6] (by kernel_rfl) rfl rfl rfl
                ·
                  refine oq 1 [(1, .go (owns 4 0 1))] [4, 8, 18] [(17, .int .i64 0)] ([]) (fun _ => by kernel_rfl) al0 ?_
                  refine ops_nil ?_
                  refine done_any ?_
                  refine any_one 0 _ (by kernel_rfl) rfl ?_
                  refine oq 1 [(0, .go (owns 0 0 1))] [4, 17, 18] [(16, .agg #[.slice none 0 0])] ([]) (fun _ => by kernel_rfl) al0 ?_
                  refine ops_nil ?_
                  refine done_any ?_
                  refine any_one 3 _ (by kernel_rfl) rfl ?_
                  refine oq 1 [(3, .go (owns 5 0 1))] [4, 17, 18] [] ([]) (fun _ => by kernel_rfl) al0 ?_
                  refine ops_nil ?_
                  refine done_any ?_
                  refine any_tk (f := 0) [4, 5] [] [4] [(5, .int .i64 0), (6, .int .i64 6)] ([]) #[true, true, true, true, true, true] (by kernel_rfl) (by kernel_rfl) al0 ?_
                  exact any_weak hm [4, 5, 6] (by kernel_rfl) rfl rfl rfl
              refine any_nil (by kernel_rfl) ?_
              refine done_seq ?_
              refine at_return (owns 5 0 1) (.tuple #[.agg #[.slice none 0 0], .int .i64 0, .int .i64 6]) [] (by kernel_rfl) (by kernel_rfl) al0 ?_
              exact fun w' hw => by rw [openV_full q6 q157 (open_at hI hx186 (by assumption)) q193]; exact ⟨none, 0, 0, [], rfl, SlO.nil, hw.below, hw.sub (List.nil_sublist _)⟩
            ·
              refine aq [(1, .no)] [0, 1, 2, 5] [(32, .bool false)] ([¬ (((j : Nat) : Int) = (32 : Int))]) (fun _ => by kernel_rfl) (al1 q193) ?_
              refine done_seq ?_
              refine at_false (by kernel_rfl) ?_
              refine at_skip ?_
              refine done_seq ?_
              refine at_seq ?_
              refine am [(1, .fit), (2, .go (owns 3 0 1))] [0, 1, 2, 5] (fun _ => []) (fun _ L => (L.set 3 (bx (γ2 0) (#[.int .i64 ((j + 1 : Nat))]) 3))) (fun _ => [Fit .i64 ((j + 1 : Nat))]) (fun _ => by kernel_rfl) (fun _ => (al1 (fit64 (by omega) (by omega)))) (fun _ => ?_)
              refine done_seq ?_
              refine at_seq ?_
              refine at_any (by kernel_rfl) ?_
              refine any_tk (f := 9) [0, 1, 2, 3, 5] [] [1, 2] [(35, .pointer (some ⟨γ153 0, 0, none⟩)), (38, .pointer (some ⟨γ153 0, 0, none⟩)), (40, .int .i64 ((j : Nat)))] ([]) #[true, true, true, true, false, true, false, false, false, false, false, false, false, false] (by kernel_rfl) (by kernel_rfl) al0 ?_
              refine any_cutG 4 #[true, true, true, true, true, true, true, true, true, true, false, false, false, false] (fun γ225 => [(35, .pointer (some ⟨γ153 0, 0, none⟩)), (39, .slice (some ⟨g31, 0, none⟩) n cq31), (40, .int .i64 ((j : Nat))), (44, .slice (some ⟨γ225 0, 0, none⟩) 1 1)]) (fun γ225 => [bx (γ225 0) (#[.int .i64 ((j + 1 : Nat)), .int .i64 own, .int .i64 0, .bool false, .bool false]) 40, bx (γ153 0) (#[.slice (some ⟨g31, 0, none⟩) n cq31]) 24, bx (γ4 1) (#[.slice none 0 0]) 24, bx (γ4 0) (#[.slice p n cap]) 24, bx (γ2 0) (#[.int .i64 ((j + 1 : Nat))]) 3, bx (γ1 2) (#[.slice none 0 0]) 24, bx (γ1 1) (#[.int .i64 own]) 3, bx (γ1 0) (#[.slice p n cap]) 24, bx g31 cs31 40]) (fun γ225 => ?_) (fun hm => ?_)
              rotate_left
              ·
                refine any_fork [4, 6, 7] (by kernel_rfl) (by simp) (each_cons _ rfl ?_ (each_cons _ rfl ?_ (each_cons _ rfl ?_ (each_nil))))
                ·
                  refine oq 1 [(4, .go (owns 0 0 1))] [1, 2, 35, 40] [(39, .slice (some ⟨g31, 0, none⟩) n cq31)] ([]) (fun _ => by kernel_rfl) al0 ?_
                  refine ops_nil ?_
                  refine done_any ?_
                  refine any_fork [6, 7] (by kernel_rfl) (by simp) (each_cons _ rfl ?_ (each_cons _ rfl ?_ (each_nil)))
                  ·
                    refine oq 1 [(6, .go (owns 3 0 1))] [1, 35, 39, 40] [(41, .int .i64 ((j + 1 : Nat)))] ([]) (fun _ => by kernel_rfl) al0 ?_
                    refine ops_nil ?_
                    refine done_any ?_
                    refine any_one 7 _ (by kernel_rfl) rfl ?_
                    refine oq 1 [(7, .go (owns 5 0 1))] [35, 39, 40, 41] [(42, .int .i64 own)] ([]) (fun _ => by kernel_rfl) al0 ?_
                    refine ops_nil ?_
                    refine done_any ?_
                    refine any_tk (f := 5) [8] [] [35, 39, 40] [(43, .agg #[.int .i64 ((j + 1 : Nat)), .int .i64 own, .int .i64 0, .bool false, .bool false])] ([]) #[true, true, true, true, true, true, true, true, true, false, false, false, false, false] (by kernel_rfl) (by kernel_rfl) al0 ?_
                    refine any_one 9 _ (by kernel_rfl) rfl ?_
                    refine om 1 [] [35, 39, 40] (fun γ230 => [(44, .slice (some ⟨γ230 0, 0, none⟩) 1 1)]) (fun γ230 L => bx (γ230 0) (#[.int .i64 ((j + 1 : Nat)), .int .i64 own, .int .i64 0, .bool false, .bool false]) 40 :: L) (fun γ230 => []) (fun _ => by kernel_rfl) (fun γ230 => al0) (fun γ230 => ?_)
                    refine ops_nil ?_
                    refine done_any ?_
                    exact any_weak (hm fun i => [γ230 0].getD i 0) [35, 39, 40, 44] (by kernel_rfl) rfl rfl rfl
                  ·
                    refine oq 1 [(7, .go (owns 5 0 1))] [2, 35, 39, 40] [(42, .int .i64 own)] ([]) (fun _ => by kernel_rfl) al0 ?_
                    refine ops_nil ?_
                    refine done_any ?_
                    refine any_one 6 _ (by kernel_rfl) rfl ?_
                    refine oq 1 [(6, .go (owns 3 0 1))] [35, 39, 40, 42] [(41, .int .i64 ((j + 1 : Nat)))] ([]) (fun _ => by kernel_rfl) al0 ?_
                    refine ops_nil ?_
                    refine done_any ?_
                    refine any_tk (f := 5) [8] [] [35, 39, 40] [(43, .agg #[.int .i64 ((j + 1 : Nat)), .int .i64 own, .int .i64 0, .bool false, .bool false])] ([]) #[true, true, true, true, true, true, true, true, true, false, false, false, false, false] (by kernel_rfl) (by kernel_rfl) al0 ?_
                    refine any_one 9 _ (by kernel_rfl) rfl ?_
                    refine om 1 [] [35, 39, 40] (fun γ234 => [(44, .slice (some ⟨γ234 0, 0, none⟩) 1 1)]) (fun γ234 L => bx (γ234 0) (#[.int .i64 ((j + 1 : Nat)), .int .i64 own, .int .i64 0, .bool false, .bool false]) 40 :: L) (fun γ234 => []) (fun _ => by kernel_rfl) (fun γ234 => al0) (fun γ234 => ?_)
                    refine ops_nil ?_
                    refine done_any ?_
                    exact any_weak (hm fun i => [γ234 0].getD i 0) [35, 39, 40, 44] (by kernel_rfl) rfl rfl rfl
                ·
                  refine oq 1 [(6, .go (owns 3 0 1))] [1, 35, 38, 40] [(41, .int .i64 ((j + 1 : Nat)))] ([]) (fun _ => by kernel_rfl) al0 ?_
                  refine ops_nil ?_
                  refine done_any ?_
                  refine any_fork [4, 7] (by kernel_rfl) (by simp) (each_cons _ rfl ?_ (each_cons _ rfl ?_ (each_nil)))
                  ·
                    refine oq 1 [(4, .go (owns 0 0 1))] [1, 35, 40, 41] [(39, .slice (some ⟨g31, 0, none⟩) n cq31)] ([]) (fun _ => by kernel_rfl) al0 ?_
                    refine ops_nil ?_
                    refine done_any ?_
                    refine any_one 7 _ (by kernel_rfl) rfl ?_
                    refine oq 1 [(7, .go (owns 5 0 1))] [35, 39, 40, 41] [(42, .int .i64 own)] ([]) (fun _ => by kernel_rfl) al0 ?_
                    refine ops_nil ?_
                    refine done_any ?_
                    refine any_tk (f := 5) [8] [] [35, 39, 40] [(43, .agg #[.int .i64 ((j + 1 : Nat)), .int .i64 own, .int .i64 0, .bool false, .bool false])] ([]) #[true, true, true, true, true, true, true, true, true, false, false, false, false, false] (by kernel_rfl) (by kernel_rfl) al0 ?_
                    refine any_one 9 _ (by kernel_rfl) rfl ?_
                    refine om 1 [] [35, 39, 40] (fun γ239 => [(44, .slice (some ⟨γ239 0, 0, none⟩) 1 1)]) (fun γ239 L => bx (γ239 0) (#[.int .i64 ((j + 1 : Nat)), .int .i64 own, .int .i64 0, .bool false, .bool false]) 40 :: L) (fun γ239 => []) (fun _ => by kernel_rfl) (fun γ239 => al0) (fun γ239 => ?_)
                    refine ops_nil ?_
                    refine done_any ?_
                    exact any_weak (hm fun i => [γ239 0].getD i 0) [35, 39, 40, 44] (by kernel_rfl) rfl rfl rfl
                  ·
                    refine oq 1 [(7, .go (owns 5 0 1))] [35, 38, 40, 41] [(42, .int .i64 own)] ([]) (fun _ => by kernel_rfl) al0 ?_
                    refine ops_nil ?_
                    refine done_any ?_
                    refine any_tk (f := 6) [8] [] [35, 38, 40] [(43, .agg #[.int .i64 ((j + 1 : Nat)), .int .i64 own, .int .i64 0, .bool false, .bool false])] ([]) #[true, true, true, true, false, true, true, true, true, false, false, false, false, false] (by kernel_rfl) (by kernel_rfl) al0 ?_
                    refine any_fork [4, 9] (by kernel_rfl) (by simp) (each_cons _ rfl ?_ (each_cons _ rfl ?_ (each_nil)))
                    ·
                      refine oq 1 [(4, .go (owns 0 0 1))] [35, 40, 43] [(39, .slice (some ⟨g31, 0, none⟩) n cq31)] ([]) (fun _ => by kernel_rfl) al0 ?_
                      refine ops_nil ?_
                      refine done_any ?_
                      refine any_one 9 _ (by kernel_rfl) rfl ?_
                      refine om 1 [] [35, 39, 40] (fun γ243 => [(44, .slice (some ⟨γ243 0, 0, none⟩) 1 1)]) (fun γ243 L => bx (γ243 0) (#[.int .i64 ((j + 1 : Nat)), .int .i64 own, .int .i64 0, .bool false, .bool false]) 40 :: L) (fun γ243 => []) (fun _ => by kernel_rfl) (fun γ243 => al0) (fun γ243 => ?_)
                      refine ops_nil ?_
                      refine done_any ?_
                      exact any_weak (hm fun i => [γ243 0].getD i 0) [35, 39, 40, 44] (by kernel_rfl) rfl rfl rfl
                    ·
                      refine om 1 [] [35, 38, 40] (fun γ244 => [(44, .slice (some ⟨γ244 0, 0, none⟩) 1 1)]) (fun γ244 L => bx (γ244 0) (#[.int .i64 ((j + 1 : Nat)), .int .i64 own, .int .i64 0, .bool false, .bool false]) 40 :: L) (fun γ244 => []) (fun _ => by kernel_rfl) (fun γ244 => al0) (fun γ244 => ?_)
                      refine ops_nil ?_
                      refine done_any ?_
                      refine any_one 4 _ (by kernel_rfl) rfl ?_
                      refine oq 1 [(4, .go (owns 1 0 1))] [35, 40, 44] [(39, .slice (some ⟨g31, 0, none⟩) n cq31)] ([]) (fun _ => by kernel_rfl) al0 ?_
                      refine ops_nil ?_
                      refine done_any ?_
                      exact any_weak (hm fun i => [γ244 0].getD i 0) [35, 39, 40, 44] (by kernel_rfl) rfl rfl rfl
                ·
                  refine oq 1 [(7, .go (owns 5 0 1))] [2, 35, 38, 40] [(42, .int .i64 own)] ([]) (fun _ => by kernel_rfl) al0 ?_
                  refine ops_nil ?_
                  refine done_any ?_
                  refine any_fork [4, 6] (by kernel_rfl) (by simp) (each_cons _ rfl ?_ (each_cons _ rfl ?_ (each_nil)))
                  ·
                    refine oq 1 [(4, .go (owns 0 0 1))] [2, 35, 40, 42] [(39, .slice (some ⟨g31, 0, none⟩) n cq31)] ([]) (fun _ => by kernel_rfl) al0 ?_
                    refine ops_nil ?_
                    refine done_any ?_
                    refine any_one 6 _ (by kernel_rfl) rfl ?_
                    refine oq 1 [(6, .go (owns 3 0 1))] [35, 39, 40, 42] [(41, .int .i64 ((j + 1 : Nat)))] ([]) (fun _ => by kernel_rfl) al0 ?_
                    refine ops_nil ?_
                    refine done_any ?_
                    refine any_tk (f := 5) [8] [] [35, 39, 40] [(43, .agg #[.int .i64 ((j + 1 : Nat)), .int .i64 own, .int .i64 0, .bool false, .bool false])] ([]) #[true, true, true, true, true, true, true, true, true, false, false, false, false, false] (by kernel_rfl) (by kernel_rfl) al0 ?_
                    refine any_one 9 _ (by kernel_rfl) rfl ?_
                    refine om 1 [] [35, 39, 40] (fun γ250 => [(44, .slice (some ⟨γ250 0, 0, none⟩) 1 1)]) (fun γ250 L => bx (γ250 0) (#[.int .i64 ((j + 1 : Nat)), .int .i64 own, .int .i64 0, .bool false, .bool false]) 40 :: L) (fun γ250 => []) (fun _ => by kernel_rfl) (fun γ250 => al0) (fun γ250 => ?_)
                    refine ops_nil ?_
                    refine done_any ?_
                    exact any_weak (hm fun i => [γ250 0].getD i 0) [35, 39, 40, 44] (by kernel_rfl) rfl rfl rfl
                  ·
                    refine oq 1 [(6, .go (owns 3 0 1))] [35, 38, 40, 42] [(41, .int .i64 ((j + 1 : Nat)))] ([]) (fun _ => by kernel_rfl) al0 ?_
                    refine ops_nil ?_
                    refine done_any ?_
                    refine any_tk (f := 6) [8] [] [35, 38, 40] [(43, .agg #[.int .i64 ((j + 1 : Nat)), .int .i64 own, .int .i64 0, .bool false, .bool false])] ([]) #[true, true, true, true, false, true, true, true, true, false, false, false, false, false] (by kernel_rfl) (by kernel_rfl) al0 ?_
                    refine any_fork [4, 9] (by kernel_rfl) (by simp) (each_cons _ rfl ?_ (each_cons _ rfl ?_ (each_nil)))
                    ·
                      refine oq 1 [(4, .go (owns 0 0 1))] [35, 40, 43] [(39, .slice (some ⟨g31, 0, none⟩) n cq31)] ([]) (fun _ => by kernel_rfl) al0 ?_
                      refine ops_nil ?_
                      refine done_any ?_
                      refine any_one 9 _ (by kernel_rfl) rfl ?_
                      refine om 1 [] [35, 39, 40] (fun γ254 => [(44, .slice (some ⟨γ254 0, 0, none⟩) 1 1)]) (fun γ254 L => bx (γ254 0) (#[.int .i64 ((j + 1 : Nat)), .int .i64 own, .int .i64 0, .bool false, .bool false]) 40 :: L) (fun γ254 => []) (fun _ => by kernel_rfl) (fun γ254 => al0) (fun γ254 => ?_)
                      refine ops_nil ?_
                      refine done_any ?_
                      exact any_weak (hm fun i => [γ254 0].getD i 0) [35, 39, 40, 44] (by kernel_rfl) rfl rfl rfl
                    ·
                      refine om 1 [] [35, 38, 40] (fun γ255 => [(44, .slice (some ⟨γ255 0, 0, none⟩) 1 1)]) (fun γ255 L => bx (γ255 0) (#[.int .i64 ((j + 1 : Nat)), .int .i64 own, .int .i64 0, .bool false, .bool false]) 40 :: L) (fun γ255 => []) (fun _ => by kernel_rfl) (fun γ255 => al0) (fun γ255 => ?_)
                      refine ops_nil ?_
                      refine done_any ?_
                      refine any_one 4 _ (by kernel_rfl) rfl ?_
                      refine oq 1 [(4, .go (owns 1 0 1))] [35, 40, 44] [(39, .slice (some ⟨g31, 0, none⟩) n cq31)] ([]) (fun _ => by kernel_rfl) al0 ?_
                      refine ops_nil ?_
                      refine done_any ?_
                      exact any_weak (hm fun i => [γ255 0].getD i 0) [35, 39, 40, 44] (by kernel_rfl) rfl rfl rfl
              refine any_one 10 _ (by kernel_rfl) rfl ?_
              refine ops_call (fun v L' => ∃ q capq Y, v = .slice q (n + 1) capq ∧ L' = [bx (γ153 0) (#[.slice (some ⟨g31, 0, none⟩) n cq31]) 24, bx (γ4 1) (#[.slice none 0 0]) 24, bx (γ4 0) (#[.slice p n cap]) 24, bx (γ2 0) (#[.int .i64 ((j + 1 : Nat))]) 3, bx (γ1 2) (#[.slice none 0 0]) 24, bx (γ1 1) (#[.int .i64 own]) 3, bx (γ1 0) (#[.slice p n cap]) 24] ++ (Y ++ []) ∧ SlO 40 Y q (n + 1) capq (l.take j ++ [⟨(j + 1 : Nat), own, 0, false, false⟩] ++ l.drop j)) (by kernel_rfl) (by kernel_rfl) (by kernel_rfl) (fun args w => Try.call56 args w) (fun w hw => (insert_d _ ([bx (γ153 0) (#[.slice (some ⟨g31, 0, none⟩) n cq31]) 24, bx (γ4 1) (#[.slice none 0 0]) 24, bx (γ4 0) (#[.slice p n cap]) 24, bx (γ2 0) (#[.int .i64 ((j + 1 : Nat))]) 3, bx (γ1 2) (#[.slice none 0 0]) 24, bx (γ1 1) (#[.int .i64 own]) 3, bx (γ1 0) (#[.slice p n cap]) 24] ++ []) [bx g31 cs31 40] (some ⟨g31, 0, none⟩) n cq31 l j (γ225 0) (#[.int .i64 ((j + 1 : Nat)), .int .i64 own, .int .i64 0, .bool false, .bool false]) 1 ([⟨(j + 1 : Nat), own, 0, false, false⟩]) w (hw.pull (A := [bx (γ153 0) (#[.slice (some ⟨g31, 0, none⟩) n cq31]) 24, bx (γ4 1) (#[.slice none 0 0]) 24, bx (γ4 0) (#[.slice p n cap]) 24, bx (γ2 0) (#[.int .i64 ((j + 1 : Nat))]) 3, bx (γ1 2) (#[.slice none 0 0]) 24, bx (γ1 1) (#[.int .i64 own]) 3, bx (γ1 0) (#[.slice p n cap]) 24]) (Y := [bx g31 cs31 40]) (R := [])) hO31 (by rfl) (by rfl) (by omega) (by omega) (by omega) (by omega)).mono fun e w' ⟨q, capq, Y', he, hO, hY⟩ => ⟨_, _, he, ⟨q, capq, Y', rfl, rfl, hO⟩, hY.push⟩) ?_
              rintro v257 L257 ⟨q257, cq257, Y257, rfl, rfl, hO257⟩
              refine ops_nil ?_
              refine done_any ?_
              refine any_tk (f := 1) [11, 12] [] [45] [(47, .pointer (some ⟨γ153 0, 0, none⟩))] ([]) #[true, true, true, true, true, true, true, true, true, true, true, true, true, false] (by kernel_rfl) (by kernel_rfl) al0 ?_
              refine any_one 13 _ (by kernel_rfl) rfl ?_
              refine om 1 [(13, .go (owns 0 0 1))] [] (fun _ => []) (fun _ L => (L.set 0 (bx (γ153 0) (#[.slice q257 (n + 1) cq257]) 24))) (fun _ => []) (fun _ => by kernel_rfl) (fun _ => al0) (fun _ => ?_)
              refine ops_nil ?_
              refine done_any ?_
              refine any_nil (by kernel_rfl) ?_
              refine done_seq ?_
              refine at_seq ?_
              refine aq [] [] [(4, .int .i64 0)] ([]) (fun _ => by kernel_rfl) al0 ?_
              refine done_seq ?_
              refine at_back ([]) (.int .i64 0) [] (by kernel_rfl) (by kernel_rfl) al0 ?_
              refine oq 1 [] [4, 7] [(8, .int .i64 0)] ([]) (fun _ => by kernel_rfl) al0 ?_
              refine ops_nil ?_
              refine done_seq ?_
              refine at_seq ?_
              refine aq [] [4, 7, 8] [(22, .bool false)] ([]) (fun _ => by kernel_rfl) al0 ?_
              refine done_seq ?_
              refine at_false (by kernel_rfl) ?_
              refine at_skip ?_
              refine done_seq ?_
              refine at_seq ?_
              refine am [(0, .go (owns 0 0 1)), (1, .go (owns 1 0 1))] [4] (fun _ => [(5, .int .i64 0)]) (fun _ L => (L.set 1 (bx (γ4 1) (#[.slice q257 (n + 1) cq257]) 24))) (fun _ => []) (fun _ => by kernel_rfl) (fun _ => al0) (fun _ => ?_)
              refine done_seq ?_
              refine at_back (owns 1 0 1) (.tuple #[.agg #[.slice q257 (n + 1) cq257], .int .i64 0]) [] (by kernel_rfl) (by kernel_rfl) al0 ?_
              refine om 6 [(7, .go (owns 0 0 1))] [4, 7] (fun γ264 => [(8, .pointer (some ⟨γ264 0, 0, none⟩)), (9, .int .i64 0)]) (fun γ264 L => bx (γ264 0) (#[.slice q257 (n + 1) cq257]) 24 :: L) (fun γ264 => []) (fun _ => by kernel_rfl) (fun γ264 => al0) (fun γ264 => ?_)
              refine ops_nil ?_
              refine done_seq ?_
              refine at_seq ?_
              refine at_any (by kernel_rfl) ?_
              refine any_tk (f := 5) [2] [] [4, 7, 8] [(18, .int .i64 0)] ([]) #[false, false, true, false, false, false] (by kernel_rfl) (by kernel_rfl) al0 ?_
              refine any_cut 0 #[true, true, true, true, true, true] ([(4, .pointer (some ⟨γ1 2, 0, none⟩)), (5, .int .i64 ((j + 1 : Nat))), (6, .int .i64 0)]) (bx (γ264 0) (#[.slice q257 (n + 1) cq257]) 24 :: bx (γ153 0) (#[.slice q257 (n + 1) cq257]) 24 :: bx (γ4 1) (#[.slice q257 (n + 1) cq257]) 24 :: bx (γ4 0) (#[.slice p n cap]) 24 :: bx (γ2 0) (#[.int .i64 ((j + 1 : Nat))]) 3 :: bx (γ1 2) (#[.slice q257 (n + 1) cq257]) 24 :: bx (γ1 1) (#[.int .i64 own]) 3 :: bx (γ1 0) (#[.slice p n cap]) 24 :: (Y257 ++ [])) ?_ (fun hm => ?_)
              rotate_left
              ·
                refine any_fork [0, 1] (by kernel_rfl) (by simp) (each_cons _ rfl ?_ (each_cons _ rfl ?_ (each_nil)))
                ·
                  refine oq 1 [(0, .go (owns 0 0 1))] [4, 7, 18] [(16, .agg #[.slice q257 (n + 1) cq257])] ([]) (fun _ => by kernel_rfl) al0 ?_
                  refine ops_nil ?_
                  refine done_any ?_
                  refine any_fork [1, 3] (by kernel_rfl) (by simp) (each_cons _ rfl ?_ (each_cons _ rfl ?_ (each_nil)))
                  ·
                    refine oq 1 [(1, .go (owns 4 0 1))] [4, 16, 18] [(17, .int .i64 ((j + 1 : Nat)))] ([]) (fun _ => by kernel_rfl) al0 ?_
                    refine ops_nil ?_
                    refine done_any ?_
                    refine any_one 3 _ (by kernel_rfl) rfl ?_
                    refine om 1 [(3, .go (owns 5 0 1))] [4, 17, 18] (fun _ => []) (fun _ L => (L.set 5 (bx (γ1 2) (#[.slice q257 (n + 1) cq257]) 24))) (fun _ => []) (fun _ => by kernel_rfl) (fun _ => al0) (fun _ => ?_)
                    refine ops_nil ?_
                    refine done_any ?_
                    refine any_tk (f := 0) [4, 5] [] [4] [(5, .int .i64 ((j + 1 : Nat))), (6, .int .i64 0)] ([]) #[true, true, true, true, true, true] (by kernel_rfl) (by kernel_rfl) al0 ?_
                    exact any_weak hm [4, 5, 6] (by kernel_rfl) rfl rfl rfl
                  ·
                    refine om 1 [(3, .go (owns 5 0 1))] [4, 7, 18] (fun _ => []) (fun _ L => (L.set 5 (bx (γ1 2) (#[.slice q257 (n + 1) cq257]) 24))) (fun _ => []) (fun _ => by kernel_rfl) (fun _ => al0) (fun _ => ?_)
                    refine ops_nil ?_
                    refine done_any ?_
                    refine any_one 1 _ (by kernel_rfl) rfl ?_
                    refine oq 1 [(1, .go (owns 4 0 1))] [4, 18] [(17, .int .i64 ((j + 1 : Nat)))] ([]) (fun _ => by kernel_rfl) al0 ?_
                    refine ops_nil ?_
                    refine done_any ?_
                    refine any_tk (f := 0) [4, 5] [] [4] [(5, .int .i64 ((j + 1 : Nat))), (6, .int .i64 0)] ([]) #[true, true, true, true, true, true] (by kernel_rfl) (by kernel_rfl) al0 ?_
                    exact any_weak hm [4, 5, 6] (by kernel_rfl) rfl rfl rfl
                ·
                  refine oq 1 [(1, .go (owns 4 0 1))] [4, 8, 18] [(17, .int .i64 ((j + 1 : Nat)))] ([]) (fun _ => by kernel_rfl) al0 ?_
                  refine ops_nil ?_
                  refine done_any ?_
                  refine any_one 0 _ (by kernel_rfl) rfl ?_
                  refine oq 1 [(0, .go (owns 0 0 1))] [4, 17, 18] [(16, .agg #[.slice q257 (n + 1) cq257])] ([]) (fun _ => by kernel_rfl) al0 ?_
                  refine ops_nil ?_
                  refine done_any ?_
                  refine any_one 3 _ (by kernel_rfl) rfl ?_
                  refine om 1 [(3, .go (owns 5 0 1))] [4, 17, 18] (fun _ => []) (fun _ L => (L.set 5 (bx (γ1 2) (#[.slice q257 (n + 1) cq257]) 24))) (fun _ => []) (fun _ => by kernel_rfl) (fun _ => al0) (fun _ => ?_)
                  refine ops_nil ?_
                  refine done_any ?_
                  refine any_tk (f := 0) [4, 5] [] [4] [(5, .int .i64 ((j + 1 : Nat))), (6, .int .i64 0)] ([]) #[true, true, true, true, true, true] (by kernel_rfl) (by kernel_rfl) al0 ?_
                  exact any_weak hm [4, 5, 6] (by kernel_rfl) rfl rfl rfl
              refine any_nil (by kernel_rfl) ?_
              refine done_seq ?_
              refine at_return (owns 5 0 1) (.tuple #[.agg #[.slice q257 (n + 1) cq257], .int .i64 ((j + 1 : Nat)), .int .i64 0]) [] (by kernel_rfl) (by kernel_rfl) al0 ?_
              exact fun w' hw => by rw [openV_ok q6 q157 (open_at hI hx186 (by assumption)) q193]; exact ⟨_, _, _, _, rfl, hO257, hw.below, ((hw.tailN 8).sub (List.sublist_append_left Y257 ([])))⟩
        ·
          refine aq [(4, .go (owns 0 0 1)), (6, .no)] [0, 1, 2, 5] [(28, .bool false)] ([¬ (((j : Nat) : Int) < ((n : Nat) : Int))]) (fun _ => by kernel_rfl) (al1 q184) ?_
          refine done_seq ?_
          refine at_false (by kernel_rfl) ?_
          refine at_leave _ (by rfl) ?_
          refine done_seq ?_
          refine at_seq ?_
          refine at_seq ?_
          by_cases q284 : ((j : Nat) : Int) = (32 : Int)
          ·
            refine aq [(1, .yes)] [0, 1, 2, 5] [(32, .bool true)] ([((j : Nat) : Int) = (32 : Int)]) (fun _ => by kernel_rfl) (al1 q284) ?_
            refine done_seq ?_
            refine at_true (by kernel_rfl) ?_
            refine at_seq ?_
            refine aq [] [] [(4, .int .i64 6)] ([]) (fun _ => by kernel_rfl) al0 ?_
            refine done_seq ?_
            refine at_back ([]) (.int .i64 6) [] (by kernel_rfl) (by kernel_rfl) al0 ?_
            refine oq 1 [] [4, 7] [(8, .int .i64 6)] ([]) (fun _ => by kernel_rfl) al0 ?_
            refine ops_nil ?_
            refine done_seq ?_
            refine at_seq ?_
            refine aq [] [4, 7, 8] [(22, .bool true)] ([]) (fun _ => by kernel_rfl) al0 ?_
            refine done_seq ?_
            refine at_true (by kernel_rfl) ?_
            refine at_seq ?_
            refine aq [(2, .go (owns 1 0 1))] [4] [(5, .int .i64 6)] ([]) (fun _ => by kernel_rfl) al0 ?_
            refine done_seq ?_
            refine at_back (owns 1 0 1) (.tuple #[.agg #[.slice none 0 0], .int .i64 6]) [] (by kernel_rfl) (by kernel_rfl) al0 ?_
            refine om 6 [(7, .go (owns 0 0 1))] [4, 7] (fun γ290 => [(8, .pointer (some ⟨γ290 0, 0, none⟩)), (9, .int .i64 6)]) (fun γ290 L => bx (γ290 0) (#[.slice none 0 0]) 24 :: L) (fun γ290 => []) (fun _ => by kernel_rfl) (fun γ290 => al0) (fun γ290 => ?_)
            refine ops_nil ?_
            refine done_seq ?_
            refine at_seq ?_
            refine at_any (by kernel_rfl) ?_
            refine any_tk (f := 5) [2] [] [4, 7, 8] [(18, .int .i64 6)] ([]) #[false, false, true, false, false, false] (by kernel_rfl) (by kernel_rfl) al0 ?_
            refine any_cut 0 #[true, true, true, true, true, true] ([(4, .pointer (some ⟨γ1 2, 0, none⟩)), (5, .int .i64 0), (6, .int .i64 6)]) ([bx (γ290 0) (#[.slice none 0 0]) 24, bx (γ153 0) (#[.slice (some ⟨g31, 0, none⟩) n cq31]) 24, bx (γ4 1) (#[.slice none 0 0]) 24, bx (γ4 0) (#[.slice p n cap]) 24, bx (γ2 0) (#[.int .i64 0]) 3, bx (γ1 2) (#[.slice none 0 0]) 24, bx (γ1 1) (#[.int .i64 own]) 3, bx (γ1 0) (#[.slice p n cap]) 24, bx g31 cs31 40]) ?_ (fun hm => ?_)
            rotate_left
            ·
              refine any_fork [0, 1] (by kernel_rfl) (by simp) (each_cons _ rfl ?_ (each_cons _ rfl ?_ (each_nil)))
              ·
                refine oq 1 [(0, .go (owns 0 0 1))] [4, 7, 18] [(16, .agg #[.slice none 0 0])] ([]) (fun _ => by kernel_rfl) al0 ?_
                refine ops_nil ?_
                refine done_any ?_
                refine any_fork [1, 3] (by kernel_rfl) (by simp) (each_cons _ rfl ?_ (each_cons _ rfl ?_ (each_nil)))
                ·
                  refine oq 1 [(1, .go (owns 4 0 1))] [4, 16, 18] [(17, .int .i64 0)] ([]) (fun _ => by kernel_rfl) al0 ?_
                  refine ops_nil ?_
                  refine done_any ?_
                  refine any_one 3 _ (by kernel_rfl) rfl ?_
                  refine oq 1 [(3, .go (owns 5 0 1))] [4, 17, 18] [] ([]) (fun _ => by kernel_rfl) al0 ?_
                  refine ops_nil ?_
                  refine done_any ?_
                  refine any_tk (f := 0) [4, 5] [] [4] [(5, .int .i64 0), (6, .int .i64 6)] ([]) #[true, true, true, true, true, true] (by kernel_rfl) (by kernel_rfl) al0 ?_
                  exact any_weak hm [4, 5, 6] (by kernel_rfl) rfl rfl rfl
                ·
                  refine oq 1 [(3, .go (owns 5 0 1))] [4, 7, 18] [] ([]) (fun _ => by kernel_rfl) al0 ?_
                  refine ops_nil ?_
                  refine done_any ?_
                  refine any_one 1 _ (by kernel_rfl) rfl ?_
                  refine oq 1 [(1, .go (owns 4 0 1))] [4, 18] [(17, .int .i64 0)] ([]) (fun _ => by kernel_rfl) al0 ?_
                  refine ops_nil ?_
                  refine done_any ?_
                  refine any_tk (f := 0) [4, 5] [] [4] [(5, .int .i64 0), (6, .int .i64 6)] ([]) #[true, true, true, true, true, true] (by kernel_rfl) (by kernel_rfl) al0 ?_
                  exact any_weak hm [4, 5, 6] (by kernel_rfl) rfl rfl rfl
              ·
                refine oq 1 [(1, .go (owns 4 0 1))] [4, 8, 18] [(17, .int .i64 0)] ([]) (fun _ => by kernel_rfl) al0 ?_
                refine ops_nil ?_
                refine done_any ?_
                refine any_one 0 _ (by kernel_rfl) rfl ?_
                refine oq 1 [(0, .go (owns 0 0 1))] [4, 17, 18] [(16, .agg #[.slice none 0 0])] ([]) (fun _ => by kernel_rfl) al0 ?_
                refine ops_nil ?_
                refine done_any ?_
                refine any_one 3 _ (by kernel_rfl) rfl ?_
                refine oq 1 [(3, .go (owns 5 0 1))] [4, 17, 18] [] ([]) (fun _ => by kernel_rfl) al0 ?_
                refine ops_nil ?_
                refine done_any ?_
                refine any_tk (f := 0) [4, 5] [] [4] [(5, .int .i64 0), (6, .int .i64 6)] ([]) #[true, true, true, true, true, true] (by kernel_rfl) (by kernel_rfl) al0 ?_
                exact any_weak hm [4, 5, 6] (by kernel_rfl) rfl rfl rfl
            refine any_nil (by kernel_rfl) ?_
            refine done_seq ?_
            refine at_return (owns 5 0 1) (.tuple #[.agg #[.slice none 0 0], .int .i64 0, .int .i64 6]) [] (by kernel_rfl) (by kernel_rfl) al0 ?_
            exact fun w' hw => by rw [openV_full q6 q157 (open_end hI (by omega)) q284]; exact ⟨none, 0, 0, [], rfl, SlO.nil, hw.below, hw.sub (List.nil_sublist _)⟩
          ·
            refine aq [(1, .no)] [0, 1, 2, 5] [(32, .bool false)] ([¬ (((j : Nat) : Int) = (32 : Int))]) (fun _ => by kernel_rfl) (al1 q284) ?_
            refine done_seq ?_
            refine at_false (by kernel_rfl) ?_
            refine at_skip ?_
            refine done_seq ?_
            refine at_seq ?_
            refine am [(1, .fit), (2, .go (owns 3 0 1))] [0, 1, 2, 5] (fun _ => []) (fun _ L => (L.set 3 (bx (γ2 0) (#[.int .i64 ((j + 1 : Nat))]) 3))) (fun _ => [Fit .i64 ((j + 1 : Nat))]) (fun _ => by kernel_rfl) (fun _ => (al1 (fit64 (by omega) (by omega)))) (fun _ => ?_)
            refine done_seq ?_
            refine at_seq ?_
            refine at_any (by kernel_rfl) ?_
            refine any_tk (f := 9) [0, 1, 2, 3, 5] [] [1, 2] [(35, .pointer (some ⟨γ153 0, 0, none⟩)), (38, .pointer (some ⟨γ153 0, 0, none⟩)), (40, .int .i64 ((j : Nat)))] ([]) #[true, true, true, true, false, true, false, false, false, false, false, false, false, false] (by kernel_rfl) (by kernel_rfl) al0 ?_
            refine any_cutG 4 #[true, true, true, true, true, true, true, true, true, true, false, false, false, false] (fun γ316 => [(35, .pointer (some ⟨γ153 0, 0, none⟩)), (39, .slice (some ⟨g31, 0, none⟩) n cq31), (40, .int .i64 ((j : Nat))), (44, .slice (some ⟨γ316 0, 0, none⟩) 1 1)]) (fun γ316 => [bx (γ316 0) (#[.int .i64 ((j + 1 : Nat)), .int .i64 own, .int .i64 0, .bool false, .bool false]) 40, bx (γ153 0) (#[.slice (some ⟨g31, 0, none⟩) n cq31]) 24, bx (γ4 1) (#[.slice none 0 0]) 24, bx (γ4 0) (#[.slice p n cap]) 24, bx (γ2 0) (#[.int .i64 ((j + 1 : Nat))]) 3, bx (γ1 2) (#[.slice none 0 0]) 24, bx (γ1 1) (#[.int .i64 own]) 3, bx (γ1 0) (#[.slice p n cap]) 24, bx g31 cs31 40]) (fun γ316 => ?_) (fun hm => ?_)
            rotate_left
            ·
              refine any_fork [4, 6, 7] (by kernel_rfl) (by simp) (each_cons _ rfl ?_ (each_cons _ rfl ?_ (each_cons _ rfl ?_ (each_nil))))
              ·
                refine oq 1 [(4, .go (owns 0 0 1))] [1, 2, 35, 40] [(39, .slice (some ⟨g31, 0, none⟩) n cq31)] ([]) (fun _ => by kernel_rfl) al0 ?_
                refine ops_nil ?_
                refine done_any ?_
                refine any_fork [6, 7] (by kernel_rfl) (by simp) (each_cons _ rfl ?_ (each_cons _ rfl ?_ (each_nil)))
                ·
                  refine oq 1 [(6, .go (owns 3 0 1))] [1, 35, 39, 40] [(41, .int .i64 ((j + 1 : Nat)))] ([]) (fun _ => by kernel_rfl) al0 ?_
                  refine ops_nil ?_
                  refine done_any ?_
                  refine any_one 7 _ (by kernel_rfl) rfl ?_
                  refine oq 1 [(7, .go (owns 5 0 1))] [35, 39, 40, 41] [(42, .int .i64 own)] ([]) (fun _ => by kernel_rfl) al0 ?_
                  refine ops_nil ?_
                  refine done_any ?_
                  refine any_tk (f := 5) [8] [] [35, 39, 40] [(43, .agg #[.int .i64 ((j + 1 : Nat)), .int .i64 own, .int .i64 0, .bool false, .bool false])] ([]) #[true, true, true, true, true, true, true, true, true, false, false, false, false, false] (by kernel_rfl) (by kernel_rfl) al0 ?_
                  refine any_one 9 _ (by kernel_rfl) rfl ?_
                  refine om 1 [] [35, 39, 40] (fun γ321 => [(44, .slice (some ⟨γ321 0, 0, none⟩) 1 1)]) (fun γ321 L => bx (γ321 0) (#[.int .i64 ((j + 1 : Nat)), .int .i64 own, .int .i64 0, .bool false, .bool false]) 40 :: L) (fun γ321 => []) (fun _ => by kernel_rfl) (fun γ321 => al0) (fun γ321 => ?_)
                  refine ops_nil ?_
                  refine done_any ?_
                  exact any_weak (hm fun i => [γ321 0].getD i 0) [35, 39, 40, 44] (by kernel_rfl) rfl rfl rfl
                ·
                  refine oq 1 [(7, .go (owns 5 0 1))] [2, 35, 39, 40] [(42, .int .i64 own)] ([]) (fun _ => by kernel_rfl) al0 ?_
                  refine ops_nil ?_
                  refine done_any ?_
                  refine any_one 6 _ (by kernel_rfl) rfl ?_
                  refine oq 1 [(6, .go (owns 3 0 1))] [35, 39, 40, 42] [(41, .int .i64 ((j + 1 : Nat)))] ([]) (fun _ => by kernel_rfl) al0 ?_
                  refine ops_nil ?_
                  refine done_any ?_
                  refine any_tk (f := 5) [8] [] [35, 39, 40] [(43, .agg #[.int .i64 ((j + 1 : Nat)), .int .i64 own, .int .i64 0, .bool false, .bool false])] ([]) #[true, true, true, true, true, true, true, true, true, false, false, false, false, false] (by kernel_rfl) (by kernel_rfl) al0 ?_
                  refine any_one 9 _ (by kernel_rfl) rfl ?_
                  refine om 1 [] [35, 39, 40] (fun γ325 => [(44, .slice (some ⟨γ325 0, 0, none⟩) 1 1)]) (fun γ325 L => bx (γ325 0) (#[.int .i64 ((j + 1 : Nat)), .int .i64 own, .int .i64 0, .bool false, .bool false]) 40 :: L) (fun γ325 => []) (fun _ => by kernel_rfl) (fun γ325 => al0) (fun γ325 => ?_)
                  refine ops_nil ?_
                  refine done_any ?_
                  exact any_weak (hm fun i => [γ325 0].getD i 0) [35, 39, 40, 44] (by kernel_rfl) rfl rfl rfl
              ·
                refine oq 1 [(6, .go (owns 3 0 1))] [1, 35, 38, 40] [(41, .int .i64 ((j + 1 : Nat)))] ([]) (fun _ => by kernel_rfl) al0 ?_
                refine ops_nil ?_
                refine done_any ?_
                refine any_fork [4, 7] (by kernel_rfl) (by simp) (each_cons _ rfl ?_ (each_cons _ rfl ?_ (each_nil)))
                ·
                  refine oq 1 [(4, .go (owns 0 0 1))] [1, 35, 40, 41] [(39, .slice (some ⟨g31, 0, none⟩) n cq31)] ([]) (fun _ => by kernel_rfl) al0 ?_
                  refine ops_nil ?_
                  refine done_any ?_
                  refine any_one 7 _ (by kernel_rfl) rfl ?_
                  refine oq 1 [(7, .go (owns 5 0 1))] [35, 39, 40, 41] [(42, .int .i64 own)] ([]) (fun _ => by kernel_rfl) al0 ?_
                  refine ops_nil ?_
                  refine done_any ?_
                  refine any_tk (f := 5) [8] [] [35, 39, 40] [(43, .agg #[.int .i64 ((j + 1 : Nat)), .int .i64 own, .int .i64 0, .bool false, .bool false])] ([]) #[true, true, true, true, true, true, true, true, true, false, false, false, false, false] (by kernel_rfl) (by kernel_rfl) al0 ?_
                  refine any_one 9 _ (by kernel_rfl) rfl ?_
                  refine om 1 [] [35, 39, 40] (fun γ330 => [(44, .slice (some ⟨γ330 0, 0, none⟩) 1 1)]) (fun γ330 L => bx (γ330 0) (#[.int .i64 ((j + 1 : Nat)), .int .i64 own, .int .i64 0, .bool false, .bool false]) 40 :: L) (fun γ330 => []) (fun _ => by kernel_rfl) (fun γ330 => al0) (fun γ330 => ?_)
                  refine ops_nil ?_
                  refine done_any ?_
                  exact any_weak (hm fun i => [γ330 0].getD i 0) [35, 39, 40, 44] (by kernel_rfl) rfl rfl rfl
                ·
                  refine oq 1 [(7, .go (owns 5 0 1))] [35, 38, 40, 41] [(42, .int .i64 own)] ([]) (fun _ => by kernel_rfl) al0 ?_
                  refine ops_nil ?_
                  refine done_any ?_
                  refine any_tk (f := 6) [8] [] [35, 38, 40] [(43, .agg #[.int .i64 ((j + 1 : Nat)), .int .i64 own, .int .i64 0, .bool false, .bool false])] ([]) #[true, true, true, true, false, true, true, true, true, false, false, false, false, false] (by kernel_rfl) (by kernel_rfl) al0 ?_
                  refine any_fork [4, 9] (by kernel_rfl) (by simp) (each_cons _ rfl ?_ (each_cons _ rfl ?_ (each_nil)))
                  ·
                    refine oq 1 [(4, .go (owns 0 0 1))] [35, 40, 43] [(39, .slice (some ⟨g31, 0, none⟩) n cq31)] ([]) (fun _ => by kernel_rfl) al0 ?_
                    refine ops_nil ?_
                    refine done_any ?_
                    refine any_one 9 _ (by kernel_rfl) rfl ?_
                    refine om 1 [] [35, 39, 40] (fun γ334 => [(44, .slice (some ⟨γ334 0, 0, none⟩) 1 1)]) (fun γ334 L => bx (γ334 0) (#[.int .i64 ((j + 1 : Nat)), .int .i64 own, .int .i64 0, .bool false, .bool false]) 40 :: L) (fun γ334 => []) (fun _ => by kernel_rfl) (fun γ334 => al0) (fun γ334 => ?_)
                    refine ops_nil ?_
                    refine done_any ?_
                    exact any_weak (hm fun i => [γ334 0].getD i 0) [35, 39, 40, 44] (by kernel_rfl) rfl rfl rfl
                  ·
                    refine om 1 [] [35, 38, 40] (fun γ335 => [(44, .slice (some ⟨γ335 0, 0, none⟩) 1 1)]) (fun γ335 L => bx (γ335 0) (#[.int .i64 ((j + 1 : Nat)), .int .i64 own, .int .i64 0, .bool false, .bool false]) 40 :: L) (fun γ335 => []) (fun _ => by kernel_rfl) (fun γ335 => al0) (fun γ335 => ?_)
                    refine ops_nil ?_
                    refine done_any ?_
                    refine any_one 4 _ (by kernel_rfl) rfl ?_
                    refine oq 1 [(4, .go (owns 1 0 1))] [35, 40, 44] [(39, .slice (some ⟨g31, 0, none⟩) n cq31)] ([]) (fun _ => by kernel_rfl) al0 ?_
                    refine ops_nil ?_
                    refine done_any ?_
                    exact any_weak (hm fun i => [γ335 0].getD i 0) [35, 39, 40, 44] (by kernel_rfl) rfl rfl rfl
              ·
                refine oq 1 [(7, .go (owns 5 0 1))] [2, 35, 38, 40] [(42, .int .i64 own)] ([]) (fun _ => by kernel_rfl) al0 ?_
                refine ops_nil ?_
                refine done_any ?_
                refine any_fork [4, 6] (by kernel_rfl) (by simp) (each_cons _ rfl ?_ (each_cons _ rfl ?_ (each_nil)))
                ·
                  refine oq 1 [(4, .go (owns 0 0 1))] [2, 35, 40, 42] [(39, .slice (some ⟨g31, 0, none⟩) n cq31)] ([]) (fun _ => by kernel_rfl) al0 ?_
                  refine ops_nil ?_
                  refine done_any ?_
                  refine any_one 6 _ (by kernel_rfl) rfl ?_
                  refine oq 1 [(6, .go (owns 3 0 1))] [35, 39, 40, 42] [(41, .int .i64 ((j + 1 : Nat)))] ([]) (fun _ => by kernel_rfl) al0 ?_
                  refine ops_nil ?_
                  refine done_any ?_
                  refine any_tk (f := 5) [8] [] [35, 39, 40] [(43, .agg #[.int .i64 ((j + 1 : Nat)), .int .i64 own, .int .i64 0, .bool false, .bool false])] ([]) #[true, true, true, true, true, true, true, true, true, false, false, false, false, false] (by kernel_rfl) (by kernel_rfl) al0 ?_
                  refine any_one 9 _ (by kernel_rfl) rfl ?_
                  refine om 1 [] [35, 39, 40] (fun γ341 => [(44, .slice (some ⟨γ341 0, 0, none⟩) 1 1)]) (fun γ341 L => bx (γ341 0) (#[.int .i64 ((j + 1 : Nat)), .int .i64 own, .int .i64 0, .bool false, .bool false]) 40 :: L) (fun γ341 => []) (fun _ => by kernel_rfl) (fun γ341 => al0) (fun γ341 => ?_)
                  refine ops_nil ?_
                  refine done_any ?_
                  exact any_weak (hm fun i => [γ341 0].getD i 0) [35, 39, 40, 44] (by kernel_rfl) rfl rfl rfl
                ·
                  refine oq 1 [(6, .go (owns 3 0 1))] [35, 38, 40, 42] [(41, .int .i64 ((j + 1 : Nat)))] ([]) (fun _ => by kernel_rfl) al0 ?_
                  refine ops_nil ?_
                  refine done_any ?_
                  refine any_tk (f := 6) [8] [] [35, 38, 40] [(43, .agg #[.int .i64 ((j + 1 : Nat)), .int .i64 own, .int .i64 0, .bool false, .bool false])] ([]) #[true, true, true, true, false, true, true, true, true, false, false, false, false, false] (by kernel_rfl) (by kernel_rfl) al0 ?_
                  refine any_fork [4, 9] (by kernel_rfl) (by simp) (each_cons _ rfl ?_ (each_cons _ rfl ?_ (each_nil)))
                  ·
                    refine oq 1 [(4, .go (owns 0 0 1))] [35, 40, 43] [(39, .slice (some ⟨g31, 0, none⟩) n cq31)] ([]) (fun _ => by kernel_rfl) al0 ?_
                    refine ops_nil ?_
                    refine done_any ?_
                    refine any_one 9 _ (by kernel_rfl) rfl ?_
                    refine om 1 [] [35, 39, 40] (fun γ345 => [(44, .slice (some ⟨γ345 0, 0, none⟩) 1 1)]) (fun γ345 L => bx (γ345 0) (#[.int .i64 ((j + 1 : Nat)), .int .i64 own, .int .i64 0, .bool false, .bool false]) 40 :: L) (fun γ345 => []) (fun _ => by kernel_rfl) (fun γ345 => al0) (fun γ345 => ?_)
                    refine ops_nil ?_
                    refine done_any ?_
                    exact any_weak (hm fun i => [γ345 0].getD i 0) [35, 39, 40, 44] (by kernel_rfl) rfl rfl rfl
                  ·
                    refine om 1 [] [35, 38, 40] (fun γ346 => [(44, .slice (some ⟨γ346 0, 0, none⟩) 1 1)]) (fun γ346 L => bx (γ346 0) (#[.int .i64 ((j + 1 : Nat)), .int .i64 own, .int .i64 0, .bool false, .bool false]) 40 :: L) (fun γ346 => []) (fun _ => by kernel_rfl) (fun γ346 => al0) (fun γ346 => ?_)
                    refine ops_nil ?_
                    refine done_any ?_
                    refine any_one 4 _ (by kernel_rfl) rfl ?_
                    refine oq 1 [(4, .go (owns 1 0 1))] [35, 40, 44] [(39, .slice (some ⟨g31, 0, none⟩) n cq31)] ([]) (fun _ => by kernel_rfl) al0 ?_
                    refine ops_nil ?_
                    refine done_any ?_
                    exact any_weak (hm fun i => [γ346 0].getD i 0) [35, 39, 40, 44] (by kernel_rfl) rfl rfl rfl
            refine any_one 10 _ (by kernel_rfl) rfl ?_
            refine ops_call (fun v L' => ∃ q capq Y, v = .slice q (n + 1) capq ∧ L' = [bx (γ153 0) (#[.slice (some ⟨g31, 0, none⟩) n cq31]) 24, bx (γ4 1) (#[.slice none 0 0]) 24, bx (γ4 0) (#[.slice p n cap]) 24, bx (γ2 0) (#[.int .i64 ((j + 1 : Nat))]) 3, bx (γ1 2) (#[.slice none 0 0]) 24, bx (γ1 1) (#[.int .i64 own]) 3, bx (γ1 0) (#[.slice p n cap]) 24] ++ (Y ++ []) ∧ SlO 40 Y q (n + 1) capq (l.take j ++ [⟨(j + 1 : Nat), own, 0, false, false⟩] ++ l.drop j)) (by kernel_rfl) (by kernel_rfl) (by kernel_rfl) (fun args w => Try.call56 args w) (fun w hw => (insert_d _ ([bx (γ153 0) (#[.slice (some ⟨g31, 0, none⟩) n cq31]) 24, bx (γ4 1) (#[.slice none 0 0]) 24, bx (γ4 0) (#[.slice p n cap]) 24, bx (γ2 0) (#[.int .i64 ((j + 1 : Nat))]) 3, bx (γ1 2) (#[.slice none 0 0]) 24, bx (γ1 1) (#[.int .i64 own]) 3, bx (γ1 0) (#[.slice p n cap]) 24] ++ []) [bx g31 cs31 40] (some ⟨g31, 0, none⟩) n cq31 l j (γ316 0) (#[.int .i64 ((j + 1 : Nat)), .int .i64 own, .int .i64 0, .bool false, .bool false]) 1 ([⟨(j + 1 : Nat), own, 0, false, false⟩]) w (hw.pull (A := [bx (γ153 0) (#[.slice (some ⟨g31, 0, none⟩) n cq31]) 24, bx (γ4 1) (#[.slice none 0 0]) 24, bx (γ4 0) (#[.slice p n cap]) 24, bx (γ2 0) (#[.int .i64 ((j + 1 : Nat))]) 3, bx (γ1 2) (#[.slice none 0 0]) 24, bx (γ1 1) (#[.int .i64 own]) 3, bx (γ1 0) (#[.slice p n cap]) 24]) (Y := [bx g31 cs31 40]) (R := [])) hO31 (by rfl) (by rfl) (by omega) (by omega) (by omega) (by omega)).mono fun e w' ⟨q, capq, Y', he, hO, hY⟩ => ⟨_, _, he, ⟨q, capq, Y', rfl, rfl, hO⟩, hY.push⟩) ?_
            rintro v348 L348 ⟨q348, cq348, Y348, rfl, rfl, hO348⟩
            refine ops_nil ?_
            refine done_any ?_
            refine any_tk (f := 1) [11, 12] [] [45] [(47, .pointer (some ⟨γ153 0, 0, none⟩))] ([]) #[true, true, true, true, true, true, true, true, true, true, true, true, true, false] (by kernel_rfl) (by kernel_rfl) al0 ?_
            refine any_one 13 _ (by kernel_rfl) rfl ?_
            refine om 1 [(13, .go (owns 0 0 1))] [] (fun _ => []) (fun _ L => (L.set 0 (bx (γ153 0) (#[.slice q348 (n + 1) cq348]) 24))) (fun _ => []) (fun _ => by kernel_rfl) (fun _ => al0) (fun _ => ?_)
            refine ops_nil ?_
            refine done_any ?_
            refine any_nil (by kernel_rfl) ?_
            refine done_seq ?_
            refine at_seq ?_
            refine aq [] [] [(4, .int .i64 0)] ([]) (fun _ => by kernel_rfl) al0 ?_
            refine done_seq ?_
            refine at_back ([]) (.int .i64 0) [] (by kernel_rfl) (by kernel_rfl) al0 ?_
            refine oq 1 [] [4, 7] [(8, .int .i64 0)] ([]) (fun _ => by kernel_rfl) al0 ?_
            refine ops_nil ?_
            refine done_seq ?_
            refine at_seq ?_
            refine aq [] [4, 7, 8] [(22, .bool false)] ([]) (fun _ => by kernel_rfl) al0 ?_
            refine done_seq ?_
            refine at_false (by kernel_rfl) ?_
            refine at_skip ?_
            refine done_seq ?_
            refine at_seq ?_
            refine am [(0, .go (owns 0 0 1)), (1, .go (owns 1 0 1))] [4] (fun _ => [(5, .int .i64 0)]) (fun _ L => (L.set 1 (bx (γ4 1) (#[.slice q348 (n + 1) cq348]) 24))) (fun _ => []) (fun _ => by kernel_rfl) (fun _ => al0) (fun _ => ?_)
            refine done_seq ?_
            refine at_back (owns 1 0 1) (.tuple #[.agg #[.slice q348 (n + 1) cq348], .int .i64 0]) [] (by kernel_rfl) (by kernel_rfl) al0 ?_
            refine om 6 [(7, .go (owns 0 0 1))] [4, 7] (fun γ355 => [(8, .pointer (some ⟨γ355 0, 0, none⟩)), (9, .int .i64 0)]) (fun γ355 L => bx (γ355 0) (#[.slice q348 (n + 1) cq348]) 24 :: L) (fun γ355 => []) (fun _ => by kernel_rfl) (fun γ355 => al0) (fun γ355 => ?_)
            refine ops_nil ?_
            refine done_seq ?_
            refine at_seq ?_
            refine at_any (by kernel_rfl) ?_
            refine any_tk (f := 5) [2] [] [4, 7, 8] [(18, .int .i64 0)] ([]) #[false, false, true, false, false, false] (by kernel_rfl) (by kernel_rfl) al0 ?_
            refine any_cut 0 #[true, true, true, true, true, true] ([(4, .pointer (some ⟨γ1 2, 0, none⟩)), (5, .int .i64 ((j + 1 : Nat))), (6, .int .i64 0)]) (bx (γ355 0) (#[.slice q348 (n + 1) cq348]) 24 :: bx (γ153 0) (#[.slice q348 (n + 1) cq348]) 24 :: bx (γ4 1) (#[.slice q348 (n + 1) cq348]) 24 :: bx (γ4 0) (#[.slice p n cap]) 24 :: bx (γ2 0) (#[.int .i64 ((j + 1 : Nat))]) 3 :: bx (γ1 2) (#[.slice q348 (n + 1) cq348]) 24 :: bx (γ1 1) (#[.int .i64 own]) 3 :: bx (γ1 0) (#[.slice p n cap]) 24 :: (Y348 ++ [])) ?_ (fun hm => ?_)
            rotate_left
            ·
              refine any_fork [0, 1] (by kernel_rfl) (by simp) (each_cons _ rfl ?_ (each_cons _ rfl ?_ (each_nil)))
              ·
                refine oq 1 [(0, .go (owns 0 0 1))] [4, 7, 18] [(16, .agg #[.slice q348 (n + 1) cq348])] ([]) (fun _ => by kernel_rfl) al0 ?_
                refine ops_nil ?_
                refine done_any ?_
                refine any_fork [1, 3] (by kernel_rfl) (by simp) (each_cons _ rfl ?_ (each_cons _ rfl ?_ (each_nil)))
                ·
                  refine oq 1 [(1, .go (owns 4 0 1))] [4, 16, 18] [(17, .int .i64 ((j + 1 : Nat)))] ([]) (fun _ => by kernel_rfl) al0 ?_
                  refine ops_nil ?_
                  refine done_any ?_
                  refine any_one 3 _ (by kernel_rfl) rfl ?_
                  refine om 1 [(3, .go (owns 5 0 1))] [4, 17, 18] (fun _ => []) (fun _ L => (L.set 5 (bx (γ1 2) (#[.slice q348 (n + 1) cq348]) 24))) (fun _ => []) (fun _ => by kernel_rfl) (fun _ => al0) (fun _ => ?_)
                  refine ops_nil ?_
                  refine done_any ?_
                  refine any_tk (f := 0) [4, 5] [] [4] [(5, .int .i64 ((j + 1 : Nat))), (6, .int .i64 0)] ([]) #[true, true, true, true, true, true] (by kernel_rfl) (by kernel_rfl) al0 ?_
                  exact any_weak hm [4, 5, 6] (by kernel_rfl) rfl rfl rfl
                ·
                  refine om 1 [(3, .go (owns 5 0 1))] [4, 7, 18] (fun _ => []) (fun _ L => (L.set 5 (bx (γ1 2) (#[.slice q348 (n + 1) cq348]) 24))) (fun _ => []) (fun _ => by kernel_rfl) (fun _ => al0) (fun _ => ?_)
                  refine ops_nil ?_
                  refine done_any ?_
                  refine any_one 1 _ (by kernel_rfl) rfl ?_
                  refine oq 1 [(1, .go (owns 4 0 1))] [4, 18] [(17, .int .i64 ((j + 1 : Nat)))] ([]) (fun _ => by kernel_rfl) al0 ?_
                  refine ops_nil ?_
                  refine done_any ?_
                  refine any_tk (f := 0) [4, 5] [] [4] [(5, .int .i64 ((j + 1 : Nat))), (6, .int .i64 0)] ([]) #[true, true, true, true, true, true] (by kernel_rfl) (by kernel_rfl) al0 ?_
                  exact any_weak hm [4, 5, 6] (by kernel_rfl) rfl rfl rfl
              ·
                refine oq 1 [(1, .go (owns 4 0 1))] [4, 8, 18] [(17, .int .i64 ((j + 1 : Nat)))] ([]) (fun _ => by kernel_rfl) al0 ?_
                refine ops_nil ?_
                refine done_any ?_
                refine any_one 0 _ (by kernel_rfl) rfl ?_
                refine oq 1 [(0, .go (owns 0 0 1))] [4, 17, 18] [(16, .agg #[.slice q348 (n + 1) cq348])] ([]) (fun _ => by kernel_rfl) al0 ?_
                refine ops_nil ?_
                refine done_any ?_
                refine any_one 3 _ (by kernel_rfl) rfl ?_
                refine om 1 [(3, .go (owns 5 0 1))] [4, 17, 18] (fun _ => []) (fun _ L => (L.set 5 (bx (γ1 2) (#[.slice q348 (n + 1) cq348]) 24))) (fun _ => []) (fun _ => by kernel_rfl) (fun _ => al0) (fun _ => ?_)
                refine ops_nil ?_
                refine done_any ?_
                refine any_tk (f := 0) [4, 5] [] [4] [(5, .int .i64 ((j + 1 : Nat))), (6, .int .i64 0)] ([]) #[true, true, true, true, true, true] (by kernel_rfl) (by kernel_rfl) al0 ?_
                exact any_weak hm [4, 5, 6] (by kernel_rfl) rfl rfl rfl
            refine any_nil (by kernel_rfl) ?_
            refine done_seq ?_
            refine at_return (owns 5 0 1) (.tuple #[.agg #[.slice q348 (n + 1) cq348], .int .i64 ((j + 1 : Nat)), .int .i64 0]) [] (by kernel_rfl) (by kernel_rfl) al0 ?_
            exact fun w' hw => by rw [openV_ok q6 q157 (open_end hI (by omega)) q284]; exact ⟨_, _, _, _, rfl, hO348, hw.below, ((hw.tailN 8).sub (List.sublist_append_left Y348 ([])))⟩
end Go.Proofs.Ytfhlmijdokfdpaa
