/- Texts of this proof, one behind the other. -/
import Derived.Test.YtfhlmijdokfdpaaZc
import Derived.Test.YtfhlmijdokfdpaaZb
import Derived.Laws.StructEq
/-! event.Open. -/
namespace Go.Proofs.Ytfhlmijdokfdpaa
open Go Go.RowKit

set_option maxRecDepth 100000 in
theorem open_d (p : Option Addr) (n cap : Nat) (l : List Port) (own : Int) (w : World)
 (hsl : Sv w p l) (hn : n = l.length) (hb : n ≤ 1000)
 : Calls Try.prog 28 #[.agg #[.slice p n cap], .int .i64 own] w fun e w' => ∃ q m capq Y, e = .returned (.tuple #[.agg #[.slice q m capq], .int .i64 (openV l own).2.1, .int .i64 (openV l own).2.2]) ∧ SlO 40 Y q m capq (openV l own).1 ∧ Below w.heap.size w w' ∧ Hs w Y w' := by
 refine enter (Hs.start w) Try.func28 rfl Try.ntmps28 rfl ?_
 refine at_seq ?_
 refine am [] [] (fun γ1 => [(2, .pointer (some ⟨γ1 0, 0, none⟩)), (3, .pointer (some ⟨γ1 1, 0, none⟩)), (4, .pointer (some ⟨γ1 2, 0, none⟩))]) (fun γ1 L => bx (γ1 2) (#[.slice none 0 0]) 24 :: bx (γ1 1) (#[.int .i64 own]) 3 :: bx (γ1 0) (#[.slice p n cap]) 24 :: L) (fun γ1 => []) (fun _ => by kernel_rfl) (fun γ1 => al0) (fun γ1 => ?_)
 refine done_seq ?_
 refine at_seq ?_
 refine am [(1, .go (owns 0 0 1))] [2, 3, 4] (fun γ2 => [(7, .pointer (some ⟨γ2 0, 0, none⟩))]) (fun γ2 L => bx (γ2 0) (#[.int .i64 0]) 3 :: L) (fun γ2 => []) (fun _ => by kernel_rfl) (fun γ2 => al0) (fun γ2 => ?_)
 refine done_seq ?_
 refine at_seq ?_
 refine at_ops ?_
 refine oq 2 [(0, .go (owns 3 0 1))] [4, 7] [(11, .agg #[.slice p n cap]), (12, .func (.func 55) #[] #[.pointer (some ⟨γ1 1, 0, none⟩), .pointer (some ⟨γ2 0, 0, none⟩)])] ([]) (fun _ => by kernel_rfl) al0 ?_
 refine ops_inline (g := 54) (args := #[.agg #[.slice p n cap], .func (.func 55) #[] #[.pointer (some ⟨γ1 1, 0, none⟩), .pointer (some ⟨γ2 0, 0, none⟩)]]) (by kernel_rfl) (by kernel_rfl) (by kernel_rfl) (fun args w => Try.call54 args w) Try.func54 rfl Try.ntmps54 rfl ?_
 refine at_seq ?_
 refine am [] [1] (fun γ4 => [(2, .pointer (some ⟨γ4 0, 0, none⟩)), (4, .pointer (some ⟨γ4 1, 0, none⟩))]) (fun γ4 L => bx (γ4 1) (#[.slice none 0 0]) 24 :: bx (γ4 0) (#[.slice p n cap]) 24 :: L) (fun γ4 => []) (fun _ => by kernel_rfl) (fun γ4 => al0) (fun γ4 => ?_)
 refine done_seq ?_
 refine at_seq ?_
 refine at_seq ?_
 refine at_ops ?_
 refine oq 1 [(0, .go (owns 1 0 1))] [1, 2, 4] [(9, .agg #[.slice p n cap])] ([]) (fun _ => by kernel_rfl) al0 ?_
 rcases q6 : rightB l with _ | _
 ·
  refine ops_callD (.int .i64 260) (by kernel_rfl) (by kernel_rfl) (by kernel_rfl) (fun args w => Try.call16 args w) (fun w hw => by have := check_d p n cap l w (hsl.kept hw.below) hn hb; rw [q6] at this; exact this) ?_
  refine oq 1 [] [1, 2, 4] [(6, .int .i64 260)] ([]) (fun _ => by kernel_rfl) al0 ?_
  refine ops_nil ?_
  refine done_seq ?_
  refine at_seq ?_
  refine aq [] [1, 2, 4, 6] [(12, .bool true)] ([]) (fun _ => by kernel_rfl) al0 ?_
  refine done_seq ?_
  refine at_true (by kernel_rfl) ?_
  refine at_seq ?_
  refine aq [(2, .go (owns 0 0 1))] [4] [(5, .int .i64 260)] ([]) (fun _ => by kernel_rfl) al0 ?_
  refine done_seq ?_
  refine at_back (owns 0 0 1) (.tuple #[.agg #[.slice none 0 0], .int .i64 260]) [] (by kernel_rfl) (by kernel_rfl) al0 ?_
  refine om 6 [(7, .go (owns 0 0 1))] [4, 7] (fun γ10 => [(8, .pointer (some ⟨γ10 0, 0, none⟩)), (9, .int .i64 260)]) (fun γ10 L => bx (γ10 0) (#[.slice none 0 0]) 24 :: L) (fun γ10 => []) (fun _ => by kernel_rfl) (fun γ10 => al0) (fun γ10 => ?_)
  refine ops_nil ?_
  refine done_seq ?_
  refine at_seq ?_
  refine at_any (by kernel_rfl) ?_
  refine any_tk (f := 5) [2] [] [4, 7, 8] [(18, .int .i64 260)] ([]) #[false, false, true, false, false, false] (by kernel_rfl) (by kernel_rfl) al0 ?_
  refine any_cut 0 #[true, true, true, true, true, true] ([(4, .pointer (some ⟨γ1 2, 0, none⟩)), (5, .int .i64 0), (6, .int .i64 260)]) ([bx (γ10 0) (#[.slice none 0 0]) 24, bx (γ4 1) (#[.slice none 0 0]) 24, bx (γ4 0) (#[.slice p n cap]) 24, bx (γ2 0) (#[.int .i64 0]) 3, bx (γ1 2) (#[.slice none 0 0]) 24, bx (γ1 1) (#[.int .i64 own]) 3, bx (γ1 0) (#[.slice p n cap]) 24]) ?_ (fun hm => ?_)
  rotate_left
  ·
   refine any_fork [0, 1] (by kernel_rfl) (by simp) (each_cons _ rfl ?_ (each_cons _ rfl ?_ (each_nil)))
   ·
    refine oq 1 [(0, .go (owns 0 0 1))] [4, 7, 18] [(16, .agg #[.slice none 0 0])] ([]) (fun _ => by kernel_rfl) al0 ?_
    refine ops_nil ?_
    refine done_any ?_
    refine any_fork [1, 3] (by kernel_rfl) (by simp) (each_cons _ rfl ?_ (each_cons _ rfl ?_ (each_nil)))
    ·
     refine oq 1 [(1, .go (owns 3 0 1))] [4, 16, 18] [(17, .int .i64 0)] ([]) (fun _ => by kernel_rfl) al0 ?_
     refine ops_nil ?_
     refine done_any ?_
     refine any_one 3 _ (by kernel_rfl) rfl ?_
     refine oq 1 [(3, .go (owns 4 0 1))] [4, 17, 18] [] ([]) (fun _ => by kernel_rfl) al0 ?_
     refine ops_nil ?_
     refine done_any ?_
     refine any_tk (f := 0) [4, 5] [] [4] [(5, .int .i64 0), (6, .int .i64 260)] ([]) #[true, true, true, true, true, true] (by kernel_rfl) (by kernel_rfl) al0 ?_
     exact any_weak hm [4, 5, 6] (by kernel_rfl) rfl rfl rfl
    ·
     refine oq 1 [(3, .go (owns 4 0 1))] [4, 7, 18] [] ([]) (fun _ => by kernel_rfl) al0 ?_
     refine ops_nil ?_
     refine done_any ?_
     refine any_one 1 _ (by kernel_rfl) rfl ?_
     refine oq 1 [(1, .go (owns 3 0 1))] [4, 18] [(17, .int .i64 0)] ([]) (fun _ => by kernel_rfl) al0 ?_
     refine ops_nil ?_
     refine done_any ?_
     refine any_tk (f := 0) [4, 5] [] [4] [(5, .int .i64 0), (6, .int .i64 260)] ([]) #[true, true, true, true, true, true] (by kernel_rfl) (by kernel_rfl) al0 ?_
     exact any_weak hm [4, 5, 6] (by kernel_rfl) rfl rfl rfl
   ·
    refine oq 1 [(1, .go (owns 3 0 1))] [4, 8, 18] [(17, .int .i64 0)] ([]) (fun _ => by kernel_rfl) al0 ?_
    refine ops_nil ?_
    refine done_any ?_
    refine any_one 0 _ (by kernel_rfl) rfl ?_
    refine oq 1 [(0, .go (owns 0 0 1))] [4, 17, 18] [(16, .agg #[.slice none 0 0])] ([]) (fun _ => by kernel_rfl) al0 ?_
    refine ops_nil ?_
    refine done_any ?_
    refine any_one 3 _ (by kernel_rfl) rfl ?_
    refine oq 1 [(3, .go (owns 4 0 1))] [4, 17, 18] [] ([]) (fun _ => by kernel_rfl) al0 ?_
    refine ops_nil ?_
    refine done_any ?_
    refine any_tk (f := 0) [4, 5] [] [4] [(5, .int .i64 0), (6, .int .i64 260)] ([]) #[true, true, true, true, true, true] (by kernel_rfl) (by kernel_rfl) al0 ?_
    exact any_weak hm [4, 5, 6] (by kernel_rfl) rfl rfl rfl
  refine any_nil (by kernel_rfl) ?_
  refine done_seq ?_
  refine at_return (owns 4 0 1) (.tuple #[.agg #[.slice none 0 0], .int .i64 0, .int .i64 260]) [] (by kernel_rfl) (by kernel_rfl) al0 ?_
  exact fun w' hw => by rw [openV_bad q6]; exact ⟨none, 0, 0, [], rfl, SlO.nil, hw.below, hw.sub (List.nil_sublist _)⟩
 ·
  refine ops_callD (.int .i64 0) (by kernel_rfl) (by kernel_rfl) (by kernel_rfl) (fun args w => Try.call16 args w) (fun w hw => by have := check_d p n cap l w (hsl.kept hw.below) hn hb; rw [q6] at this; exact this) ?_
  refine oq 1 [] [1, 2, 4] [(6, .int .i64 0)] ([]) (fun _ => by kernel_rfl) al0 ?_
  refine ops_nil ?_
  refine done_seq ?_
  refine at_seq ?_
  refine aq [] [1, 2, 4, 6] [(12, .bool false)] ([]) (fun _ => by kernel_rfl) al0 ?_
  refine done_seq ?_
  refine at_false (by kernel_rfl) ?_
  refine at_skip ?_
  refine done_seq ?_
  refine at_seq ?_
  refine at_ops ?_
  refine oq 2 [(1, .go (owns 1 0 1))] [1, 4] [(16, .slice p n cap)] ([]) (fun _ => by kernel_rfl) al0 ?_
  refine ops_call (fun v L' => ∃ q capq Y, v = .slice q n capq ∧ L' = List.take 6 ([bx (γ4 1) (#[.slice none 0 0]) 24, bx (γ4 0) (#[.slice p n cap]) 24, bx (γ2 0) (#[.int .i64 0]) 3, bx (γ1 2) (#[.slice none 0 0]) 24, bx (γ1 1) (#[.int .i64 own]) 3, bx (γ1 0) (#[.slice p n cap]) 24]) ++ (Y ++ List.drop 6 ([bx (γ4 1) (#[.slice none 0 0]) 24, bx (γ4 0) (#[.slice p n cap]) 24, bx (γ2 0) (#[.int .i64 0]) 3, bx (γ1 2) (#[.slice none 0 0]) 24, bx (γ1 1) (#[.int .i64 own]) 3, bx (γ1 0) (#[.slice p n cap]) 24])) ∧ SlO 40 Y q n capq l) (by kernel_rfl) (by kernel_rfl) (by kernel_rfl) (fun args w => Try.call72 args w) (fun w hw => (clone_d p n cap l w (hsl.kept hw.below) hn (by omega)).mono fun e w' ⟨q, capq, Y, he, hO, hb, hY⟩ => ⟨_, _, he, ⟨q, capq, Y, rfl, rfl, hO⟩, hw.join hb hY 6⟩) ?_
  rintro v31 L31 ⟨q31, cq31, Y31, rfl, rfl, hO31⟩
  have hnq31 := hO31.len
  rcases hO31.parts with ⟨rfl, rfl, hz31⟩ | ⟨g31, cs31, rfl, rfl, hOw31⟩
  ·
   refine om 3 [(5, .go (owns 0 0 1))] [1, 4] (fun γ32 => [(7, .pointer (some ⟨γ32 0, 0, none⟩))]) (fun γ32 L => bx (γ32 0) (#[.slice none n cq31]) 24 :: L) (fun γ32 => []) (fun _ => by kernel_rfl) (fun γ32 => al0) (fun γ32 => ?_)
   refine ops_nil ?_
   refine done_seq ?_
   refine at_seq ?_
   refine at_seq ?_
   refine at_ops ?_
   refine oq 1 [] [4, 7] [(19, .func (.func 55) #[] #[.pointer (some ⟨γ1 1, 0, none⟩), .pointer (some ⟨γ2 0, 0, none⟩)])] ([]) (fun _ => by kernel_rfl) al0 ?_
   refine ops_inline (g := 55) (args := #[.pointer (some ⟨γ32 0, 0, none⟩), .pointer (some ⟨γ1 1, 0, none⟩), .pointer (some ⟨γ2 0, 0, none⟩)]) (by kernel_rfl) (by kernel_rfl) (by kernel_rfl) (fun args w => Try.call55 args w) Try.func55 rfl Try.ntmps55 rfl ?_
   refine at_seq ?_
   refine aq [] [0, 1, 2] [] ([]) (fun _ => by kernel_rfl) al0 ?_
   refine done_seq ?_
   refine at_seq ?_
   refine at_seq ?_
   refine at_ops ?_
   refine oq 1 [(0, .go (owns 5 0 1))] [0, 1, 2] [(6, .int .i64 own)] ([]) (fun _ => by kernel_rfl) al0 ?_
   rcases q36 : vcpuB own with _ | _
   ·
    refine ops_callD (.bool false) (by kernel_rfl) (by kernel_rfl) (by kernel_rfl) (fun args w => Try.call31 args w) (fun w hw => by have := vcpu_d own w; rw [q36] at this; exact this) ?_
    refine oq 1 [] [0, 1, 2] [(8, .bool true)] ([]) (fun _ => by kernel_rfl) al0 ?_
    refine ops_nil ?_
    refine done_seq ?_
    refine at_true (by kernel_rfl) ?_
    refine at_seq ?_
    refine aq [] [] [(4, .int .i64 2)] ([]) (fun _ => by kernel_rfl) al0 ?_
    refine done_seq ?_
    refine at_back ([]) (.int .i64 2) [] (by kernel_rfl) (by kernel_rfl) al0 ?_
    refine oq 1 [] [4, 7] [(8, .int .i64 2)] ([]) (fun _ => by kernel_rfl) al0 ?_
    refine ops_nil ?_
    refine done_seq ?_
    refine at_seq ?_
    refine aq [] [4, 7, 8] [(22, .bool true)] ([]) (fun _ => by kernel_rfl) al0 ?_
    refine done_seq ?_
    refine at_true (by kernel_rfl) ?_
    refine at_seq ?_
    refine aq [(2, .go (owns 1 0 1))] [4] [(5, .int .i64 2)] ([]) (fun _ => by kernel_rfl) al0 ?_
    refine done_seq ?_
    refine at_back (owns 1 0 1) (.tuple #[.agg #[.slice none 0 0], .int .i64 2]) [] (by kernel_rfl) (by kernel_rfl) al0 ?_
    refine om 6 [(7, .go (owns 0 0 1))] [4, 7] (fun γ42 => [(8, .pointer (some ⟨γ42 0, 0, none⟩)), (9, .int .i64 2)]) (fun γ42 L => bx (γ42 0) (#[.slice none 0 0]) 24 :: L) (fun γ42 => []) (fun _ => by kernel_rfl) (fun γ42 => al0) (fun γ42 => ?_)
    refine ops_nil ?_
    refine done_seq ?_
    refine at_seq ?_
    refine at_any (by kernel_rfl) ?_
    refine any_tk (f := 5) [2] [] [4, 7, 8] [(18, .int .i64 2)] ([]) #[false, false, true, false, false, false] (by kernel_rfl) (by kernel_rfl) al0 ?_
    refine any_cut 0 #[true, true, true, true, true, true] ([(4, .pointer (some ⟨γ1 2, 0, none⟩)), (5, .int .i64 0), (6, .int .i64 2)]) ([bx (γ42 0) (#[.slice none 0 0]) 24, bx (γ32 0) (#[.slice none n cq31]) 24, bx (γ4 1) (#[.slice none 0 0]) 24, bx (γ4 0) (#[.slice p n cap]) 24, bx (γ2 0) (#[.int .i64 0]) 3, bx (γ1 2) (#[.slice none 0 0]) 24, bx (γ1 1) (#[.int .i64 own]) 3, bx (γ1 0) (#[.slice p n cap]) 24]) ?_ (fun hm => ?_)
    rotate_left
    ·
     refine any_fork [0, 1] (by kernel_rfl) (by simp) (each_cons _ rfl ?_ (each_cons _ rfl ?_ (each_nil)))
     ·
      refine oq 1 [(0, .go (owns 0 0 1))] [4, 7, 18] [(16, .agg #[.slice none 0 0])] ([]) (fun _ => by kernel_rfl) al0 ?_
      refine ops_nil ?_
      refine done_any ?_
      refine any_fork [1, 3] (by kernel_rfl) (by simp) (each_cons _ rfl ?_ (each_cons _ rfl ?_ (each_nil)))
      ·
       refine oq 1 [(1, .go (owns 4 0 1))] [4, 16, 18] [(17, .int .i64 0)] ([]) (fun _ => by kernel_rfl) al0 ?_
       refine ops_nil ?_
       refine done_any ?_
       refine any_one 3 _ (by kernel_rfl) rfl ?_
       refine oq 1 [(3, .go (owns 5 0 1))] [4, 17, 18] [] ([]) (fun _ => by kernel_rfl) al0 ?_
       refine ops_nil ?_
       refine done_any ?_
       refine any_tk (f := 0) [4, 5] [] [4] [(5, .int .i64 0), (6, .int .i64 2)] ([]) #[true, true, true, true, true, true] (by kernel_rfl) (by kernel_rfl) al0 ?_
       exact any_weak hm [4, 5, 6] (by kernel_rfl) rfl rfl rfl
      ·
       refine oq 1 [(3, .go (owns 5 0 1))] [4, 7, 18] [] ([]) (fun _ => by kernel_rfl) al0 ?_
       refine ops_nil ?_
       refine done_any ?_
       refine any_one 1 _ (by kernel_rfl) rfl ?_
       refine oq 1 [(1, .go (owns 4 0 1))] [4, 18] [(17, .int .i64 0)] ([]) (fun _ => by kernel_rfl) al0 ?_
       refine ops_nil ?_
       refine done_any ?_
       refine any_tk (f := 0) [4, 5] [] [4] [(5, .int .i64 0), (6, .int .i64 2)] ([]) #[true, true, true, true, true, true] (by kernel_rfl) (by kernel_rfl) al0 ?_
       exact any_weak hm [4, 5, 6] (by kernel_rfl) rfl rfl rfl
     ·
      refine oq 1 [(1, .go (owns 4 0 1))] [4, 8, 18] [(17, .int .i64 0)] ([]) (fun _ => by kernel_rfl) al0 ?_
      refine ops_nil ?_
      refine done_any ?_
      refine any_one 0 _ (by kernel_rfl) rfl ?_
      refine oq 1 [(0, .go (owns 0 0 1))] [4, 17, 18] [(16, .agg #[.slice none 0 0])] ([]) (fun _ => by kernel_rfl) al0 ?_
      refine ops_nil ?_
      refine done_any ?_
      refine any_one 3 _ (by kernel_rfl) rfl ?_
      refine oq 1 [(3, .go (owns 5 0 1))] [4, 17, 18] [] ([]) (fun _ => by kernel_rfl) al0 ?_
      refine ops_nil ?_
      refine done_any ?_
      refine any_tk (f := 0) [4, 5] [] [4] [(5, .int .i64 0), (6, .int .i64 2)] ([]) #[true, true, true, true, true, true] (by kernel_rfl) (by kernel_rfl) al0 ?_
      exact any_weak hm [4, 5, 6] (by kernel_rfl) rfl rfl rfl
    refine any_nil (by kernel_rfl) ?_
    refine done_seq ?_
    refine at_return (owns 5 0 1) (.tuple #[.agg #[.slice none 0 0], .int .i64 0, .int .i64 2]) [] (by kernel_rfl) (by kernel_rfl) al0 ?_
    exact fun w' hw => by rw [openV_arg q6 q36]; exact ⟨none, 0, 0, [], rfl, SlO.nil, hw.below, hw.sub (List.nil_sublist _)⟩
   ·
    refine ops_callD (.bool true) (by kernel_rfl) (by kernel_rfl) (by kernel_rfl) (fun args w => Try.call31 args w) (fun w hw => by have := vcpu_d own w; rw [q36] at this; exact this) ?_
    refine oq 1 [] [0, 1, 2] [(8, .bool false)] ([]) (fun _ => by kernel_rfl) al0 ?_
    refine ops_nil ?_
    refine done_seq ?_
    refine at_false (by kernel_rfl) ?_
    refine at_skip ?_
    refine done_seq ?_
    refine at_seq ?_
    refine aq [] [0, 1, 2] [(5, .int .i64 0)] ([]) (fun _ => by kernel_rfl) al0 ?_
    refine done_seq ?_
    refine at_seq ?_
    refine at_block ?_
    refine at_loop (α := Nat) [0, 1, 2, 5] (fun j => [(0, .pointer (some ⟨γ32 0, 0, none⟩)), (1, .pointer (some ⟨γ1 1, 0, none⟩)), (2, .pointer (some ⟨γ2 0, 0, none⟩)), (5, .int .i64 ((j : Nat)))]) (fun j => [bx (γ32 0) (#[.slice none n cq31]) 24, bx (γ4 1) (#[.slice none 0 0]) 24, bx (γ4 0) (#[.slice p n cap]) 24, bx (γ2 0) (#[.int .i64 0]) 3, bx (γ1 2) (#[.slice none 0 0]) 24, bx (γ1 1) (#[.int .i64 own]) 3, bx (γ1 0) (#[.slice p n cap]) 24]) (fun j => j ≤ n ∧ openI (l.drop j) j = openI l 0) (fun j => n - j) 0 (by kernel_rfl) rfl ⟨Nat.zero_le _, by rw [List.drop_zero]⟩ ?_
    rintro j
    rintro ⟨hj, hI⟩
    refine at_seq ?_
    refine at_seq ?_
    refine aq [(4, .go (owns 0 0 1)), (6, .no)] [0, 1, 2, 5] [(28, .bool false)] ([¬ (((j : Nat) : Int) < ((n : Nat) : Int))]) (fun _ => by kernel_rfl) (al1 ((by omega))) ?_
    refine done_seq ?_
    refine at_false (by kernel_rfl) ?_
    refine at_leave _ (by rfl) ?_
    refine done_seq ?_
    refine at_seq ?_
    refine at_seq ?_
    by_cases q64 : ((j : Nat) : Int) = (32 : Int)
    ·
     refine aq [(1, .yes)] [0, 1, 2, 5] [(32, .bool true)] ([((j : Nat) : Int) = (32 : Int)]) (fun _ => by kernel_rfl) (al1 q64) ?_
     refine done_seq ?_
     refine at_true (by kernel_rfl) ?_
     refine at_seq ?_
     refine aq [] [] [(4, .int .i64 6)] ([]) (fun _ => by kernel_rfl) al0 ?_
     refine done_seq ?_
     refine at_back ([]) (.int .i64 6) [] (by kernel_rfl) (by kernel_rfl) al0 ?_
     refine oq 1 [] [4, 7] [(8, .int .i64 6)] ([]) (fun _ => by kernel_rfl) al0 ?_
     refine ops_nil ?_
     refine done_seq ?_
     refine at_seq ?_
     refine aq [] [4, 7, 8] [(22, .bool true)] ([]) (fun _ => by kernel_rfl) al0 ?_
     refine done_seq ?_
     refine at_true (by kernel_rfl) ?_
     refine at_seq ?_
     refine aq [(2, .go (owns 1 0 1))] [4] [(5, .int .i64 6)] ([]) (fun _ => by kernel_rfl) al0 ?_
     refine done_seq ?_
     refine at_back (owns 1 0 1) (.tuple #[.agg #[.slice none 0 0], .int .i64 6]) [] (by kernel_rfl) (by kernel_rfl) al0 ?_
     refine om 6 [(7, .go (owns 0 0 1))] [4, 7] (fun γ70 => [(8, .pointer (some ⟨γ70 0, 0, none⟩)), (9, .int .i64 6)]) (fun γ70 L => bx (γ70 0) (#[.slice none 0 0]) 24 :: L) (fun γ70 => []) (fun _ => by kernel_rfl) (fun γ70 => al0) (fun γ70 => ?_)
     refine ops_nil ?_
     refine done_seq ?_
     refine at_seq ?_
     refine at_any (by kernel_rfl) ?_
     refine any_tk (f := 5) [2] [] [4, 7, 8] [(18, .int .i64 6)] ([]) #[false, false, true, false, false, false] (by kernel_rfl) (by kernel_rfl) al0 ?_
     refine any_cut 0 #[true, true, true, true, true, true] ([(4, .pointer (some ⟨γ1 2, 0, none⟩)), (5, .int .i64 0), (6, .int .i64 6)]) ([bx (γ70 0) (#[.slice none 0 0]) 24, bx (γ32 0) (#[.slice none n cq31]) 24, bx (γ4 1) (#[.slice none 0 0]) 24, bx (γ4 0) (#[.slice p n cap]) 24, bx (γ2 0) (#[.int .i64 0]) 3, bx (γ1 2) (#[.slice none 0 0]) 24, bx (γ1 1) (#[.int .i64 own]) 3, bx (γ1 0) (#[.slice p n cap]) 24]) ?_ (fun hm => ?_)
     rotate_left
     ·
      refine any_fork [0, 1] (by kernel_rfl) (by simp) (each_cons _ rfl ?_ (each_cons _ rfl ?_ (each_nil)))
      ·
       refine oq 1 [(0, .go (owns 0 0 1))] [4, 7, 18] [(16, .agg #[.slice none 0 0])] ([]) (fun _ => by kernel_rfl) al0 ?_
       refine ops_nil ?_
       refine done_any ?_
       refine any_fork [1, 3] (by kernel_rfl) (by simp) (each_cons _ rfl ?_ (each_cons _ rfl ?_ (each_nil)))
       ·
        refine oq 1 [(1, .go (owns 4 0 1))] [4, 16, 18] [(17, .int .i64 0)] ([]) (fun _ => by kernel_rfl) al0 ?_
        refine ops_nil ?_
        refine done_any ?_
        refine any_one 3 _ (by kernel_rfl) rfl ?_
        refine oq 1 [(3, .go (owns 5 0 1))] [4, 17, 18] [] ([]) (fun _ => by kernel_rfl) al0 ?_
        refine ops_nil ?_
        refine done_any ?_
        refine any_tk (f := 0) [4, 5] [] [4] [(5, .int .i64 0), (6, .int .i64 6)] ([]) #[true, true, true, true, true, true] (by kernel_rfl) (by kernel_rfl) al0 ?_
        exact any_weak hm [4, 5, 6] (by kernel_rfl) rfl rfl rfl
       ·
        refine oq 1 [(3, .go (owns 5 0 1))] [4, 7, 18] [] ([]) (fun _ => by kernel_rfl) al0 ?_
        refine ops_nil ?_
        refine done_any ?_
        refine any_one 1 _ (by kernel_rfl) rfl ?_
        refine oq 1 [(1, .go (owns 4 0 1))] [4, 18] [(17, .int .i64 0)] ([]) (fun _ => by kernel_rfl) al0 ?_
        refine ops_nil ?_
        refine done_any ?_
        refine any_tk (f := 0) [4, 5] [] [4] [(5, .int .i64 0), (6, .int .i64 6)] ([]) #[true, true, true, true, true, true] (by kernel_rfl) (by kernel_rfl) al0 ?_
        exact any_weak hm [4, 5, 6] (by kernel_rfl) rfl rfl rfl
      ·
       refine oq 1 [(1, .go (owns 4 0 1))] [4, 8, 18] [(17, .int .i64 0)] ([]) (fun _ => by kernel_rfl) al0 ?_
       refine ops_nil ?_
       refine done_any ?_
       refine any_one 0 _ (by kernel_rfl) rfl ?_
       refine oq 1 [(0, .go (owns 0 0 1))] [4, 17, 18] [(16, .agg #[.slice none 0 0])] ([]) (fun _ => by kernel_rfl) al0 ?_
       refine ops_nil ?_
       refine done_any ?_
       refine any_one 3 _ (by kernel_rfl) rfl ?_
       refine oq 1 [(3, .go (owns 5 0 1))] [4, 17, 18] [] ([]) (fun _ => by kernel_rfl) al0 ?_
       refine ops_nil ?_
       refine done_any ?_
       refine any_tk (f := 0) [4, 5] [] [4] [(5, .int .i64 0), (6, .int .i64 6)] ([]) #[true, true, true, true, true, true] (by kernel_rfl) (by kernel_rfl) al0 ?_
       exact any_weak hm [4, 5, 6] (by kernel_rfl) rfl rfl rfl
     refine any_nil (by kernel_rfl) ?_
     refine done_seq ?_
     refine at_return (owns 5 0 1) (.tuple #[.agg #[.slice none 0 0], .int .i64 0, .int .i64 6]) [] (by kernel_rfl) (by kernel_rfl) al0 ?_
     exact fun w' hw => by rw [openV_full q6 q36 (open_end hI (by omega)) q64]; exact ⟨none, 0, 0, [], rfl, SlO.nil, hw.below, hw.sub (List.nil_sublist _)⟩
    ·
     refine aq [(1, .no)] [0, 1, 2, 5] [(32, .bool false)] ([¬ (((j : Nat) : Int) = (32 : Int))]) (fun _ => by kernel_rfl) (al1 q64) ?_
     refine done_seq ?_
     refine at_false (by kernel_rfl) ?_
     refine at_skip ?_
     refine done_seq ?_
     refine at_seq ?_
     refine am [(1, .fit), (2, .go (owns 3 0 1))] [0, 1, 2, 5] (fun _ => []) (fun _ L => (L.set 3 (bx (γ2 0) (#[.int .i64 ((j + 1 : Nat))]) 3))) (fun _ => [Fit .i64 ((j + 1 : Nat))]) (fun _ => by kernel_rfl) (fun _ => (al1 (fit64 (by omega) (by omega)))) (fun _ => ?_)
     refine done_seq ?_
     refine at_seq ?_
     refine at_any (by kernel_rfl) ?_
     refine any_tk (f := 9) [0, 1, 2, 3, 5] [] [1, 2] [(35, .pointer (some ⟨γ32 0, 0, none⟩)), (38, .pointer (some ⟨γ32 0, 0, none⟩)), (40, .int .i64 ((j : Nat)))] ([]) #[true, true, true, true, false, true, false, false, false, false, false, false, false, false] (by kernel_rfl) (by kernel_rfl) al0 ?_
     refine any_cutG 4 #[true, true, true, true, true, true, true, true, true, true, false, false, false, false] (fun γ96 => [(35, .pointer (some ⟨γ32 0, 0, none⟩)), (39, .slice none n cq31), (40, .int .i64 ((j : Nat))), (44, .slice (some ⟨γ96 0, 0, none⟩) 1 1)]) (fun γ96 => [bx (γ96 0) (#[.int .i64 ((j + 1 : Nat)), .int .i64 own, .int .i64 0, .bool false, .bool false]) 40, bx (γ32 0) (#[.slice none n cq31]) 24, bx (γ4 1) (#[.slice none 0 0]) 24, bx (γ4 0) (#[.slice p n cap]) 24, bx (γ2 0) (#[.int .i64 ((j + 1 : Nat))]) 3, bx (γ1 2) (#[.slice none 0 0]) 24, bx (γ1 1) (#[.int .i64 own]) 3, bx (γ1 0) (#[.slice p n cap]) 24]) (fun γ96 => ?_) (fun hm => ?_)
     rotate_left
     ·
      refine any_fork [4, 6, 7] (by kernel_rfl) (by simp) (each_cons _ rfl ?_ (each_cons _ rfl ?_ (each_cons _ rfl ?_ (each_nil))))
      ·
       refine oq 1 [(4, .go (owns 0 0 1))] [1, 2, 35, 40] [(39, .slice none n cq31)] ([]) (fun _ => by kernel_rfl) al0 ?_
       refine ops_nil ?_
       refine done_any ?_
       refine any_fork [6, 7] (by kernel_rfl) (by simp) (each_cons _ rfl ?_ (each_cons _ rfl ?_ (each_nil)))
       ·
        refine oq 1 [(6, .go (owns 3 0 1))] [1, 35, 39, 40] [(41, .int .i64 ((j + 1 : Nat)))] ([]) (fun _ => by kernel_rfl) al0 ?_
        refine ops_nil ?_
        refine done_any ?_
        refine any_one 7 _ (by kernel_rfl) rfl ?_
        refine oq 1 [(7, .go (owns 5 0 1))] [35, 39, 40, 41] [(42, .int .i64 own)] ([]) (fun _ => by kernel_rfl) al0 ?_
        refine ops_nil ?_
        refine done_any ?_
        refine any_tk (f := 5) [8] [] [35, 39, 40] [(43, .agg #[.int .i64 ((j + 1 : Nat)), .int .i64 own, .int .i64 0, .bool false, .bool false])] ([]) #[true, true, true, true, true, true, true, true, true, false, false, false, false, false] (by kernel_rfl) (by kernel_rfl) al0 ?_
        refine any_one 9 _ (by kernel_rfl) rfl ?_
        refine om 1 [] [35, 39, 40] (fun γ101 => [(44, .slice (some ⟨γ101 0, 0, none⟩) 1 1)]) (fun γ101 L => bx (γ101 0) (#[.int .i64 ((j + 1 : Nat)), .int .i64 own, .int .i64 0, .bool false, .bool false]) 40 :: L) (fun γ101 => []) (fun _ => by kernel_rfl) (fun γ101 => al0) (fun γ101 => ?_)
        refine ops_nil ?_
        refine done_any ?_
        exact any_weak (hm fun i => [γ101 0].getD i 0) [35, 39, 40, 44] (by kernel_rfl) rfl rfl rfl
       ·
        refine oq 1 [(7, .go (owns 5 0 1))] [2, 35, 39, 40] [(42, .int .i64 own)] ([]) (fun _ => by kernel_rfl) al0 ?_
        refine ops_nil ?_
        refine done_any ?_
        refine any_one 6 _ (by kernel_rfl) rfl ?_
        refine oq 1 [(6, .go (owns 3 0 1))] [35, 39, 40, 42] [(41, .int .i64 ((j + 1 : Nat)))] ([]) (fun _ => by kernel_rfl) al0 ?_
        refine ops_nil ?_
        refine done_any ?_
        refine any_tk (f := 5) [8] [] [35, 39, 40] [(43, .agg #[.int .i64 ((j + 1 : Nat)), .int .i64 own, .int .i64 0, .bool false, .bool false])] ([]) #[true, true, true, true, true, true, true, true, true, false, false, false, false, false] (by kernel_rfl) (by kernel_rfl) al0 ?_
        refine any_one 9 _ (by kernel_rfl) rfl ?_
        refine om 1 [] [35, 39, 40] (fun γ105 => [(44, .slice (some ⟨γ105 0, 0, none⟩) 1 1)]) (fun γ105 L => bx (γ105 0) (#[.int .i64 ((j + 1 : Nat)), .int .i64 own, .int .i64 0, .bool false, .bool false]) 40 :: L) (fun γ105 => []) (fun _ => by kernel_rfl) (fun γ105 => al0) (fun γ105 => ?_)
        refine ops_nil ?_
        refine done_any ?_
        exact any_weak (hm fun i => [γ105 0].getD i 0) [35, 39, 40, 44] (by kernel_rfl) rfl rfl rfl
      ·
       refine oq 1 [(6, .go (owns 3 0 1))] [1, 35, 38, 40] [(41, .int .i64 ((j + 1 : Nat)))] ([]) (fun _ => by kernel_rfl) al0 ?_
       refine ops_nil ?_
       refine done_any ?_
       refine any_fork [4, 7] (by kernel_rfl) (by simp) (each_cons _ rfl ?_ (each_cons _ rfl ?_ (each_nil)))
       ·
        refine oq 1 [(4, .go (owns 0 0 1))] [1, 35, 40, 41] [(39, .slice none n cq31)] ([]) (fun _ => by kernel_rfl) al0 ?_
        refine ops_nil ?_
        refine done_any ?_
        refine any_one 7 _ (by kernel_rfl) rfl ?_
        refine oq 1 [(7, .go (owns 5 0 1))] [35, 39, 40, 41] [(42, .int .i64 own)] ([]) (fun _ => by kernel_rfl) al0 ?_
        refine ops_nil ?_
        refine done_any ?_
        refine any_tk (f := 5) [8] [] [35, 39, 40] [(43, .agg #[.int .i64 ((j + 1 : Nat)), .int .i64 own, .int .i64 0, .bool false, .bool false])] ([]) #[true, true, true, true, true, true, true, true, true, false, false, false, false, false] (by kernel_rfl) (by kernel_rfl) al0 ?_
        refine any_one 9 _ (by kernel_rfl) rfl ?_
        refine om 1 [] [35, 39, 40] (fun γ110 => [(44, .slice (some ⟨γ110 0, 0, none⟩) 1 1)]) (fun γ110 L => bx (γ110 0) (#[.int .i64 ((j + 1 : Nat)), .int .i64 own, .int .i64 0, .bool false, .bool false]) 40 :: L) (fun γ110 => []) (fun _ => by kernel_rfl) (fun γ110 => al0) (fun γ110 => ?_)
        refine ops_nil ?_
        refine done_any ?_
        exact any_weak (hm fun i => [γ110 0].getD i 0) [35, 39, 40, 44] (by kernel_rfl) rfl rfl rfl
       ·
        refine oq 1 [(7, .go (owns 5 0 1))] [35, 38, 40, 41] [(42, .int .i64 own)] ([]) (fun _ => by kernel_rfl) al0 ?_
        refine ops_nil ?_
        refine done_any ?_
        refine any_tk (f := 6) [8] [] [35, 38, 40] [(43, .agg #[.int .i64 ((j + 1 : Nat)), .int .i64 own, .int .i64 0, .bool false, .bool false])] ([]) #[true, true, true, true, false, true, true, true, true, false, false, false, false, false] (by kernel_rfl) (by kernel_rfl) al0 ?_
        refine any_fork [4, 9] (by kernel_rfl) (by simp) (each_cons _ rfl ?_ (each_cons _ rfl ?_ (each_nil)))
        ·
         refine oq 1 [(4, .go (owns 0 0 1))] [35, 40, 43] [(39, .slice none n cq31)] ([]) (fun _ => by kernel_rfl) al0 ?_
         refine ops_nil ?_
         refine done_any ?_
         refine any_one 9 _ (by kernel_rfl) rfl ?_
         refine om 1 [] [35, 39, 40] (fun γ114 => [(44, .slice (some ⟨γ114 0, 0, none⟩) 1 1)]) (fun γ114 L => bx (γ114 0) (#[.int .i64 ((j + 1 : Nat)), .int .i64 own, .int .i64 0, .bool false, .bool false]) 40 :: L) (fun γ114 => []) (fun _ => by kernel_rfl) (fun γ114 => al0) (fun γ114 => ?_)
         refine ops_nil ?_
         refine done_any ?_
         exact any_weak (hm fun i => [γ114 0].getD i 0) [35, 39, 40, 44] (by kernel_rfl) rfl rfl rfl
        ·
         refine om 1 [] [35, 38, 40] (fun γ115 => [(44, .slice (some ⟨γ115 0, 0, none⟩) 1 1)]) (fun γ115 L => bx (γ115 0) (#[.int .i64 ((j + 1 : Nat)), .int .i64 own, .int .i64 0, .bool false, .bool false]) 40 :: L) (fun γ115 => []) (fun _ => by kernel_rfl) (fun γ115 => al0) (fun γ115 => ?_)
         refine ops_nil ?_
         refine done_any ?_
         refine any_one 4 _ (by kernel_rfl) rfl ?_
         refine oq 1 [(4, .go (owns 1 0 1))] [35, 40, 44] [(39, .slice none n cq31)] ([]) (fun _ => by kernel_rfl) al0 ?_
         refine ops_nil ?_
         refine done_any ?_
         exact any_weak (hm fun i => [γ115 0].getD i 0) [35, 39, 40, 44] (by kernel_rfl) rfl rfl rfl
      ·
       refine oq 1 [(7, .go (owns 5 0 1))] [2, 35, 38, 40] [(42, .int .i64 own)] ([]) (fun _ => by kernel_rfl) al0 ?_
       refine ops_nil ?_
       refine done_any ?_
       refine any_fork [4, 6] (by kernel_rfl) (by simp) (each_cons _ rfl ?_ (each_cons _ rfl ?_ (each_nil)))
       ·
        refine oq 1 [(4, .go (owns 0 0 1))] [2, 35, 40, 42] [(39, .slice none n cq31)] ([]) (fun _ => by kernel_rfl) al0 ?_
        refine ops_nil ?_
        refine done_any ?_
        refine any_one 6 _ (by kernel_rfl) rfl ?_
        refine oq 1 [(6, .go (owns 3 0 1))] [35, 39, 40, 42] [(41, .int .i64 ((j + 1 : Nat)))] ([]) (fun _ => by kernel_rfl) al0 ?_
        refine ops_nil ?_
        refine done_any ?_
        refine any_tk (f := 5) [8] [] [35, 39, 40] [(43, .agg #[.int .i64 ((j + 1 : Nat)), .int .i64 own, .int .i64 0, .bool false, .bool false])] ([]) #[true, true, true, true, true, true, true, true, true, false, false, false, false, false] (by kernel_rfl) (by kernel_rfl) al0 ?_
        refine any_one 9 _ (by kernel_rfl) rfl ?_
        refine om 1 [] [35, 39, 40] (fun γ121 => [(44, .slice (some ⟨γ121 0, 0, none⟩) 1 1)]) (fun γ121 L => bx (γ121 0) (#[.int .i64 ((j + 1 : Nat)), .int .i64 own, .int .i64 0, .bool false, .bool false]) 40 :: L) (fun γ121 => []) (fun _ => by kernel_rfl) (fun γ121 => al0) (fun γ121 => ?_)
        refine ops_nil ?_
        refine done_any ?_
        exact any_weak (hm fun i => [γ121 0].getD i 0) [35, 39, 40, 44] (by kernel_rfl) rfl rfl rfl
       ·
        refine oq 1 [(6, .go (owns 3 0 1))] [35, 38, 40, 42] [(41, .int .i64 ((j + 1 : Nat)))] ([]) (fun _ => by kernel_rfl) al0 ?_
        refine ops_nil ?_
        refine done_any ?_
        refine any_tk (f := 6) [8] [] [35, 38, 40] [(43, .agg #[.int .i64 ((j + 1 : Nat)), .int .i64 own, .int .i64 0, .bool false, .bool false])] ([]) #[true, true, true, true, false, true, true, true, true, false, false, false, false, false] (by kernel_rfl) (by kernel_rfl) al0 ?_
        refine any_fork [4, 9] (by kernel_rfl) (by simp) (each_cons _ rfl ?_ (each_cons _ rfl ?_ (each_nil)))
        ·
         refine oq 1 [(4, .go (owns 0 0 1))] [35, 40, 43] [(39, .slice none n cq31)] ([]) (fun _ => by kernel_rfl) al0 ?_
         refine ops_nil ?_
         refine done_any ?_
         refine any_one 9 _ (by kernel_rfl) rfl ?_
         refine om 1 [] [35, 39, 40] (fun γ125 => [(44, .slice (some ⟨γ125 0, 0, none⟩) 1 1)]) (fun γ125 L => bx (γ125 0) (#[.int .i64 ((j + 1 : Nat)), .int .i64 own, .int .i64 0, .bool false, .bool false]) 40 :: L) (fun γ125 => []) (fun _ => by kernel_rfl) (fun γ125 => al0) (fun γ125 => ?_)
         refine ops_nil ?_
         refine done_any ?_
         exact any_weak (hm fun i => [γ125 0].getD i 0) [35, 39, 40, 44] (by kernel_rfl) rfl rfl rfl
        ·
         refine om 1 [] [35, 38, 40] (fun γ126 => [(44, .slice (some ⟨γ126 0, 0, none⟩) 1 1)]) (fun γ126 L => bx (γ126 0) (#[.int .i64 ((j + 1 : Nat)), .int .i64 own, .int .i64 0, .bool false, .bool false]) 40 :: L) (fun γ126 => []) (fun _ => by kernel_rfl) (fun γ126 => al0) (fun γ126 => ?_)
         refine ops_nil ?_
         refine done_any ?_
         refine any_one 4 _ (by kernel_rfl) rfl ?_
         refine oq 1 [(4, .go (owns 1 0 1))] [35, 40, 44] [(39, .slice none n cq31)] ([]) (fun _ => by kernel_rfl) al0 ?_
         refine ops_nil ?_
         refine done_any ?_
         exact any_weak (hm fun i => [γ126 0].getD i 0) [35, 39, 40, 44] (by kernel_rfl) rfl rfl rfl
     refine any_one 10 _ (by kernel_rfl) rfl ?_
     refine ops_call (fun v L' => ∃ q capq Y, v = .slice q (n + 1) capq ∧ L' = [bx (γ32 0) (#[.slice none n cq31]) 24, bx (γ4 1) (#[.slice none 0 0]) 24, bx (γ4 0) (#[.slice p n cap]) 24, bx (γ2 0) (#[.int .i64 ((j + 1 : Nat))]) 3, bx (γ1 2) (#[.slice none 0 0]) 24, bx (γ1 1) (#[.int .i64 own]) 3, bx (γ1 0) (#[.slice p n cap]) 24] ++ (Y ++ []) ∧ SlO 40 Y q (n + 1) capq (l.take j ++ [⟨(j + 1 : Nat), own, 0, false, false⟩] ++ l.drop j)) (by kernel_rfl) (by kernel_rfl) (by kernel_rfl) (fun args w => Try.call56 args w) (fun w hw => (insert_d _ ([bx (γ32 0) (#[.slice none n cq31]) 24, bx (γ4 1) (#[.slice none 0 0]) 24, bx (γ4 0) (#[.slice p n cap]) 24, bx (γ2 0) (#[.int .i64 ((j + 1 : Nat))]) 3, bx (γ1 2) (#[.slice none 0 0]) 24, bx (γ1 1) (#[.int .i64 own]) 3, bx (γ1 0) (#[.slice p n cap]) 24] ++ []) [] none n cq31 l j (γ96 0) (#[.int .i64 ((j + 1 : Nat)), .int .i64 own, .int .i64 0, .bool false, .bool false]) 1 ([⟨(j + 1 : Nat), own, 0, false, false⟩]) w (hw.pull (A := [bx (γ32 0) (#[.slice none n cq31]) 24, bx (γ4 1) (#[.slice none 0 0]) 24, bx (γ4 0) (#[.slice p n cap]) 24, bx (γ2 0) (#[.int .i64 ((j + 1 : Nat))]) 3, bx (γ1 2) (#[.slice none 0 0]) 24, bx (γ1 1) (#[.int .i64 own]) 3, bx (γ1 0) (#[.slice p n cap]) 24]) (Y := []) (R := [])) hO31 (by rfl) (by rfl) (by omega) (by omega) (by omega) (by omega)).mono fun e w' ⟨q, capq, Y', he, hO, hY⟩ => ⟨_, _, he, ⟨q, capq, Y', rfl, rfl, hO⟩, hY.push⟩) ?_
     rintro v128 L128 ⟨q128, cq128, Y128, rfl, rfl, hO128⟩
     refine ops_nil ?_
     refine done_any ?_
     refine any_tk (f := 1) [11, 12] [] [45] [(47, .pointer (some ⟨γ32 0, 0, none⟩))] ([]) #[true, true, true, true, true, true, true, true, true, true, true, true, true, false] (by kernel_rfl) (by kernel_rfl) al0 ?_
     refine any_one 13 _ (by kernel_rfl) rfl ?_
     refine om 1 [(13, .go (owns 0 0 1))] [] (fun _ => []) (fun _ L => (L.set 0 (bx (γ32 0) (#[.slice q128 (n + 1) cq128]) 24))) (fun _ => []) (fun _ => by kernel_rfl) (fun _ => al0) (fun _ => ?_)
     refine ops_nil ?_
     refine done_any ?_
     refine any_nil (by kernel_rfl) ?_
     refine done_seq ?_
     refine at_seq ?_
     refine aq [] [] [(4, .int .i64 0)] ([]) (fun _ => by kernel_rfl) al0 ?_
     refine done_seq ?_
     refine at_back ([]) (.int .i64 0) [] (by kernel_rfl) (by kernel_rfl) al0 ?_
     refine oq 1 [] [4, 7] [(8, .int .i64 0)] ([]) (fun _ => by kernel_rfl) al0 ?_
     refine ops_nil ?_
     refine done_seq ?_
     refine at_seq ?_
     refine aq [] [4, 7, 8] [(22, .bool false)] ([]) (fun _ => by kernel_rfl) al0 ?_
     refine done_seq ?_
     refine at_false (by kernel_rfl) ?_
     refine at_skip ?_
     refine done_seq ?_
     refine at_seq ?_
     refine am [(0, .go (owns 0 0 1)), (1, .go (owns 1 0 1))] [4] (fun _ => [(5, .int .i64 0)]) (fun _ L => (L.set 1 (bx (γ4 1) (#[.slice q128 (n + 1) cq128]) 24))) (fun _ => []) (fun _ => by kernel_rfl) (fun _ => al0) (fun _ => ?_)
     refine done_seq ?_
     refine at_back (owns 1 0 1) (.tuple #[.agg #[.slice q128 (n + 1) cq128], .int .i64 0]) [] (by kernel_rfl) (by kernel_rfl) al0 ?_
     refine om 6 [(7, .go (owns 0 0 1))] [4, 7] (fun γ135 => [(8, .pointer (some ⟨γ135 0, 0, none⟩)), (9, .int .i64 0)]) (fun γ135 L => bx (γ135 0) (#[.slice q128 (n + 1) cq128]) 24 :: L) (fun γ135 => []) (fun _ => by kernel_rfl) (fun γ135 => al0) (fun γ135 => ?_)
     refine ops_nil ?_
     refine done_seq ?_
     refine at_seq ?_
     refine at_any (by kernel_rfl) ?_
     refine any_tk (f := 5) [2] [] [4, 7, 8] [(18, .int .i64 0)] ([]) #[false, false, true, false, false, false] (by kernel_rfl) (by kernel_rfl) al0 ?_
     refine any_cut 0 #[true, true, true, true, true, true] ([(4, .pointer (some ⟨γ1 2, 0, none⟩)), (5, .int .i64 ((j + 1 : Nat))), (6, .int .i64 0)]) (bx (γ135 0) (#[.slice q128 (n + 1) cq128]) 24 :: bx (γ32 0) (#[.slice q128 (n + 1) cq128]) 24 :: bx (γ4 1) (#[.slice q128 (n + 1) cq128]) 24 :: bx (γ4 0) (#[.slice p n cap]) 24 :: bx (γ2 0) (#[.int .i64 ((j + 1 : Nat))]) 3 :: bx (γ1 2) (#[.slice q128 (n + 1) cq128]) 24 :: bx (γ1 1) (#[.int .i64 own]) 3 :: bx (γ1 0) (#[.slice p n cap]) 24 :: (Y128 ++ [])) ?_ (fun hm => ?_)
     rotate_left
     ·
      refine any_fork [0, 1] (by kernel_rfl) (by simp) (each_cons _ rfl ?_ (each_cons _ rfl ?_ (each_nil)))
      ·
       refine oq 1 [(0, .go (owns 0 0 1))] [4, 7, 18] [(16, .agg #[.slice q128 (n + 1) cq128])] ([]) (fun _ => by kernel_rfl) al0 ?_
       refine ops_nil ?_
       refine done_any ?_
       refine any_fork [1, 3] (by kernel_rfl) (by simp) (each_cons _ rfl ?_ (each_cons _ rfl ?_ (each_nil)))
       ·
        refine oq 1 [(1, .go (owns 4 0 1))] [4, 16, 18] [(17, .int .i64 ((j + 1 : Nat)))] ([]) (fun _ => by kernel_rfl) al0 ?_
        refine ops_nil ?_
        refine done_any ?_
        refine any_one 3 _ (by kernel_rfl) rfl ?_
        refine om 1 [(3, .go (owns 5 0 1))] [4, 17, 18] (fun _ => []) (fun _ L => (L.set 5 (bx (γ1 2) (#[.slice q128 (n + 1) cq128]) 24))) (fun _ => []) (fun _ => by kernel_rfl) (fun _ => al0) (fun _ => ?_)
        refine ops_nil ?_
        refine done_any ?_
        refine any_tk (f := 0) [4, 5] [] [4] [(5, .int .i64 ((j + 1 : Nat))), (6, .int .i64 0)] ([]) #[true, true, true, true, true, true] (by kernel_rfl) (by kernel_rfl) al0 ?_
        exact any_weak hm [4, 5, 6] (by kernel_rfl) rfl rfl rfl
       ·
        refine om 1 [(3, .go (owns 5 0 1))] [4, 7, 18] (fun _ => []) (fun _ L => (L.set 5 (bx (γ1 2) (#[.slice q128 (n + 1) cq128]) 24))) (fun _ => []) (fun _ => by kernel_rfl) (fun _ => al0) (fun _ => ?_)
        refine ops_nil ?_
        refine done_any ?_
        refine any_one 1 _ (by kernel_rfl) rfl ?_
        refine oq 1 [(1, .go (owns 4 0 1))] [4, 18] [(17, .int .i64 ((j + 1 : Nat)))] ([]) (fun _ => by kernel_rfl) al0 ?_
        refine ops_nil ?_
        refine done_any ?_
        refine any_tk (f := 0) [4, 5] [] [4] [(5, .int .i64 ((j + 1 : Nat))), (6, .int .i64 0)] ([]) #[true, true, true, true, true, true] (by kernel_rfl) (by kernel_rfl) al0 ?_
        exact any_weak hm [4, 5, 6] (by kernel_rfl) rfl rfl rfl
      ·
       refine oq 1 [(1, .go (owns 4 0 1))] [4, 8, 18] [(17, .int .i64 ((j + 1 : Nat)))] ([]) (fun _ => by kernel_rfl) al0 ?_
       refine ops_nil ?_
       refine done_any ?_
       refine any_one 0 _ (by kernel_rfl) rfl ?_
       refine oq 1 [(0, .go (owns 0 0 1))] [4, 17, 18] [(16, .agg #[.slice q128 (n + 1) cq128])] ([]) (fun _ => by kernel_rfl) al0 ?_
       refine ops_nil ?_
       refine done_any ?_
       refine any_one 3 _ (by kernel_rfl) rfl ?_
       refine om 1 [(3, .go (owns 5 0 1))] [4, 17, 18] (fun _ => []) (fun _ L => (L.set 5 (bx (γ1 2) (#[.slice q128 (n + 1) cq128]) 24))) (fun _ => []) (fun _ => by kernel_rfl) (fun _ => al0) (fun _ => ?_)
       refine ops_nil ?_
       refine done_any ?_
       refine any_tk (f := 0) [4, 5] [] [4] [(5, .int .i64 ((j + 1 : Nat))), (6, .int .i64 0)] ([]) #[true, true, true, true, true, true] (by kernel_rfl) (by kernel_rfl) al0 ?_
       exact any_weak hm [4, 5, 6] (by kernel_rfl) rfl rfl rfl
     refine any_nil (by kernel_rfl) ?_
     refine done_seq ?_
     refine at_return (owns 5 0 1) (.tuple #[.agg #[.slice q128 (n + 1) cq128], .int .i64 ((j + 1 : Nat)), .int .i64 0]) [] (by kernel_rfl) (by kernel_rfl) al0 ?_
     exact fun w' hw => by rw [openV_ok q6 q36 (open_end hI (by omega)) q64]; exact ⟨_, _, _, _, rfl, hO128, hw.below, ((hw.tailN 8).sub (List.sublist_append_left Y128 ([])))⟩
  ·
   refine om 3 [(5, .go (owns 0 0 1))] [1, 4] (fun γ153 => [(7, .pointer (some ⟨γ153 0, 0, none⟩))]) (fun γ153 L => bx (γ153 0) (#[.slice (some ⟨g31, 0, none⟩) n cq31]) 24 :: L) (fun γ153 => []) (fun _ => by kernel_rfl) (fun γ153 => al0) (fun γ153 => ?_)
   refine ops_nil ?_
   refine done_seq ?_
   refine at_seq ?_
   refine at_seq ?_
   refine at_ops ?_
   refine oq 1 [] [4, 7] [(19, .func (.func 55) #[] #[.pointer (some ⟨γ1 1, 0, none⟩), .pointer (some ⟨γ2 0, 0, none⟩)])] ([]) (fun _ => by kernel_rfl) al0 ?_
   refine ops_inline (g := 55) (args := #[.pointer (some ⟨γ153 0, 0, none⟩), .pointer (some ⟨γ1 1, 0, none⟩), .pointer (some ⟨γ2 0, 0, none⟩)]) (by kernel_rfl) (by kernel_rfl) (by kernel_rfl) (fun args w => Try.call55 args w) Try.func55 rfl Try.ntmps55 rfl ?_
   refine at_seq ?_
   refine aq [] [0, 1, 2] [] ([]) (fun _ => by kernel_rfl) al0 ?_
   refine done_seq ?_
   refine at_seq ?_
   refine at_seq ?_
   refine at_ops ?_
   refine oq 1 [(0, .go (owns 5 0 1))] [0, 1, 2] [(6, .int .i64 own)] ([]) (fun _ => by kernel_rfl) al0 ?_
   rcases q157 : vcpuB own with _ | _
   ·
    refine ops_callD (.bool false) (by kernel_rfl) (by kernel_rfl) (by kernel_rfl) (fun args w => Try.call31 args w) (fun w hw => by have := vcpu_d own w; rw [q157] at this; exact this) ?_
    refine oq 1 [] [0, 1, 2] [(8, .bool true)] ([]) (fun _ => by kernel_rfl) al0 ?_
    refine ops_nil ?_
    refine done_seq ?_
    refine at_true (by kernel_rfl) ?_
    refine at_seq ?_
    refine aq [] [] [(4, .int .i64 2)] ([]) (fun _ => by kernel_rfl) al0 ?_
    refine done_seq ?_
    refine at_back ([]) (.int .i64 2) [] (by kernel_rfl) (by kernel_rfl) al0 ?_
    refine oq 1 [] [4, 7] [(8, .int .i64 2)] ([]) (fun _ => by kernel_rfl) al0 ?_
    refine ops_nil ?_
    refine done_seq ?_
    refine at_seq ?_
    refine aq [] [4, 7, 8] [(22, .bool true)] ([]) (fun _ => by kernel_rfl) al0 ?_
    refine done_seq ?_
    refine at_true (by kernel_rfl) ?_
    refine at_seq ?_
    refine aq [(2, .go (owns 1 0 1))] [4] [(5, .int .i64 2)] ([]) (fun _ => by kernel_rfl) al0 ?_
    refine done_seq ?_
    refine at_back (owns 1 0 1) (.tuple #[.agg #[.slice none 0 0], .int .i64 2]) [] (by kernel_rfl) (by kernel_rfl) al0 ?_
    refine om 6 [(7, .go (owns 0 0 1))] [4, 7] (fun γ163 => [(8, .pointer (some ⟨γ163 0, 0, none⟩)), (9, .int .i64 2)]) (fun γ163 L => bx (γ163 0) (#[.slice none 0 0]) 24 :: L) (fun γ163 => []) (fun _ => by kernel_rfl) (fun γ163 => al0) (fun γ163 => ?_)
    refine ops_nil ?_
    refine done_seq ?_
    refine at_seq ?_
    refine at_any (by kernel_rfl) ?_
    refine any_tk (f := 5) [2] [] [4, 7, 8] [(18, .int .i64 2)] ([]) #[false, false, true, false, false, false] (by kernel_rfl) (by kernel_rfl) al0 ?_
    refine any_cut 0 #[true, true, true, true, true, true] ([(4, .pointer (some ⟨γ1 2, 0, none⟩)), (5, .int .i64 0), (6, .int .i64 2)]) ([bx (γ163 0) (#[.slice none 0 0]) 24, bx (γ153 0) (#[.slice (some ⟨g31, 0, none⟩) n cq31]) 24, bx (γ4 1) (#[.slice none 0 0]) 24, bx (γ4 0) (#[.slice p n cap]) 24, bx (γ2 0) (#[.int .i64 0]) 3, bx (γ1 2) (#[.slice none 0 0]) 24, bx (γ1 1) (#[.int .i64 own]) 3, bx (γ1 0) (#[.slice p n cap]) 24, bx g31 cs31 40]) ?_ (fun hm => ?_)
    rotate_left
    ·
     refine any_fork [0, 1] (by kernel_rfl) (by simp) (each_cons _ rfl ?_ (each_cons _ rfl ?_ (each_nil)))
     ·
      refine oq 1 [(0, .go (owns 0 0 1))] [4, 7, 18] [(16, .agg #[.slice none 0 0])] ([]) (fun _ => by kernel_rfl) al0 ?_
      refine ops_nil ?_
      refine done_any ?_
      refine any_fork [1, 3] (by kernel_rfl) (by simp) (each_cons _ rfl ?_ (each_cons _ rfl ?_ (each_nil)))
      ·
       refine oq 1 [(1, .go (owns 4 0 1))] [4, 16, 18] [(17, .int .i64 0)] ([]) (fun _ => by kernel_rfl) al0 ?_
       refine ops_nil ?_
       refine done_any ?_
       refine any_one 3 _ (by kernel_rfl) rfl ?_
       refine oq 1 [(3, .go (owns 5 0 1))] [4, 17, 18] [] ([]) (fun _ => by kernel_rfl) al0 ?_
       refine ops_nil ?_
       refine done_any ?_
       refine any_tk (f := 0) [4, 5] [] [4] [(5, .int .i64 0), (6, .int .i64 2)] ([]) #[true, true, true, true, true, true] (by kernel_rfl) (by kernel_rfl) al0 ?_
       exact any_weak hm [4, 5, 6] (by kernel_rfl) rfl rfl rfl
      ·
       refine oq 1 [(3, .go (owns 5 0 1))] [4, 7, 18] [] ([]) (fun _ => by kernel_rfl) al0 ?_
       refine ops_nil ?_
       refine done_any ?_
       refine any_one 1 _ (by kernel_rfl) rfl ?_
       refine oq 1 [(1, .go (owns 4 0 1))] [4, 18] [(17, .int .i64 0)] ([]) (fun _ => by kernel_rfl) al0 ?_
       refine ops_nil ?_
       refine done_any ?_
       refine any_tk (f := 0) [4, 5] [] [4] [(5, .int .i64 0), (6, .int .i64 2)] ([]) #[true, true, true, true, true, true] (by kernel_rfl) (by kernel_rfl) al0 ?_
       exact any_weak hm [4, 5, 6] (by kernel_rfl) rfl rfl rfl
     ·
      refine oq 1 [(1, .go (owns 4 0 1))] [4, 8, 18] [(17, .int .i64 0)] ([]) (fun _ => by kernel_rfl) al0 ?_
      refine ops_nil ?_
      refine done_any ?_
      refine any_one 0 _ (by kernel_rfl) rfl ?_
      refine oq 1 [(0, .go (owns 0 0 1))] [4, 17, 18] [(16, .agg #[.slice none 0 0])] ([]) (fun _ => by kernel_rfl) al0 ?_
      refine ops_nil ?_
      refine done_any ?_
      refine any_one 3 _ (by kernel_rfl) rfl ?_
      refine oq 1 [(3, .go (owns 5 0 1))] [4, 17, 18] [] ([]) (fun _ => by kernel_rfl) al0 ?_
      refine ops_nil ?_
      refine done_any ?_
      refine any_tk (f := 0) [4, 5] [] [4] [(5, .int .i64 0), (6, .int .i64 2)] ([]) #[true, true, true, true, true, true] (by kernel_rfl) (by kernel_rfl) al0 ?_
      exact any_weak hm [4, 5, 6] (by kernel_rfl) rfl rfl rfl
    refine any_nil (by kernel_rfl) ?_
    refine done_seq ?_
    refine at_return (owns 5 0 1) (.tuple #[.agg #[.slice none 0 0], .int .i64 0, .int .i64 2]) [] (by kernel_rfl) (by kernel_rfl) al0 ?_
    exact fun w' hw => by rw [openV_arg q6 q157]; exact ⟨none, 0, 0, [], rfl, SlO.nil, hw.below, hw.sub (List.nil_sublist _)⟩
   ·
    refine ops_callD (.bool true) (by kernel_rfl) (by kernel_rfl) (by kernel_rfl) (fun args w => Try.call31 args w) (fun w hw => by have := vcpu_d own w; rw [q157] at this; exact this) ?_
    refine oq 1 [] [0, 1, 2] [(8, .bool false)] ([]) (fun _ => by kernel_rfl) al0 ?_
    refine ops_nil ?_
    refine done_seq ?_
    refine at_false (by kernel_rfl) ?_
    refine at_skip ?_
    refine done_seq ?_
    refine at_seq ?_
    refine aq [] [0, 1, 2] [(5, .int .i64 0)] ([]) (fun _ => by kernel_rfl) al0 ?_
    refine done_seq ?_
    refine at_seq ?_
    refine at_block ?_
    refine at_loop (α := Nat) [0, 1, 2, 5] (fun j => [(0, .pointer (some ⟨γ153 0, 0, none⟩)), (1, .pointer (some ⟨γ1 1, 0, none⟩)), (2, .pointer (some ⟨γ2 0, 0, none⟩)), (5, .int .i64 ((j : Nat)))]) (fun j => [bx (γ153 0) (#[.slice (some ⟨g31, 0, none⟩) n cq31]) 24, bx (γ4 1) (#[.slice none 0 0]) 24, bx (γ4 0) (#[.slice p n cap]) 24, bx (γ2 0) (#[.int .i64 0]) 3, bx (γ1 2) (#[.slice none 0 0]) 24, bx (γ1 1) (#[.int .i64 own]) 3, bx (γ1 0) (#[.slice p n cap]) 24, bx g31 cs31 40]) (fun j => j ≤ n ∧ openI (l.drop j) j = openI l 0) (fun j => n - j) 0 (by kernel_rfl) rfl ⟨Nat.zero_le _, by rw [List.drop_zero]⟩ ?_
    rintro j
    rintro ⟨hj, hI⟩
    refine at_seq ?_
    refine at_seq ?_
    by_cases q184 : ((j : Nat) : Int) < ((n : Nat) : Int)
    ·
     obtain ⟨x186, hx186⟩ := get_some (l := l) (m := j) (by omega)
     by_cases q188 : (x186.num : Int) = ((j + 1 : Nat) : Int)
     ·
      refine aq [(4, .go (owns 0 0 1)), (6, .yes), (11, .go (owns 0 0 1)), (13, .at g31 0 j), (15, .go (ownps 7 (0 + j * 5) [.int .i64 x186.num])), (17, .fit), (18, .yes)] [0, 1, 2, 5] [(28, .bool true)] ([((j : Nat) : Int) < ((n : Nat) : Int)] ++ ([(some ⟨g31, 0, none⟩ : Option Addr) = some ⟨g31, 0, none⟩, ((j : Nat)) = ((j : Nat) : Int), j < n] ++ (acellsP cs31 (0 + j * 5) [.int .i64 x186.num] ++ ([Fit .i64 ((j + 1 : Nat))] ++ ([(x186.num : Int) = ((j + 1 : Nat) : Int)]))))) (fun _ => by kernel_rfl) (alA (al1 q184) (alA (al2 rfl (al2 rfl (al1 (by omega)))) (alA (rda_pre ((hOw31.rdx hnq31 hx186)) _ rfl) (alA (al1 (fit64 (by omega) (by omega))) (al1 q188))))) ?_
      refine done_seq ?_
      refine at_true (by kernel_rfl) ?_
      refine at_skip ?_
      refine done_seq ?_
      refine at_block ?_
      refine aq [(1, .fit)] [0, 1, 2] [(5, .int .i64 ((j + 1 : Nat)))] ([Fit .i64 ((j + 1 : Nat))]) (fun _ => by kernel_rfl) (al1 (fit64 (by omega) (by omega))) ?_
      refine done_block ?_
      exact done_round [0, 1, 2, 5] (j + 1) (by kernel_rfl) rfl ⟨by omega, open_on hI hx186 (by assumption)⟩ (by first | omega | (simp only; omega))
     ·
      refine aq [(4, .go (owns 0 0 1)), (6, .yes), (11, .go (owns 0 0 1)), (13, .at g31 0 j), (15, .go (ownps 7 (0 + j * 5) [.int .i64 x186.num])), (17, .fit), (18, .no)] [0, 1, 2, 5] [(28, .bool false)] ([((j : Nat) : Int) < ((n : Nat) : Int)] ++ ([(some ⟨g31, 0, none⟩ : Option Addr) = some ⟨g31, 0, none⟩, ((j : Nat)) = ((j : Nat) : Int), j < n] ++ (acellsP cs31 (0 + j * 5) [.int .i64 x186.num] ++ ([Fit .i64 ((j + 1 : Nat))] ++ ([¬ ((x186.num : Int) = ((j + 1 : Nat) : Int))]))))) (fun _ => by kernel_rfl) (alA (al1 q184) (alA (al2 rfl (al2 rfl (al1 (by omega)))) (alA (rda_pre ((hOw31.rdx hnq31 hx186)) _ rfl) (alA (al1 (fit64 (by omega) (by omega))) (al1 q188))))) ?_
      refine done_seq ?_
      refine at_false (by kernel_rfl) ?_
      refine at_leave _ (by rfl) ?_
      refine done_seq ?_
      refine at_seq ?_
      refine at_seq ?_
      by_cases q193 : ((j : Nat) : Int) = (32 : Int)
      ·
       refine aq [(1, .yes)] [0, 1, 2, 5] [(32, .bool true)] ([((j : Nat) : Int) = (32 : Int)]) (fun _ => by kernel_rfl) (al1 q193) ?_
       refine done_seq ?_
       refine at_true (by kernel_rfl) ?_
       refine at_seq ?_
       refine aq [] [] [(4, .int .i64 6)] ([]) (fun _ => by kernel_rfl) al0 ?_
       refine done_seq ?_
       refine at_back ([]) (.int .i64 6) [] (by kernel_rfl) (by kernel_rfl) al0 ?_
       refine oq 1 [] [4, 7] [(8, .int .i64 6)] ([]) (fun _ => by kernel_rfl) al0 ?_
       refine ops_nil ?_
       refine done_seq ?_
       refine at_seq ?_
       refine aq [] [4, 7, 8] [(22, .bool true)] ([]) (fun _ => by kernel_rfl) al0 ?_
       refine done_seq ?_
       refine at_true (by kernel_rfl) ?_
       refine at_seq ?_
       refine aq [(2, .go (owns 1 0 1))] [4] [(5, .int .i64 6)] ([]) (fun _ => by kernel_rfl) al0 ?_
       refine done_seq ?_
       refine at_back (owns 1 0 1) (.tuple #[.agg #[.slice none 0 0], .int .i64 6]) [] (by kernel_rfl) (by kernel_rfl) al0 ?_
       refine om 6 [(7, .go (owns 0 0 1))] [4, 7] (fun γ199 => [(8, .pointer (some ⟨γ199 0, 0, none⟩)), (9, .int .i64 6)]) (fun γ199 L => bx (γ199 0) (#[.slice none 0 0]) 24 :: L) (fun γ199 => []) (fun _ => by kernel_rfl) (fun γ199 => al0) (fun γ199 => ?_)
       refine ops_nil ?_
       refine done_seq ?_
       refine at_seq ?_
       refine at_any (by kernel_rfl) ?_
       refine any_tk (f := 5) [2] [] [4, 7, 8] [(18, .int .i64 6)] ([]) #[false, false, true, false, false, false] (by kernel_rfl) (by kernel_rfl) al0 ?_
       refine any_cut 0 #[true, true, true, true, true, true] ([(4, .pointer (some ⟨γ1 2, 0, none⟩)), (5, .int .i64 0), (6, .int .i64 6)]) ([bx (γ199 0) (#[.slice none 0 0]) 24, bx (γ153 0) (#[.slice (some ⟨g31, 0, none⟩) n cq31]) 24, bx (γ4 1) (#[.slice none 0 0]) 24, bx (γ4 0) (#[.slice p n cap]) 24, bx (γ2 0) (#[.int .i64 0]) 3, bx (γ1 2) (#[.slice none 0 0]) 24, bx (γ1 1) (#[.int .i64 own]) 3, bx (γ1 0) (#[.slice p n cap]) 24, bx g31 cs31 40]) ?_ (fun hm => ?_)
       rotate_left
       ·
        refine any_fork [0, 1] (by kernel_rfl) (by simp) (each_cons _ rfl ?_ (each_cons _ rfl ?_ (each_nil)))
        ·
         refine oq 1 [(0, .go (owns 0 0 1))] [4, 7, 18] [(16, .agg #[.slice none 0 0])] ([]) (fun _ => by kernel_rfl) al0 ?_
         refine ops_nil ?_
         refine done_any ?_
         refine any_fork [1, 3] (by kernel_rfl) (by simp) (each_cons _ rfl ?_ (each_cons _ rfl ?_ (each_nil)))
         ·
          refine oq 1 [(1, .go (owns 4 0 1))] [4, 16, 18] [(17, .int .i64 0)] ([]) (fun _ => by kernel_rfl) al0 ?_
          refine ops_nil ?_
          refine done_any ?_
          refine any_one 3 _ (by kernel_rfl) rfl ?_
          refine oq 1 [(3, .go (owns 5 0 1))] [4, 17, 18] [] ([]) (fun _ => by kernel_rfl) al0 ?_
          refine ops_nil ?_
          refine done_any ?_
          refine any_tk (f := 0) [4, 5] [] [4] [(5, .int .i64 0), (6, .int .i64 6)] ([]) #[true, true, true, true, true, true] (by kernel_rfl) (by kernel_rfl) al0 ?_
          exact any_weak hm [4, 5, 6] (by kernel_rfl) rfl rfl rfl
         ·
          refine oq 1 [(3, .go (owns 5 0 1))] [4, 7, 18] [] ([]) (fun _ => by kernel_rfl) al0 ?_
          refine ops_nil ?_
          refine done_any ?_
          refine any_one 1 _ (by kernel_rfl) rfl ?_
          refine oq 1 [(1, .go (owns 4 0 1))] [4, 18] [(17, .int .i64 0)] ([]) (fun _ => by kernel_rfl) al0 ?_
          refine ops_nil ?_
          refine done_any ?_
          refine any_tk (f := 0) [4, 5] [] [4] [(5, .int .i64 0), (6, .int .i64 6)] ([]) #[true, true, true, true, true, true] (by kernel_rfl) (by kernel_rfl) al0 ?_
          exact any_weak hm [4, 5, 6] (by kernel_rfl) rfl rfl rfl
        ·
         refine oq 1 [(1, .go (owns 4 0 1))] [4, 8, 18] [(17, .int .i64 0)] ([]) (fun _ => by kernel_rfl) al0 ?_
         refine ops_nil ?_
         refine done_any ?_
         refine any_one 0 _ (by kernel_rfl) rfl ?_
         refine oq 1 [(0, .go (owns 0 0 1))] [4, 17, 18] [(16, .agg #[.slice none 0 0])] ([]) (fun _ => by kernel_rfl) al0 ?_
         refine ops_nil ?_
         refine done_any ?_
         refine any_one 3 _ (by kernel_rfl) rfl ?_
         refine oq 1 [(3, .go (owns 5 0 1))] [4, 17, 18] [] ([]) (fun _ => by kernel_rfl) al0 ?_
         refine ops_nil ?_
         refine done_any ?_
         refine any_tk (f := 0) [4, 5] [] [4] [(5, .int .i64 0), (6, .int .i64 6)] ([]) #[true, true, true, true, true, true] (by kernel_rfl) (by kernel_rfl) al0 ?_
         exact any_weak hm [4, 5, 6] (by kernel_rfl) rfl rfl rfl
       refine any_nil (by kernel_rfl) ?_
       refine done_seq ?_
       refine at_return (owns 5 0 1) (.tuple #[.agg #[.slice none 0 0], .int .i64 0, .int .i64 6]) [] (by kernel_rfl) (by kernel_rfl) al0 ?_
       exact fun w' hw => by rw [openV_full q6 q157 (open_at hI hx186 (by assumption)) q193]; exact ⟨none, 0, 0, [], rfl, SlO.nil, hw.below, hw.sub (List.nil_sublist _)⟩
      ·
       refine aq [(1, .no)] [0, 1, 2, 5] [(32, .bool false)] ([¬ (((j : Nat) : Int) = (32 : Int))]) (fun _ => by kernel_rfl) (al1 q193) ?_
       refine done_seq ?_
       refine at_false (by kernel_rfl) ?_
       refine at_skip ?_
       refine done_seq ?_
       refine at_seq ?_
       refine am [(1, .fit), (2, .go (owns 3 0 1))] [0, 1, 2, 5] (fun _ => []) (fun _ L => (L.set 3 (bx (γ2 0) (#[.int .i64 ((j + 1 : Nat))]) 3))) (fun _ => [Fit .i64 ((j + 1 : Nat))]) (fun _ => by kernel_rfl) (fun _ => (al1 (fit64 (by omega) (by omega)))) (fun _ => ?_)
       refine done_seq ?_
       refine at_seq ?_
       refine at_any (by kernel_rfl) ?_
       refine any_tk (f := 9) [0, 1, 2, 3, 5] [] [1, 2] [(35, .pointer (some ⟨γ153 0, 0, none⟩)), (38, .pointer (some ⟨γ153 0, 0, none⟩)), (40, .int .i64 ((j : Nat)))] ([]) #[true, true, true, true, false, true, false, false, false, false, false, false, false, false] (by kernel_rfl) (by kernel_rfl) al0 ?_
       refine any_cutG 4 #[true, true, true, true, true, true, true, true, true, true, false, false, false, false] (fun γ225 => [(35, .pointer (some ⟨γ153 0, 0, none⟩)), (39, .slice (some ⟨g31, 0, none⟩) n cq31), (40, .int .i64 ((j : Nat))), (44, .slice (some ⟨γ225 0, 0, none⟩) 1 1)]) (fun γ225 => [bx (γ225 0) (#[.int .i64 ((j + 1 : Nat)), .int .i64 own, .int .i64 0, .bool false, .bool false]) 40, bx (γ153 0) (#[.slice (some ⟨g31, 0, none⟩) n cq31]) 24, bx (γ4 1) (#[.slice none 0 0]) 24, bx (γ4 0) (#[.slice p n cap]) 24, bx (γ2 0) (#[.int .i64 ((j + 1 : Nat))]) 3, bx (γ1 2) (#[.slice none 0 0]) 24, bx (γ1 1) (#[.int .i64 own]) 3, bx (γ1 0) (#[.slice p n cap]) 24, bx g31 cs31 40]) (fun γ225 => ?_) (fun hm => ?_)
       rotate_left
       ·
        refine any_fork [4, 6, 7] (by kernel_rfl) (by simp) (each_cons _ rfl ?_ (each_cons _ rfl ?_ (each_cons _ rfl ?_ (each_nil))))
        ·
         refine oq 1 [(4, .go (owns 0 0 1))] [1, 2, 35, 40] [(39, .slice (some ⟨g31, 0, none⟩) n cq31)] ([]) (fun _ => by kernel_rfl) al0 ?_
         refine ops_nil ?_
         refine done_any ?_
         refine any_fork [6, 7] (by kernel_rfl) (by simp) (each_cons _ rfl ?_ (each_cons _ rfl ?_ (each_nil)))
         ·
          refine oq 1 [(6, .go (owns 3 0 1))] [1, 35, 39, 40] [(41, .int .i64 ((j + 1 : Nat)))] ([]) (fun _ => by kernel_rfl) al0 ?_
          refine ops_nil ?_
          refine done_any ?_
          refine any_one 7 _ (by kernel_rfl) rfl ?_
          refine oq 1 [(7, .go (owns 5 0 1))] [35, 39, 40, 41] [(42, .int .i64 own)] ([]) (fun _ => by kernel_rfl) al0 ?_
          refine ops_nil ?_
          refine done_any ?_
          refine any_tk (f := 5) [8] [] [35, 39, 40] [(43, .agg #[.int .i64 ((j + 1 : Nat)), .int .i64 own, .int .i64 0, .bool false, .bool false])] ([]) #[true, true, true, true, true, true, true, true, true, false, false, false, false, false] (by kernel_rfl) (by kernel_rfl) al0 ?_
          refine any_one 9 _ (by kernel_rfl) rfl ?_
          refine om 1 [] [35, 39, 40] (fun γ230 => [(44, .slice (some ⟨γ230 0, 0, none⟩) 1 1)]) (fun γ230 L => bx (γ230 0) (#[.int .i64 ((j + 1 : Nat)), .int .i64 own, .int .i64 0, .bool false, .bool false]) 40 :: L) (fun γ230 => []) (fun _ => by kernel_rfl) (fun γ230 => al0) (fun γ230 => ?_)
          refine ops_nil ?_
          refine done_any ?_
          exact any_weak (hm fun i => [γ230 0].getD i 0) [35, 39, 40, 44] (by kernel_rfl) rfl rfl rfl
         ·
          refine oq 1 [(7, .go (owns 5 0 1))] [2, 35, 39, 40] [(42, .int .i64 own)] ([]) (fun _ => by kernel_rfl) al0 ?_
          refine ops_nil ?_
          refine done_any ?_
          refine any_one 6 _ (by kernel_rfl) rfl ?_
          refine oq 1 [(6, .go (owns 3 0 1))] [35, 39, 40, 42] [(41, .int .i64 ((j + 1 : Nat)))] ([]) (fun _ => by kernel_rfl) al0 ?_
          refine ops_nil ?_
          refine done_any ?_
          refine any_tk (f := 5) [8] [] [35, 39, 40] [(43, .agg #[.int .i64 ((j + 1 : Nat)), .int .i64 own, .int .i64 0, .bool false, .bool false])] ([]) #[true, true, true, true, true, true, true, true, true, false, false, false, false, false] (by kernel_rfl) (by kernel_rfl) al0 ?_
          refine any_one 9 _ (by kernel_rfl) rfl ?_
          refine om 1 [] [35, 39, 40] (fun γ234 => [(44, .slice (some ⟨γ234 0, 0, none⟩) 1 1)]) (fun γ234 L => bx (γ234 0) (#[.int .i64 ((j + 1 : Nat)), .int .i64 own, .int .i64 0, .bool false, .bool false]) 40 :: L) (fun γ234 => []) (fun _ => by kernel_rfl) (fun γ234 => al0) (fun γ234 => ?_)
          refine ops_nil ?_
          refine done_any ?_
          exact any_weak (hm fun i => [γ234 0].getD i 0) [35, 39, 40, 44] (by kernel_rfl) rfl rfl rfl
        ·
         refine oq 1 [(6, .go (owns 3 0 1))] [1, 35, 38, 40] [(41, .int .i64 ((j + 1 : Nat)))] ([]) (fun _ => by kernel_rfl) al0 ?_
         refine ops_nil ?_
         refine done_any ?_
         refine any_fork [4, 7] (by kernel_rfl) (by simp) (each_cons _ rfl ?_ (each_cons _ rfl ?_ (each_nil)))
         ·
          refine oq 1 [(4, .go (owns 0 0 1))] [1, 35, 40, 41] [(39, .slice (some ⟨g31, 0, none⟩) n cq31)] ([]) (fun _ => by kernel_rfl) al0 ?_
          refine ops_nil ?_
          refine done_any ?_
          refine any_one 7 _ (by kernel_rfl) rfl ?_
          refine oq 1 [(7, .go (owns 5 0 1))] [35, 39, 40, 41] [(42, .int .i64 own)] ([]) (fun _ => by kernel_rfl) al0 ?_
          refine ops_nil ?_
          refine done_any ?_
          refine any_tk (f := 5) [8] [] [35, 39, 40] [(43, .agg #[.int .i64 ((j + 1 : Nat)), .int .i64 own, .int .i64 0, .bool false, .bool false])] ([]) #[true, true, true, true, true, true, true, true, true, false, false, false, false, false] (by kernel_rfl) (by kernel_rfl) al0 ?_
          refine any_one 9 _ (by kernel_rfl) rfl ?_
          refine om 1 [] [35, 39, 40] (fun γ239 => [(44, .slice (some ⟨γ239 0, 0, none⟩) 1 1)]) (fun γ239 L => bx (γ239 0) (#[.int .i64 ((j + 1 : Nat)), .int .i64 own, .int .i64 0, .bool false, .bool false]) 40 :: L) (fun γ239 => []) (fun _ => by kernel_rfl) (fun γ239 => al0) (fun γ239 => ?_)
          refine ops_nil ?_
          refine done_any ?_
          exact any_weak (hm fun i => [γ239 0].getD i 0) [35, 39, 40, 44] (by kernel_rfl) rfl rfl rfl
         ·
          refine oq 1 [(7, .go (owns 5 0 1))] [35, 38, 40, 41] [(42, .int .i64 own)] ([]) (fun _ => by kernel_rfl) al0 ?_
          refine ops_nil ?_
          refine done_any ?_
          refine any_tk (f := 6) [8] [] [35, 38, 40] [(43, .agg #[.int .i64 ((j + 1 : Nat)), .int .i64 own, .int .i64 0, .bool false, .bool false])] ([]) #[true, true, true, true, false, true, true, true, true, false, false, false, false, false] (by kernel_rfl) (by kernel_rfl) al0 ?_
          refine any_fork [4, 9] (by kernel_rfl) (by simp) (each_cons _ rfl ?_ (each_cons _ rfl ?_ (each_nil)))
          ·
           refine oq 1 [(4, .go (owns 0 0 1))] [35, 40, 43] [(39, .slice (some ⟨g31, 0, none⟩) n cq31)] ([]) (fun _ => by kernel_rfl) al0 ?_
           refine ops_nil ?_
           refine done_any ?_
           refine any_one 9 _ (by kernel_rfl) rfl ?_
           refine om 1 [] [35, 39, 40] (fun γ243 => [(44, .slice (some ⟨γ243 0, 0, none⟩) 1 1)]) (fun γ243 L => bx (γ243 0) (#[.int .i64 ((j + 1 : Nat)), .int .i64 own, .int .i64 0, .bool false, .bool false]) 40 :: L) (fun γ243 => []) (fun _ => by kernel_rfl) (fun γ243 => al0) (fun γ243 => ?_)
           refine ops_nil ?_
           refine done_any ?_
           exact any_weak (hm fun i => [γ243 0].getD i 0) [35, 39, 40, 44] (by kernel_rfl) rfl rfl rfl
          ·
           refine om 1 [] [35, 38, 40] (fun γ244 => [(44, .slice (some ⟨γ244 0, 0, none⟩) 1 1)]) (fun γ244 L => bx (γ244 0) (#[.int .i64 ((j + 1 : Nat)), .int .i64 own, .int .i64 0, .bool false, .bool false]) 40 :: L) (fun γ244 => []) (fun _ => by kernel_rfl) (fun γ244 => al0) (fun γ244 => ?_)
           refine ops_nil ?_
           refine done_any ?_
           refine any_one 4 _ (by kernel_rfl) rfl ?_
           refine oq 1 [(4, .go (owns 1 0 1))] [35, 40, 44] [(39, .slice (some ⟨g31, 0, none⟩) n cq31)] ([]) (fun _ => by kernel_rfl) al0 ?_
           refine ops_nil ?_
           refine done_any ?_
           exact any_weak (hm fun i => [γ244 0].getD i 0) [35, 39, 40, 44] (by kernel_rfl) rfl rfl rfl
        ·
         refine oq 1 [(7, .go (owns 5 0 1))] [2, 35, 38, 40] [(42, .int .i64 own)] ([]) (fun _ => by kernel_rfl) al0 ?_
         refine ops_nil ?_
         refine done_any ?_
         refine any_fork [4, 6] (by kernel_rfl) (by simp) (each_cons _ rfl ?_ (each_cons _ rfl ?_ (each_nil)))
         ·
          refine oq 1 [(4, .go (owns 0 0 1))] [2, 35, 40, 42] [(39, .slice (some ⟨g31, 0, none⟩) n cq31)] ([]) (fun _ => by kernel_rfl) al0 ?_
          refine ops_nil ?_
          refine done_any ?_
          refine any_one 6 _ (by kernel_rfl) rfl ?_
          refine oq 1 [(6, .go (owns 3 0 1))] [35, 39, 40, 42] [(41, .int .i64 ((j + 1 : Nat)))] ([]) (fun _ => by kernel_rfl) al0 ?_
          refine ops_nil ?_
          refine done_any ?_
          refine any_tk (f := 5) [8] [] [35, 39, 40] [(43, .agg #[.int .i64 ((j + 1 : Nat)), .int .i64 own, .int .i64 0, .bool false, .bool false])] ([]) #[true, true, true, true, true, true, true, true, true, false, false, false, false, false] (by kernel_rfl) (by kernel_rfl) al0 ?_
          refine any_one 9 _ (by kernel_rfl) rfl ?_
          refine om 1 [] [35, 39, 40] (fun γ250 => [(44, .slice (some ⟨γ250 0, 0, none⟩) 1 1)]) (fun γ250 L => bx (γ250 0) (#[.int .i64 ((j + 1 : Nat)), .int .i64 own, .int .i64 0, .bool false, .bool false]) 40 :: L) (fun γ250 => []) (fun _ => by kernel_rfl) (fun γ250 => al0) (fun γ250 => ?_)
          refine ops_nil ?_
          refine done_any ?_
          exact any_weak (hm fun i => [γ250 0].getD i 0) [35, 39, 40, 44] (by kernel_rfl) rfl rfl rfl
         ·
          refine oq 1 [(6, .go (owns 3 0 1))] [35, 38, 40, 42] [(41, .int .i64 ((j + 1 : Nat)))] ([]) (fun _ => by kernel_rfl) al0 ?_
          refine ops_nil ?_
          refine done_any ?_
          refine any_tk (f := 6) [8] [] [35, 38, 40] [(43, .agg #[.int .i64 ((j + 1 : Nat)), .int .i64 own, .int .i64 0, .bool false, .bool false])] ([]) #[true, true, true, true, false, true, true, true, true, false, false, false, false, false] (by kernel_rfl) (by kernel_rfl) al0 ?_
          refine any_fork [4, 9] (by kernel_rfl) (by simp) (each_cons _ rfl ?_ (each_cons _ rfl ?_ (each_nil)))
          ·
           refine oq 1 [(4, .go (owns 0 0 1))] [35, 40, 43] [(39, .slice (some ⟨g31, 0, none⟩) n cq31)] ([]) (fun _ => by kernel_rfl) al0 ?_
           refine ops_nil ?_
           refine done_any ?_
           refine any_one 9 _ (by kernel_rfl) rfl ?_
           refine om 1 [] [35, 39, 40] (fun γ254 => [(44, .slice (some ⟨γ254 0, 0, none⟩) 1 1)]) (fun γ254 L => bx (γ254 0) (#[.int .i64 ((j + 1 : Nat)), .int .i64 own, .int .i64 0, .bool false, .bool false]) 40 :: L) (fun γ254 => []) (fun _ => by kernel_rfl) (fun γ254 => al0) (fun γ254 => ?_)
           refine ops_nil ?_
           refine done_any ?_
           exact any_weak (hm fun i => [γ254 0].getD i 0) [35, 39, 40, 44] (by kernel_rfl) rfl rfl rfl
          ·
           refine om 1 [] [35, 38, 40] (fun γ255 => [(44, .slice (some ⟨γ255 0, 0, none⟩) 1 1)]) (fun γ255 L => bx (γ255 0) (#[.int .i64 ((j + 1 : Nat)), .int .i64 own, .int .i64 0, .bool false, .bool false]) 40 :: L) (fun γ255 => []) (fun _ => by kernel_rfl) (fun γ255 => al0) (fun γ255 => ?_)
           refine ops_nil ?_
           refine done_any ?_
           refine any_one 4 _ (by kernel_rfl) rfl ?_
           refine oq 1 [(4, .go (owns 1 0 1))] [35, 40, 44] [(39, .slice (some ⟨g31, 0, none⟩) n cq31)] ([]) (fun _ => by kernel_rfl) al0 ?_
           refine ops_nil ?_
           refine done_any ?_
           exact any_weak (hm fun i => [γ255 0].getD i 0) [35, 39, 40, 44] (by kernel_rfl) rfl rfl rfl
       refine any_one 10 _ (by kernel_rfl) rfl ?_
       refine ops_call (fun v L' => ∃ q capq Y, v = .slice q (n + 1) capq ∧ L' = [bx (γ153 0) (#[.slice (some ⟨g31, 0, none⟩) n cq31]) 24, bx (γ4 1) (#[.slice none 0 0]) 24, bx (γ4 0) (#[.slice p n cap]) 24, bx (γ2 0) (#[.int .i64 ((j + 1 : Nat))]) 3, bx (γ1 2) (#[.slice none 0 0]) 24, bx (γ1 1) (#[.int .i64 own]) 3, bx (γ1 0) (#[.slice p n cap]) 24] ++ (Y ++ []) ∧ SlO 40 Y q (n + 1) capq (l.take j ++ [⟨(j + 1 : Nat), own, 0, false, false⟩] ++ l.drop j)) (by kernel_rfl) (by kernel_rfl) (by kernel_rfl) (fun args w => Try.call56 args w) (fun w hw => (insert_d _ ([bx (γ153 0) (#[.slice (some ⟨g31, 0, none⟩) n cq31]) 24, bx (γ4 1) (#[.slice none 0 0]) 24, bx (γ4 0) (#[.slice p n cap]) 24, bx (γ2 0) (#[.int .i64 ((j + 1 : Nat))]) 3, bx (γ1 2) (#[.slice none 0 0]) 24, bx (γ1 1) (#[.int .i64 own]) 3, bx (γ1 0) (#[.slice p n cap]) 24] ++ []) [bx g31 cs31 40] (some ⟨g31, 0, none⟩) n cq31 l j (γ225 0) (#[.int .i64 ((j + 1 : Nat)), .int .i64 own, .int .i64 0, .bool false, .bool false]) 1 ([⟨(j + 1 : Nat), own, 0, false, false⟩]) w (hw.pull (A := [bx (γ153 0) (#[.slice (some ⟨g31, 0, none⟩) n cq31]) 24, bx (γ4 1) (#[.slice none 0 0]) 24, bx (γ4 0) (#[.slice p n cap]) 24, bx (γ2 0) (#[.int .i64 ((j + 1 : Nat))]) 3, bx (γ1 2) (#[.slice none 0 0]) 24, bx (γ1 1) (#[.int .i64 own]) 3, bx (γ1 0) (#[.slice p n cap]) 24]) (Y := [bx g31 cs31 40]) (R := [])) hO31 (by rfl) (by rfl) (by omega) (by omega) (by omega) (by omega)).mono fun e w' ⟨q, capq, Y', he, hO, hY⟩ => ⟨_, _, he, ⟨q, capq, Y', rfl, rfl, hO⟩, hY.push⟩) ?_
       rintro v257 L257 ⟨q257, cq257, Y257, rfl, rfl, hO257⟩
       refine ops_nil ?_
       refine done_any ?_
       refine any_tk (f := 1) [11, 12] [] [45] [(47, .pointer (some ⟨γ153 0, 0, none⟩))] ([]) #[true, true, true, true, true, true, true, true, true, true, true, true, true, false] (by kernel_rfl) (by kernel_rfl) al0 ?_
       refine any_one 13 _ (by kernel_rfl) rfl ?_
       refine om 1 [(13, .go (owns 0 0 1))] [] (fun _ => []) (fun _ L => (L.set 0 (bx (γ153 0) (#[.slice q257 (n + 1) cq257]) 24))) (fun _ => []) (fun _ => by kernel_rfl) (fun _ => al0) (fun _ => ?_)
       refine ops_nil ?_
       refine done_any ?_
       refine any_nil (by kernel_rfl) ?_
       refine done_seq ?_
       refine at_seq ?_
       refine aq [] [] [(4, .int .i64 0)] ([]) (fun _ => by kernel_rfl) al0 ?_
       refine done_seq ?_
       refine at_back ([]) (.int .i64 0) [] (by kernel_rfl) (by kernel_rfl) al0 ?_
       refine oq 1 [] [4, 7] [(8, .int .i64 0)] ([]) (fun _ => by kernel_rfl) al0 ?_
       refine ops_nil ?_
       refine done_seq ?_
       refine at_seq ?_
       refine aq [] [4, 7, 8] [(22, .bool false)] ([]) (fun _ => by kernel_rfl) al0 ?_
       refine done_seq ?_
       refine at_false (by kernel_rfl) ?_
       refine at_skip ?_
       refine done_seq ?_
       refine at_seq ?_
       refine am [(0, .go (owns 0 0 1)), (1, .go (owns 1 0 1))] [4] (fun _ => [(5, .int .i64 0)]) (fun _ L => (L.set 1 (bx (γ4 1) (#[.slice q257 (n + 1) cq257]) 24))) (fun _ => []) (fun _ => by kernel_rfl) (fun _ => al0) (fun _ => ?_)
       refine done_seq ?_
       refine at_back (owns 1 0 1) (.tuple #[.agg #[.slice q257 (n + 1) cq257], .int .i64 0]) [] (by kernel_rfl) (by kernel_rfl) al0 ?_
       refine om 6 [(7, .go (owns 0 0 1))] [4, 7] (fun γ264 => [(8, .pointer (some ⟨γ264 0, 0, none⟩)), (9, .int .i64 0)]) (fun γ264 L => bx (γ264 0) (#[.slice q257 (n + 1) cq257]) 24 :: L) (fun γ264 => []) (fun _ => by kernel_rfl) (fun γ264 => al0) (fun γ264 => ?_)
       refine ops_nil ?_
       refine done_seq ?_
       refine at_seq ?_
       refine at_any (by kernel_rfl) ?_
       refine any_tk (f := 5) [2] [] [4, 7, 8] [(18, .int .i64 0)] ([]) #[false, false, true, false, false, false] (by kernel_rfl) (by kernel_rfl) al0 ?_
       refine any_cut 0 #[true, true, true, true, true, true] ([(4, .pointer (some ⟨γ1 2, 0, none⟩)), (5, .int .i64 ((j + 1 : Nat))), (6, .int .i64 0)]) (bx (γ264 0) (#[.slice q257 (n + 1) cq257]) 24 :: bx (γ153 0) (#[.slice q257 (n + 1) cq257]) 24 :: bx (γ4 1) (#[.slice q257 (n + 1) cq257]) 24 :: bx (γ4 0) (#[.slice p n cap]) 24 :: bx (γ2 0) (#[.int .i64 ((j + 1 : Nat))]) 3 :: bx (γ1 2) (#[.slice q257 (n + 1) cq257]) 24 :: bx (γ1 1) (#[.int .i64 own]) 3 :: bx (γ1 0) (#[.slice p n cap]) 24 :: (Y257 ++ [])) ?_ (fun hm => ?_)
       rotate_left
       ·
        refine any_fork [0, 1] (by kernel_rfl) (by simp) (each_cons _ rfl ?_ (each_cons _ rfl ?_ (each_nil)))
        ·
         refine oq 1 [(0, .go (owns 0 0 1))] [4, 7, 18] [(16, .agg #[.slice q257 (n + 1) cq257])] ([]) (fun _ => by kernel_rfl) al0 ?_
         refine ops_nil ?_
         refine done_any ?_
         refine any_fork [1, 3] (by kernel_rfl) (by simp) (each_cons _ rfl ?_ (each_cons _ rfl ?_ (each_nil)))
         ·
          refine oq 1 [(1, .go (owns 4 0 1))] [4, 16, 18] [(17, .int .i64 ((j + 1 : Nat)))] ([]) (fun _ => by kernel_rfl) al0 ?_
          refine ops_nil ?_
          refine done_any ?_
          refine any_one 3 _ (by kernel_rfl) rfl ?_
          refine om 1 [(3, .go (owns 5 0 1))] [4, 17, 18] (fun _ => []) (fun _ L => (L.set 5 (bx (γ1 2) (#[.slice q257 (n + 1) cq257]) 24))) (fun _ => []) (fun _ => by kernel_rfl) (fun _ => al0) (fun _ => ?_)
          refine ops_nil ?_
          refine done_any ?_
          refine any_tk (f := 0) [4, 5] [] [4] [(5, .int .i64 ((j + 1 : Nat))), (6, .int .i64 0)] ([]) #[true, true, true, true, true, true] (by kernel_rfl) (by kernel_rfl) al0 ?_
          exact any_weak hm [4, 5, 6] (by kernel_rfl) rfl rfl rfl
         ·
          refine om 1 [(3, .go (owns 5 0 1))] [4, 7, 18] (fun _ => []) (fun _ L => (L.set 5 (bx (γ1 2) (#[.slice q257 (n + 1) cq257]) 24))) (fun _ => []) (fun _ => by kernel_rfl) (fun _ => al0) (fun _ => ?_)
          refine ops_nil ?_
          refine done_any ?_
          refine any_one 1 _ (by kernel_rfl) rfl ?_
          refine oq 1 [(1, .go (owns 4 0 1))] [4, 18] [(17, .int .i64 ((j + 1 : Nat)))] ([]) (fun _ => by kernel_rfl) al0 ?_
          refine ops_nil ?_
          refine done_any ?_
          refine any_tk (f := 0) [4, 5] [] [4] [(5, .int .i64 ((j + 1 : Nat))), (6, .int .i64 0)] ([]) #[true, true, true, true, true, true] (by kernel_rfl) (by kernel_rfl) al0 ?_
          exact any_weak hm [4, 5, 6] (by kernel_rfl) rfl rfl rfl
        ·
         refine oq 1 [(1, .go (owns 4 0 1))] [4, 8, 18] [(17, .int .i64 ((j + 1 : Nat)))] ([]) (fun _ => by kernel_rfl) al0 ?_
         refine ops_nil ?_
         refine done_any ?_
         refine any_one 0 _ (by kernel_rfl) rfl ?_
         refine oq 1 [(0, .go (owns 0 0 1))] [4, 17, 18] [(16, .agg #[.slice q257 (n + 1) cq257])] ([]) (fun _ => by kernel_rfl) al0 ?_
         refine ops_nil ?_
         refine done_any ?_
         refine any_one 3 _ (by kernel_rfl) rfl ?_
         refine om 1 [(3, .go (owns 5 0 1))] [4, 17, 18] (fun _ => []) (fun _ L => (L.set 5 (bx (γ1 2) (#[.slice q257 (n + 1) cq257]) 24))) (fun _ => []) (fun _ => by kernel_rfl) (fun _ => al0) (fun _ => ?_)
         refine ops_nil ?_
         refine done_any ?_
         refine any_tk (f := 0) [4, 5] [] [4] [(5, .int .i64 ((j + 1 : Nat))), (6, .int .i64 0)] ([]) #[true, true, true, true, true, true] (by kernel_rfl) (by kernel_rfl) al0 ?_
         exact any_weak hm [4, 5, 6] (by kernel_rfl) rfl rfl rfl
       refine any_nil (by kernel_rfl) ?_
       refine done_seq ?_
       refine at_return (owns 5 0 1) (.tuple #[.agg #[.slice q257 (n + 1) cq257], .int .i64 ((j + 1 : Nat)), .int .i64 0]) [] (by kernel_rfl) (by kernel_rfl) al0 ?_
       exact fun w' hw => by rw [openV_ok q6 q157 (open_at hI hx186 (by assumption)) q193]; exact ⟨_, _, _, _, rfl, hO257, hw.below, ((hw.tailN 8).sub (List.sublist_append_left Y257 ([])))⟩
    ·
     refine aq [(4, .go (owns 0 0 1)), (6, .no)] [0, 1, 2, 5] [(28, .bool false)] ([¬ (((j : Nat) : Int) < ((n : Nat) : Int))]) (fun _ => by kernel_rfl) (al1 q184) ?_
     refine done_seq ?_
     refine at_false (by kernel_rfl) ?_
     refine at_leave _ (by rfl) ?_
     refine done_seq ?_
     refine at_seq ?_
     refine at_seq ?_
     by_cases q284 : ((j : Nat) : Int) = (32 : Int)
     ·
      refine aq [(1, .yes)] [0, 1, 2, 5] [(32, .bool true)] ([((j : Nat) : Int) = (32 : Int)]) (fun _ => by kernel_rfl) (al1 q284) ?_
      refine done_seq ?_
      refine at_true (by kernel_rfl) ?_
      refine at_seq ?_
      refine aq [] [] [(4, .int .i64 6)] ([]) (fun _ => by kernel_rfl) al0 ?_
      refine done_seq ?_
      refine at_back ([]) (.int .i64 6) [] (by kernel_rfl) (by kernel_rfl) al0 ?_
      refine oq 1 [] [4, 7] [(8, .int .i64 6)] ([]) (fun _ => by kernel_rfl) al0 ?_
      refine ops_nil ?_
      refine done_seq ?_
      refine at_seq ?_
      refine aq [] [4, 7, 8] [(22, .bool true)] ([]) (fun _ => by kernel_rfl) al0 ?_
      refine done_seq ?_
      refine at_true (by kernel_rfl) ?_
      refine at_seq ?_
      refine aq [(2, .go (owns 1 0 1))] [4] [(5, .int .i64 6)] ([]) (fun _ => by kernel_rfl) al0 ?_
      refine done_seq ?_
      refine at_back (owns 1 0 1) (.tuple #[.agg #[.slice none 0 0], .int .i64 6]) [] (by kernel_rfl) (by kernel_rfl) al0 ?_
      refine om 6 [(7, .go (owns 0 0 1))] [4, 7] (fun γ290 => [(8, .pointer (some ⟨γ290 0, 0, none⟩)), (9, .int .i64 6)]) (fun γ290 L => bx (γ290 0) (#[.slice none 0 0]) 24 :: L) (fun γ290 => []) (fun _ => by kernel_rfl) (fun γ290 => al0) (fun γ290 => ?_)
      refine ops_nil ?_
      refine done_seq ?_
      refine at_seq ?_
      refine at_any (by kernel_rfl) ?_
      refine any_tk (f := 5) [2] [] [4, 7, 8] [(18, .int .i64 6)] ([]) #[false, false, true, false, false, false] (by kernel_rfl) (by kernel_rfl) al0 ?_
      refine any_cut 0 #[true, true, true, true, true, true] ([(4, .pointer (some ⟨γ1 2, 0, none⟩)), (5, .int .i64 0), (6, .int .i64 6)]) ([bx (γ290 0) (#[.slice none 0 0]) 24, bx (γ153 0) (#[.slice (some ⟨g31, 0, none⟩) n cq31]) 24, bx (γ4 1) (#[.slice none 0 0]) 24, bx (γ4 0) (#[.slice p n cap]) 24, bx (γ2 0) (#[.int .i64 0]) 3, bx (γ1 2) (#[.slice none 0 0]) 24, bx (γ1 1) (#[.int .i64 own]) 3, bx (γ1 0) (#[.slice p n cap]) 24, bx g31 cs31 40]) ?_ (fun hm => ?_)
      rotate_left
      ·
       refine any_fork [0, 1] (by kernel_rfl) (by simp) (each_cons _ rfl ?_ (each_cons _ rfl ?_ (each_nil)))
       ·
        refine oq 1 [(0, .go (owns 0 0 1))] [4, 7, 18] [(16, .agg #[.slice none 0 0])] ([]) (fun _ => by kernel_rfl) al0 ?_
        refine ops_nil ?_
        refine done_any ?_
        refine any_fork [1, 3] (by kernel_rfl) (by simp) (each_cons _ rfl ?_ (each_cons _ rfl ?_ (each_nil)))
        ·
         refine oq 1 [(1, .go (owns 4 0 1))] [4, 16, 18] [(17, .int .i64 0)] ([]) (fun _ => by kernel_rfl) al0 ?_
         refine ops_nil ?_
         refine done_any ?_
         refine any_one 3 _ (by kernel_rfl) rfl ?_
         refine oq 1 [(3, .go (owns 5 0 1))] [4, 17, 18] [] ([]) (fun _ => by kernel_rfl) al0 ?_
         refine ops_nil ?_
         refine done_any ?_
         refine any_tk (f := 0) [4, 5] [] [4] [(5, .int .i64 0), (6, .int .i64 6)] ([]) #[true, true, true, true, true, true] (by kernel_rfl) (by kernel_rfl) al0 ?_
         exact any_weak hm [4, 5, 6] (by kernel_rfl) rfl rfl rfl
        ·
         refine oq 1 [(3, .go (owns 5 0 1))] [4, 7, 18] [] ([]) (fun _ => by kernel_rfl) al0 ?_
         refine ops_nil ?_
         refine done_any ?_
         refine any_one 1 _ (by kernel_rfl) rfl ?_
         refine oq 1 [(1, .go (owns 4 0 1))] [4, 18] [(17, .int .i64 0)] ([]) (fun _ => by kernel_rfl) al0 ?_
         refine ops_nil ?_
         refine done_any ?_
         refine any_tk (f := 0) [4, 5] [] [4] [(5, .int .i64 0), (6, .int .i64 6)] ([]) #[true, true, true, true, true, true] (by kernel_rfl) (by kernel_rfl) al0 ?_
         exact any_weak hm [4, 5, 6] (by kernel_rfl) rfl rfl rfl
       ·
        refine oq 1 [(1, .go (owns 4 0 1))] [4, 8, 18] [(17, .int .i64 0)] ([]) (fun _ => by kernel_rfl) al0 ?_
        refine ops_nil ?_
        refine done_any ?_
        refine any_one 0 _ (by kernel_rfl) rfl ?_
        refine oq 1 [(0, .go (owns 0 0 1))] [4, 17, 18] [(16, .agg #[.slice none 0 0])] ([]) (fun _ => by kernel_rfl) al0 ?_
        refine ops_nil ?_
        refine done_any ?_
        refine any_one 3 _ (by kernel_rfl) rfl ?_
        refine oq 1 [(3, .go (owns 5 0 1))] [4, 17, 18] [] ([]) (fun _ => by kernel_rfl) al0 ?_
        refine ops_nil ?_
        refine done_any ?_
        refine any_tk (f := 0) [4, 5] [] [4] [(5, .int .i64 0), (6, .int .i64 6)] ([]) #[true, true, true, true, true, true] (by kernel_rfl) (by kernel_rfl) al0 ?_
        exact any_weak hm [4, 5, 6] (by kernel_rfl) rfl rfl rfl
      refine any_nil (by kernel_rfl) ?_
      refine done_seq ?_
      refine at_return (owns 5 0 1) (.tuple #[.agg #[.slice none 0 0], .int .i64 0, .int .i64 6]) [] (by kernel_rfl) (by kernel_rfl) al0 ?_
      exact fun w' hw => by rw [openV_full q6 q157 (open_end hI (by omega)) q284]; exact ⟨none, 0, 0, [], rfl, SlO.nil, hw.below, hw.sub (List.nil_sublist _)⟩
     ·
      refine aq [(1, .no)] [0, 1, 2, 5] [(32, .bool false)] ([¬ (((j : Nat) : Int) = (32 : Int))]) (fun _ => by kernel_rfl) (al1 q284) ?_
      refine done_seq ?_
      refine at_false (by kernel_rfl) ?_
      refine at_skip ?_
      refine done_seq ?_
      refine at_seq ?_
      refine am [(1, .fit), (2, .go (owns 3 0 1))] [0, 1, 2, 5] (fun _ => []) (fun _ L => (L.set 3 (bx (γ2 0) (#[.int .i64 ((j + 1 : Nat))]) 3))) (fun _ => [Fit .i64 ((j + 1 : Nat))]) (fun _ => by kernel_rfl) (fun _ => (al1 (fit64 (by omega) (by omega)))) (fun _ => ?_)
      refine done_seq ?_
      refine at_seq ?_
      refine at_any (by kernel_rfl) ?_
      refine any_tk (f := 9) [0, 1, 2, 3, 5] [] [1, 2] [(35, .pointer (some ⟨γ153 0, 0, none⟩)), (38, .pointer (some ⟨γ153 0, 0, none⟩)), (40, .int .i64 ((j : Nat)))] ([]) #[true, true, true, true, false, true, false, false, false, false, false, false, false, false] (by kernel_rfl) (by kernel_rfl) al0 ?_
      refine any_cutG 4 #[true, true, true, true, true, true, true, true, true, true, false, false, false, false] (fun γ316 => [(35, .pointer (some ⟨γ153 0, 0, none⟩)), (39, .slice (some ⟨g31, 0, none⟩) n cq31), (40, .int .i64 ((j : Nat))), (44, .slice (some ⟨γ316 0, 0, none⟩) 1 1)]) (fun γ316 => [bx (γ316 0) (#[.int .i64 ((j + 1 : Nat)), .int .i64 own, .int .i64 0, .bool false, .bool false]) 40, bx (γ153 0) (#[.slice (some ⟨g31, 0, none⟩) n cq31]) 24, bx (γ4 1) (#[.slice none 0 0]) 24, bx (γ4 0) (#[.slice p n cap]) 24, bx (γ2 0) (#[.int .i64 ((j + 1 : Nat))]) 3, bx (γ1 2) (#[.slice none 0 0]) 24, bx (γ1 1) (#[.int .i64 own]) 3, bx (γ1 0) (#[.slice p n cap]) 24, bx g31 cs31 40]) (fun γ316 => ?_) (fun hm => ?_)
      rotate_left
      ·
       refine any_fork [4, 6, 7] (by kernel_rfl) (by simp) (each_cons _ rfl ?_ (each_cons _ rfl ?_ (each_cons _ rfl ?_ (each_nil))))
       ·
        refine oq 1 [(4, .go (owns 0 0 1))] [1, 2, 35, 40] [(39, .slice (some ⟨g31, 0, none⟩) n cq31)] ([]) (fun _ => by kernel_rfl) al0 ?_
        refine ops_nil ?_
        refine done_any ?_
        refine any_fork [6, 7] (by kernel_rfl) (by simp) (each_cons _ rfl ?_ (each_cons _ rfl ?_ (each_nil)))
        ·
         refine oq 1 [(6, .go (owns 3 0 1))] [1, 35, 39, 40] [(41, .int .i64 ((j + 1 : Nat)))] ([]) (fun _ => by kernel_rfl) al0 ?_
         refine ops_nil ?_
         refine done_any ?_
         refine any_one 7 _ (by kernel_rfl) rfl ?_
         refine oq 1 [(7, .go (owns 5 0 1))] [35, 39, 40, 41] [(42, .int .i64 own)] ([]) (fun _ => by kernel_rfl) al0 ?_
         refine ops_nil ?_
         refine done_any ?_
         refine any_tk (f := 5) [8] [] [35, 39, 40] [(43, .agg #[.int .i64 ((j + 1 : Nat)), .int .i64 own, .int .i64 0, .bool false, .bool false])] ([]) #[true, true, true, true, true, true, true, true, true, false, false, false, false, false] (by kernel_rfl) (by kernel_rfl) al0 ?_
         refine any_one 9 _ (by kernel_rfl) rfl ?_
         refine om 1 [] [35, 39, 40] (fun γ321 => [(44, .slice (some ⟨γ321 0, 0, none⟩) 1 1)]) (fun γ321 L => bx (γ321 0) (#[.int .i64 ((j + 1 : Nat)), .int .i64 own, .int .i64 0, .bool false, .bool false]) 40 :: L) (fun γ321 => []) (fun _ => by kernel_rfl) (fun γ321 => al0) (fun γ321 => ?_)
         refine ops_nil ?_
         refine done_any ?_
         exact any_weak (hm fun i => [γ321 0].getD i 0) [35, 39, 40, 44] (by kernel_rfl) rfl rfl rfl
        ·
         refine oq 1 [(7, .go (owns 5 0 1))] [2, 35, 39, 40] [(42, .int .i64 own)] ([]) (fun _ => by kernel_rfl) al0 ?_
         refine ops_nil ?_
         refine done_any ?_
         refine any_one 6 _ (by kernel_rfl) rfl ?_
         refine oq 1 [(6, .go (owns 3 0 1))] [35, 39, 40, 42] [(41, .int .i64 ((j + 1 : Nat)))] ([]) (fun _ => by kernel_rfl) al0 ?_
         refine ops_nil ?_
         refine done_any ?_
         refine any_tk (f := 5) [8] [] [35, 39, 40] [(43, .agg #[.int .i64 ((j + 1 : Nat)), .int .i64 own, .int .i64 0, .bool false, .bool false])] ([]) #[true, true, true, true, true, true, true, true, true, false, false, false, false, false] (by kernel_rfl) (by kernel_rfl) al0 ?_
         refine any_one 9 _ (by kernel_rfl) rfl ?_
         refine om 1 [] [35, 39, 40] (fun γ325 => [(44, .slice (some ⟨γ325 0, 0, none⟩) 1 1)]) (fun γ325 L => bx (γ325 0) (#[.int .i64 ((j + 1 : Nat)), .int .i64 own, .int .i64 0, .bool false, .bool false]) 40 :: L) (fun γ325 => []) (fun _ => by kernel_rfl) (fun γ325 => al0) (fun γ325 => ?_)
         refine ops_nil ?_
         refine done_any ?_
         exact any_weak (hm fun i => [γ325 0].getD i 0) [35, 39, 40, 44] (by kernel_rfl) rfl rfl rfl
       ·
        refine oq 1 [(6, .go (owns 3 0 1))] [1, 35, 38, 40] [(41, .int .i64 ((j + 1 : Nat)))] ([]) (fun _ => by kernel_rfl) al0 ?_
        refine ops_nil ?_
        refine done_any ?_
        refine any_fork [4, 7] (by kernel_rfl) (by simp) (each_cons _ rfl ?_ (each_cons _ rfl ?_ (each_nil)))
        ·
         refine oq 1 [(4, .go (owns 0 0 1))] [1, 35, 40, 41] [(39, .slice (some ⟨g31, 0, none⟩) n cq31)] ([]) (fun _ => by kernel_rfl) al0 ?_
         refine ops_nil ?_
         refine done_any ?_
         refine any_one 7 _ (by kernel_rfl) rfl ?_
         refine oq 1 [(7, .go (owns 5 0 1))] [35, 39, 40, 41] [(42, .int .i64 own)] ([]) (fun _ => by kernel_rfl) al0 ?_
         refine ops_nil ?_
         refine done_any ?_
         refine any_tk (f := 5) [8] [] [35, 39, 40] [(43, .agg #[.int .i64 ((j + 1 : Nat)), .int .i64 own, .int .i64 0, .bool false, .bool false])] ([]) #[true, true, true, true, true, true, true, true, true, false, false, false, false, false] (by kernel_rfl) (by kernel_rfl) al0 ?_
         refine any_one 9 _ (by kernel_rfl) rfl ?_
         refine om 1 [] [35, 39, 40] (fun γ330 => [(44, .slice (some ⟨γ330 0, 0, none⟩) 1 1)]) (fun γ330 L => bx (γ330 0) (#[.int .i64 ((j + 1 : Nat)), .int .i64 own, .int .i64 0, .bool false, .bool false]) 40 :: L) (fun γ330 => []) (fun _ => by kernel_rfl) (fun γ330 => al0) (fun γ330 => ?_)
         refine ops_nil ?_
         refine done_any ?_
         exact any_weak (hm fun i => [γ330 0].getD i 0) [35, 39, 40, 44] (by kernel_rfl) rfl rfl rfl
        ·
         refine oq 1 [(7, .go (owns 5 0 1))] [35, 38, 40, 41] [(42, .int .i64 own)] ([]) (fun _ => by kernel_rfl) al0 ?_
         refine ops_nil ?_
         refine done_any ?_
         refine any_tk (f := 6) [8] [] [35, 38, 40] [(43, .agg #[.int .i64 ((j + 1 : Nat)), .int .i64 own, .int .i64 0, .bool false, .bool false])] ([]) #[true, true, true, true, false, true, true, true, true, false, false, false, false, false] (by kernel_rfl) (by kernel_rfl) al0 ?_
         refine any_fork [4, 9] (by kernel_rfl) (by simp) (each_cons _ rfl ?_ (each_cons _ rfl ?_ (each_nil)))
         ·
          refine oq 1 [(4, .go (owns 0 0 1))] [35, 40, 43] [(39, .slice (some ⟨g31, 0, none⟩) n cq31)] ([]) (fun _ => by kernel_rfl) al0 ?_
          refine ops_nil ?_
          refine done_any ?_
          refine any_one 9 _ (by kernel_rfl) rfl ?_
          refine om 1 [] [35, 39, 40] (fun γ334 => [(44, .slice (some ⟨γ334 0, 0, none⟩) 1 1)]) (fun γ334 L => bx (γ334 0) (#[.int .i64 ((j + 1 : Nat)), .int .i64 own, .int .i64 0, .bool false, .bool false]) 40 :: L) (fun γ334 => []) (fun _ => by kernel_rfl) (fun γ334 => al0) (fun γ334 => ?_)
          refine ops_nil ?_
          refine done_any ?_
          exact any_weak (hm fun i => [γ334 0].getD i 0) [35, 39, 40, 44] (by kernel_rfl) rfl rfl rfl
         ·
          refine om 1 [] [35, 38, 40] (fun γ335 => [(44, .slice (some ⟨γ335 0, 0, none⟩) 1 1)]) (fun γ335 L => bx (γ335 0) (#[.int .i64 ((j + 1 : Nat)), .int .i64 own, .int .i64 0, .bool false, .bool false]) 40 :: L) (fun γ335 => []) (fun _ => by kernel_rfl) (fun γ335 => al0) (fun γ335 => ?_)
          refine ops_nil ?_
          refine done_any ?_
          refine any_one 4 _ (by kernel_rfl) rfl ?_
          refine oq 1 [(4, .go (owns 1 0 1))] [35, 40, 44] [(39, .slice (some ⟨g31, 0, none⟩) n cq31)] ([]) (fun _ => by kernel_rfl) al0 ?_
          refine ops_nil ?_
          refine done_any ?_
          exact any_weak (hm fun i => [γ335 0].getD i 0) [35, 39, 40, 44] (by kernel_rfl) rfl rfl rfl
       ·
        refine oq 1 [(7, .go (owns 5 0 1))] [2, 35, 38, 40] [(42, .int .i64 own)] ([]) (fun _ => by kernel_rfl) al0 ?_
        refine ops_nil ?_
        refine done_any ?_
        refine any_fork [4, 6] (by kernel_rfl) (by simp) (each_cons _ rfl ?_ (each_cons _ rfl ?_ (each_nil)))
        ·
         refine oq 1 [(4, .go (owns 0 0 1))] [2, 35, 40, 42] [(39, .slice (some ⟨g31, 0, none⟩) n cq31)] ([]) (fun _ => by kernel_rfl) al0 ?_
         refine ops_nil ?_
         refine done_any ?_
         refine any_one 6 _ (by kernel_rfl) rfl ?_
         refine oq 1 [(6, .go (owns 3 0 1))] [35, 39, 40, 42] [(41, .int .i64 ((j + 1 : Nat)))] ([]) (fun _ => by kernel_rfl) al0 ?_
         refine ops_nil ?_
         refine done_any ?_
         refine any_tk (f := 5) [8] [] [35, 39, 40] [(43, .agg #[.int .i64 ((j + 1 : Nat)), .int .i64 own, .int .i64 0, .bool false, .bool false])] ([]) #[true, true, true, true, true, true, true, true, true, false, false, false, false, false] (by kernel_rfl) (by kernel_rfl) al0 ?_
         refine any_one 9 _ (by kernel_rfl) rfl ?_
         refine om 1 [] [35, 39, 40] (fun γ341 => [(44, .slice (some ⟨γ341 0, 0, none⟩) 1 1)]) (fun γ341 L => bx (γ341 0) (#[.int .i64 ((j + 1 : Nat)), .int .i64 own, .int .i64 0, .bool false, .bool false]) 40 :: L) (fun γ341 => []) (fun _ => by kernel_rfl) (fun γ341 => al0) (fun γ341 => ?_)
         refine ops_nil ?_
         refine done_any ?_
         exact any_weak (hm fun i => [γ341 0].getD i 0) [35, 39, 40, 44] (by kernel_rfl) rfl rfl rfl
        ·
         refine oq 1 [(6, .go (owns 3 0 1))] [35, 38, 40, 42] [(41, .int .i64 ((j + 1 : Nat)))] ([]) (fun _ => by kernel_rfl) al0 ?_
         refine ops_nil ?_
         refine done_any ?_
         refine any_tk (f := 6) [8] [] [35, 38, 40] [(43, .agg #[.int .i64 ((j + 1 : Nat)), .int .i64 own, .int .i64 0, .bool false, .bool false])] ([]) #[true, true, true, true, false, true, true, true, true, false, false, false, false, false] (by kernel_rfl) (by kernel_rfl) al0 ?_
         refine any_fork [4, 9] (by kernel_rfl) (by simp) (each_cons _ rfl ?_ (each_cons _ rfl ?_ (each_nil)))
         ·
          refine oq 1 [(4, .go (owns 0 0 1))] [35, 40, 43] [(39, .slice (some ⟨g31, 0, none⟩) n cq31)] ([]) (fun _ => by kernel_rfl) al0 ?_
          refine ops_nil ?_
          refine done_any ?_
          refine any_one 9 _ (by kernel_rfl) rfl ?_
          refine om 1 [] [35, 39, 40] (fun γ345 => [(44, .slice (some ⟨γ345 0, 0, none⟩) 1 1)]) (fun γ345 L => bx (γ345 0) (#[.int .i64 ((j + 1 : Nat)), .int .i64 own, .int .i64 0, .bool false, .bool false]) 40 :: L) (fun γ345 => []) (fun _ => by kernel_rfl) (fun γ345 => al0) (fun γ345 => ?_)
          refine ops_nil ?_
          refine done_any ?_
          exact any_weak (hm fun i => [γ345 0].getD i 0) [35, 39, 40, 44] (by kernel_rfl) rfl rfl rfl
         ·
          refine om 1 [] [35, 38, 40] (fun γ346 => [(44, .slice (some ⟨γ346 0, 0, none⟩) 1 1)]) (fun γ346 L => bx (γ346 0) (#[.int .i64 ((j + 1 : Nat)), .int .i64 own, .int .i64 0, .bool false, .bool false]) 40 :: L) (fun γ346 => []) (fun _ => by kernel_rfl) (fun γ346 => al0) (fun γ346 => ?_)
          refine ops_nil ?_
          refine done_any ?_
          refine any_one 4 _ (by kernel_rfl) rfl ?_
          refine oq 1 [(4, .go (owns 1 0 1))] [35, 40, 44] [(39, .slice (some ⟨g31, 0, none⟩) n cq31)] ([]) (fun _ => by kernel_rfl) al0 ?_
          refine ops_nil ?_
          refine done_any ?_
          exact any_weak (hm fun i => [γ346 0].getD i 0) [35, 39, 40, 44] (by kernel_rfl) rfl rfl rfl
      refine any_one 10 _ (by kernel_rfl) rfl ?_
      refine ops_call (fun v L' => ∃ q capq Y, v = .slice q (n + 1) capq ∧ L' = [bx (γ153 0) (#[.slice (some ⟨g31, 0, none⟩) n cq31]) 24, bx (γ4 1) (#[.slice none 0 0]) 24, bx (γ4 0) (#[.slice p n cap]) 24, bx (γ2 0) (#[.int .i64 ((j + 1 : Nat))]) 3, bx (γ1 2) (#[.slice none 0 0]) 24, bx (γ1 1) (#[.int .i64 own]) 3, bx (γ1 0) (#[.slice p n cap]) 24] ++ (Y ++ []) ∧ SlO 40 Y q (n + 1) capq (l.take j ++ [⟨(j + 1 : Nat), own, 0, false, false⟩] ++ l.drop j)) (by kernel_rfl) (by kernel_rfl) (by kernel_rfl) (fun args w => Try.call56 args w) (fun w hw => (insert_d _ ([bx (γ153 0) (#[.slice (some ⟨g31, 0, none⟩) n cq31]) 24, bx (γ4 1) (#[.slice none 0 0]) 24, bx (γ4 0) (#[.slice p n cap]) 24, bx (γ2 0) (#[.int .i64 ((j + 1 : Nat))]) 3, bx (γ1 2) (#[.slice none 0 0]) 24, bx (γ1 1) (#[.int .i64 own]) 3, bx (γ1 0) (#[.slice p n cap]) 24] ++ []) [bx g31 cs31 40] (some ⟨g31, 0, none⟩) n cq31 l j (γ316 0) (#[.int .i64 ((j + 1 : Nat)), .int .i64 own, .int .i64 0, .bool false, .bool false]) 1 ([⟨(j + 1 : Nat), own, 0, false, false⟩]) w (hw.pull (A := [bx (γ153 0) (#[.slice (some ⟨g31, 0, none⟩) n cq31]) 24, bx (γ4 1) (#[.slice none 0 0]) 24, bx (γ4 0) (#[.slice p n cap]) 24, bx (γ2 0) (#[.int .i64 ((j + 1 : Nat))]) 3, bx (γ1 2) (#[.slice none 0 0]) 24, bx (γ1 1) (#[.int .i64 own]) 3, bx (γ1 0) (#[.slice p n cap]) 24]) (Y := [bx g31 cs31 40]) (R := [])) hO31 (by rfl) (by rfl) (by omega) (by omega) (by omega) (by omega)).mono fun e w' ⟨q, capq, Y', he, hO, hY⟩ => ⟨_, _, he, ⟨q, capq, Y', rfl, rfl, hO⟩, hY.push⟩) ?_
      rintro v348 L348 ⟨q348, cq348, Y348, rfl, rfl, hO348⟩
      refine ops_nil ?_
      refine done_any ?_
      refine any_tk (f := 1) [11, 12] [] [45] [(47, .pointer (some ⟨γ153 0, 0, none⟩))] ([]) #[true, true, true, true, true, true, true, true, true, true, true, true, true, false] (by kernel_rfl) (by kernel_rfl) al0 ?_
      refine any_one 13 _ (by kernel_rfl) rfl ?_
      refine om 1 [(13, .go (owns 0 0 1))] [] (fun _ => []) (fun _ L => (L.set 0 (bx (γ153 0) (#[.slice q348 (n + 1) cq348]) 24))) (fun _ => []) (fun _ => by kernel_rfl) (fun _ => al0) (fun _ => ?_)
      refine ops_nil ?_
      refine done_any ?_
      refine any_nil (by kernel_rfl) ?_
      refine done_seq ?_
      refine at_seq ?_
      refine aq [] [] [(4, .int .i64 0)] ([]) (fun _ => by kernel_rfl) al0 ?_
      refine done_seq ?_
      refine at_back ([]) (.int .i64 0) [] (by kernel_rfl) (by kernel_rfl) al0 ?_
      refine oq 1 [] [4, 7] [(8, .int .i64 0)] ([]) (fun _ => by kernel_rfl) al0 ?_
      refine ops_nil ?_
      refine done_seq ?_
      refine at_seq ?_
      refine aq [] [4, 7, 8] [(22, .bool false)] ([]) (fun _ => by kernel_rfl) al0 ?_
      refine done_seq ?_
      refine at_false (by kernel_rfl) ?_
      refine at_skip ?_
      refine done_seq ?_
      refine at_seq ?_
      refine am [(0, .go (owns 0 0 1)), (1, .go (owns 1 0 1))] [4] (fun _ => [(5, .int .i64 0)]) (fun _ L => (L.set 1 (bx (γ4 1) (#[.slice q348 (n + 1) cq348]) 24))) (fun _ => []) (fun _ => by kernel_rfl) (fun _ => al0) (fun _ => ?_)
      refine done_seq ?_
      refine at_back (owns 1 0 1) (.tuple #[.agg #[.slice q348 (n + 1) cq348], .int .i64 0]) [] (by kernel_rfl) (by kernel_rfl) al0 ?_
      refine om 6 [(7, .go (owns 0 0 1))] [4, 7] (fun γ355 => [(8, .pointer (some ⟨γ355 0, 0, none⟩)), (9, .int .i64 0)]) (fun γ355 L => bx (γ355 0) (#[.slice q348 (n + 1) cq348]) 24 :: L) (fun γ355 => []) (fun _ => by kernel_rfl) (fun γ355 => al0) (fun γ355 => ?_)
      refine ops_nil ?_
      refine done_seq ?_
      refine at_seq ?_
      refine at_any (by kernel_rfl) ?_
      refine any_tk (f := 5) [2] [] [4, 7, 8] [(18, .int .i64 0)] ([]) #[false, false, true, false, false, false] (by kernel_rfl) (by kernel_rfl) al0 ?_
      refine any_cut 0 #[true, true, true, true, true, true] ([(4, .pointer (some ⟨γ1 2, 0, none⟩)), (5, .int .i64 ((j + 1 : Nat))), (6, .int .i64 0)]) (bx (γ355 0) (#[.slice q348 (n + 1) cq348]) 24 :: bx (γ153 0) (#[.slice q348 (n + 1) cq348]) 24 :: bx (γ4 1) (#[.slice q348 (n + 1) cq348]) 24 :: bx (γ4 0) (#[.slice p n cap]) 24 :: bx (γ2 0) (#[.int .i64 ((j + 1 : Nat))]) 3 :: bx (γ1 2) (#[.slice q348 (n + 1) cq348]) 24 :: bx (γ1 1) (#[.int .i64 own]) 3 :: bx (γ1 0) (#[.slice p n cap]) 24 :: (Y348 ++ [])) ?_ (fun hm => ?_)
      rotate_left
      ·
       refine any_fork [0, 1] (by kernel_rfl) (by simp) (each_cons _ rfl ?_ (each_cons _ rfl ?_ (each_nil)))
       ·
        refine oq 1 [(0, .go (owns 0 0 1))] [4, 7, 18] [(16, .agg #[.slice q348 (n + 1) cq348])] ([]) (fun _ => by kernel_rfl) al0 ?_
        refine ops_nil ?_
        refine done_any ?_
        refine any_fork [1, 3] (by kernel_rfl) (by simp) (each_cons _ rfl ?_ (each_cons _ rfl ?_ (each_nil)))
        ·
         refine oq 1 [(1, .go (owns 4 0 1))] [4, 16, 18] [(17, .int .i64 ((j + 1 : Nat)))] ([]) (fun _ => by kernel_rfl) al0 ?_
         refine ops_nil ?_
         refine done_any ?_
         refine any_one 3 _ (by kernel_rfl) rfl ?_
         refine om 1 [(3, .go (owns 5 0 1))] [4, 17, 18] (fun _ => []) (fun _ L => (L.set 5 (bx (γ1 2) (#[.slice q348 (n + 1) cq348]) 24))) (fun _ => []) (fun _ => by kernel_rfl) (fun _ => al0) (fun _ => ?_)
         refine ops_nil ?_
         refine done_any ?_
         refine any_tk (f := 0) [4, 5] [] [4] [(5, .int .i64 ((j + 1 : Nat))), (6, .int .i64 0)] ([]) #[true, true, true, true, true, true] (by kernel_rfl) (by kernel_rfl) al0 ?_
         exact any_weak hm [4, 5, 6] (by kernel_rfl) rfl rfl rfl
        ·
         refine om 1 [(3, .go (owns 5 0 1))] [4, 7, 18] (fun _ => []) (fun _ L => (L.set 5 (bx (γ1 2) (#[.slice q348 (n + 1) cq348]) 24))) (fun _ => []) (fun _ => by kernel_rfl) (fun _ => al0) (fun _ => ?_)
         refine ops_nil ?_
         refine done_any ?_
         refine any_one 1 _ (by kernel_rfl) rfl ?_
         refine oq 1 [(1, .go (owns 4 0 1))] [4, 18] [(17, .int .i64 ((j + 1 : Nat)))] ([]) (fun _ => by kernel_rfl) al0 ?_
         refine ops_nil ?_
         refine done_any ?_
         refine any_tk (f := 0) [4, 5] [] [4] [(5, .int .i64 ((j + 1 : Nat))), (6, .int .i64 0)] ([]) #[true, true, true, true, true, true] (by kernel_rfl) (by kernel_rfl) al0 ?_
         exact any_weak hm [4, 5, 6] (by kernel_rfl) rfl rfl rfl
       ·
        refine oq 1 [(1, .go (owns 4 0 1))] [4, 8, 18] [(17, .int .i64 ((j + 1 : Nat)))] ([]) (fun _ => by kernel_rfl) al0 ?_
        refine ops_nil ?_
        refine done_any ?_
        refine any_one 0 _ (by kernel_rfl) rfl ?_
        refine oq 1 [(0, .go (owns 0 0 1))] [4, 17, 18] [(16, .agg #[.slice q348 (n + 1) cq348])] ([]) (fun _ => by kernel_rfl) al0 ?_
        refine ops_nil ?_
        refine done_any ?_
        refine any_one 3 _ (by kernel_rfl) rfl ?_
        refine om 1 [(3, .go (owns 5 0 1))] [4, 17, 18] (fun _ => []) (fun _ L => (L.set 5 (bx (γ1 2) (#[.slice q348 (n + 1) cq348]) 24))) (fun _ => []) (fun _ => by kernel_rfl) (fun _ => al0) (fun _ => ?_)
        refine ops_nil ?_
        refine done_any ?_
        refine any_tk (f := 0) [4, 5] [] [4] [(5, .int .i64 ((j + 1 : Nat))), (6, .int .i64 0)] ([]) #[true, true, true, true, true, true] (by kernel_rfl) (by kernel_rfl) al0 ?_
        exact any_weak hm [4, 5, 6] (by kernel_rfl) rfl rfl rfl
      refine any_nil (by kernel_rfl) ?_
      refine done_seq ?_
      refine at_return (owns 5 0 1) (.tuple #[.agg #[.slice q348 (n + 1) cq348], .int .i64 ((j + 1 : Nat)), .int .i64 0]) [] (by kernel_rfl) (by kernel_rfl) al0 ?_
      exact fun w' hw => by rw [openV_ok q6 q157 (open_end hI (by omega)) q284]; exact ⟨_, _, _, _, rfl, hO348, hw.below, ((hw.tailN 8).sub (List.sublist_append_left Y348 ([])))⟩
end Go.Proofs.Ytfhlmijdokfdpaa

/-! event.Link. -/
namespace Go.Proofs.Ytfhlmijdokfdpaa
open Go Go.RowKit

set_option maxRecDepth 100000 in
theorem link_d (p : Option Addr) (n cap : Nat) (l : List Port) (a b : Int) (w : World)
 (hsl : Sv w p l) (hn : n = l.length) (hb : n ≤ 1000)
 : Calls Try.prog 29 #[.agg #[.slice p n cap], .int .i64 a, .int .i64 b] w fun e w' => ∃ q m capq Y, e = .returned (.tuple #[.agg #[.slice q m capq], .int .i64 (linkV l a b).2]) ∧ SlO 40 Y q m capq (linkV l a b).1 ∧ Below w.heap.size w w' ∧ Hs w Y w' := by
 refine enter (Hs.start w) Try.func29 rfl Try.ntmps29 rfl ?_
 refine at_seq ?_
 refine am [] [] (fun γ1 => [(3, .pointer (some ⟨γ1 0, 0, none⟩)), (4, .pointer (some ⟨γ1 1, 0, none⟩)), (5, .pointer (some ⟨γ1 2, 0, none⟩)), (6, .pointer (some ⟨γ1 3, 0, none⟩))]) (fun γ1 L => bx (γ1 3) (#[.slice none 0 0]) 24 :: bx (γ1 2) (#[.int .i64 b]) 3 :: bx (γ1 1) (#[.int .i64 a]) 3 :: bx (γ1 0) (#[.slice p n cap]) 24 :: L) (fun γ1 => []) (fun _ => by kernel_rfl) (fun γ1 => al0) (fun γ1 => ?_)
 refine done_seq ?_
 refine at_seq ?_
 refine at_ops ?_
 refine oq 2 [(0, .go (owns 3 0 1))] [6] [(8, .agg #[.slice p n cap]), (9, .func (.func 57) #[] #[.pointer (some ⟨γ1 1, 0, none⟩), .pointer (some ⟨γ1 2, 0, none⟩)])] ([]) (fun _ => by kernel_rfl) al0 ?_
 refine ops_inline (g := 54) (args := #[.agg #[.slice p n cap], .func (.func 57) #[] #[.pointer (some ⟨γ1 1, 0, none⟩), .pointer (some ⟨γ1 2, 0, none⟩)]]) (by kernel_rfl) (by kernel_rfl) (by kernel_rfl) (fun args w => Try.call54 args w) Try.func54 rfl Try.ntmps54 rfl ?_
 refine at_seq ?_
 refine am [] [1] (fun γ3 => [(2, .pointer (some ⟨γ3 0, 0, none⟩)), (4, .pointer (some ⟨γ3 1, 0, none⟩))]) (fun γ3 L => bx (γ3 1) (#[.slice none 0 0]) 24 :: bx (γ3 0) (#[.slice p n cap]) 24 :: L) (fun γ3 => []) (fun _ => by kernel_rfl) (fun γ3 => al0) (fun γ3 => ?_)
 refine done_seq ?_
 refine at_seq ?_
 refine at_seq ?_
 refine at_ops ?_
 refine oq 1 [(0, .go (owns 1 0 1))] [1, 2, 4] [(9, .agg #[.slice p n cap])] ([]) (fun _ => by kernel_rfl) al0 ?_
 rcases q5 : rightB l with _ | _
 ·
  refine ops_callD (.int .i64 260) (by kernel_rfl) (by kernel_rfl) (by kernel_rfl) (fun args w => Try.call16 args w) (fun w hw => by have := check_d p n cap l w (hsl.kept hw.below) hn hb; rw [q5] at this; exact this) ?_
  refine oq 1 [] [1, 2, 4] [(6, .int .i64 260)] ([]) (fun _ => by kernel_rfl) al0 ?_
  refine ops_nil ?_
  refine done_seq ?_
  refine at_seq ?_
  refine aq [] [1, 2, 4, 6] [(12, .bool true)] ([]) (fun _ => by kernel_rfl) al0 ?_
  refine done_seq ?_
  refine at_true (by kernel_rfl) ?_
  refine at_seq ?_
  refine aq [(2, .go (owns 0 0 1))] [4] [(5, .int .i64 260)] ([]) (fun _ => by kernel_rfl) al0 ?_
  refine done_seq ?_
  refine at_back (owns 0 0 1) (.tuple #[.agg #[.slice none 0 0], .int .i64 260]) [] (by kernel_rfl) (by kernel_rfl) al0 ?_
  refine oq 4 [(5, .go (owns 2 0 1))] [6] [(7, .int .i64 260)] ([]) (fun _ => by kernel_rfl) al0 ?_
  refine ops_nil ?_
  refine done_seq ?_
  refine at_return (owns 2 0 1) (.tuple #[.agg #[.slice none 0 0], .int .i64 260]) [] (by kernel_rfl) (by kernel_rfl) al0 ?_
  exact fun w' hw => by rw [linkV_bad q5]; exact ⟨none, 0, 0, [], rfl, SlO.nil, hw.below, hw.sub (List.nil_sublist _)⟩
 ·
  refine ops_callD (.int .i64 0) (by kernel_rfl) (by kernel_rfl) (by kernel_rfl) (fun args w => Try.call16 args w) (fun w hw => by have := check_d p n cap l w (hsl.kept hw.below) hn hb; rw [q5] at this; exact this) ?_
  refine oq 1 [] [1, 2, 4] [(6, .int .i64 0)] ([]) (fun _ => by kernel_rfl) al0 ?_
  refine ops_nil ?_
  refine done_seq ?_
  refine at_seq ?_
  refine aq [] [1, 2, 4, 6] [(12, .bool false)] ([]) (fun _ => by kernel_rfl) al0 ?_
  refine done_seq ?_
  refine at_false (by kernel_rfl) ?_
  refine at_skip ?_
  refine done_seq ?_
  refine at_seq ?_
  refine at_ops ?_
  refine oq 2 [(1, .go (owns 1 0 1))] [1, 4] [(16, .slice p n cap)] ([]) (fun _ => by kernel_rfl) al0 ?_
  refine ops_call (fun v L' => ∃ q capq Y, v = .slice q n capq ∧ L' = List.take 6 ([bx (γ3 1) (#[.slice none 0 0]) 24, bx (γ3 0) (#[.slice p n cap]) 24, bx (γ1 3) (#[.slice none 0 0]) 24, bx (γ1 2) (#[.int .i64 b]) 3, bx (γ1 1) (#[.int .i64 a]) 3, bx (γ1 0) (#[.slice p n cap]) 24]) ++ (Y ++ List.drop 6 ([bx (γ3 1) (#[.slice none 0 0]) 24, bx (γ3 0) (#[.slice p n cap]) 24, bx (γ1 3) (#[.slice none 0 0]) 24, bx (γ1 2) (#[.int .i64 b]) 3, bx (γ1 1) (#[.int .i64 a]) 3, bx (γ1 0) (#[.slice p n cap]) 24])) ∧ SlO 40 Y q n capq l) (by kernel_rfl) (by kernel_rfl) (by kernel_rfl) (fun args w => Try.call72 args w) (fun w hw => (clone_d p n cap l w (hsl.kept hw.below) hn (by omega)).mono fun e w' ⟨q, capq, Y, he, hO, hb, hY⟩ => ⟨_, _, he, ⟨q, capq, Y, rfl, rfl, hO⟩, hw.join hb hY 6⟩) ?_
  rintro v13 L13 ⟨q13, cq13, Y13, rfl, rfl, hO13⟩
  have hnq13 := hO13.len
  rcases hO13.parts with ⟨rfl, rfl, hz13⟩ | ⟨g13, cs13, rfl, rfl, hOw13⟩
  ·
   refine om 3 [(5, .go (owns 0 0 1))] [1, 4] (fun γ14 => [(7, .pointer (some ⟨γ14 0, 0, none⟩))]) (fun γ14 L => bx (γ14 0) (#[.slice none n cq13]) 24 :: L) (fun γ14 => []) (fun _ => by kernel_rfl) (fun γ14 => al0) (fun γ14 => ?_)
   refine ops_nil ?_
   refine done_seq ?_
   refine at_seq ?_
   refine at_seq ?_
   refine at_ops ?_
   refine oq 1 [] [4, 7] [(19, .func (.func 57) #[] #[.pointer (some ⟨γ1 1, 0, none⟩), .pointer (some ⟨γ1 2, 0, none⟩)])] ([]) (fun _ => by kernel_rfl) al0 ?_
   refine ops_inline (g := 57) (args := #[.pointer (some ⟨γ14 0, 0, none⟩), .pointer (some ⟨γ1 1, 0, none⟩), .pointer (some ⟨γ1 2, 0, none⟩)]) (by kernel_rfl) (by kernel_rfl) (by kernel_rfl) (fun args w => Try.call57 args w) Try.func57 rfl Try.ntmps57 rfl ?_
   refine at_seq ?_
   refine aq [] [0, 1, 2] [] ([]) (fun _ => by kernel_rfl) al0 ?_
   refine done_seq ?_
   refine at_seq ?_
   refine at_calm rfl (by kernel_rfl) (by kernel_rfl) ?_
   refine cm 5 [(3, .go (owns 0 0 1)), (4, .go (owns 5 0 1))] [0, 1, 2] [(10, .slice none n cq13), (11, .int .i64 a)] ([]) (by kernel_rfl) rfl al0 ?_
   rcases hg18 : getB l a with _ | y18
   ·
    refine calm_callD (.pointer none) (by kernel_rfl) (by kernel_rfl) (by kernel_rfl) (fun args w => Try.call32 args w) (fun w hw => by have := port_d none n cq13 l a w (hO13.atN (A := []) hw) hnq13 (by omega) (ris_all (right_ris q5)) (ris_asc l 0 (right_ris q5)); rw [portV_none hg18] at this; exact this) ?_
    refine cm 5 [(9, .go (owns 0 0 1)), (10, .go (owns 4 0 1))] [1, 2, 12] [(16, .slice none n cq13), (17, .int .i64 b)] ([]) (by kernel_rfl) rfl al0 ?_
    rcases hg20 : getB l b with _ | y20
    ·
     refine calm_callD (.pointer none) (by kernel_rfl) (by kernel_rfl) (by kernel_rfl) (fun args w => Try.call32 args w) (fun w hw => by have := port_d none n cq13 l b w (hO13.atN (A := []) hw) hnq13 (by omega) (ris_all (right_ris q5)) (ris_asc l 0 (right_ris q5)); rw [portV_none hg20] at this; exact this) ?_
     refine cm 2 [] [1, 2] [(5, .pointer none), (6, .pointer none)] ([]) (by kernel_rfl) rfl al0 ?_
     refine calm_nil' ?_
     refine done_seq ?_
     refine at_seq ?_
     refine at_block ?_
     refine at_seq ?_
     refine aq [] [1, 2, 5, 6] [(19, .bool true)] ([]) (fun _ => by kernel_rfl) al0 ?_
     refine done_seq ?_
     refine at_true (by kernel_rfl) ?_
     refine at_seq ?_
     refine aq [] [] [(4, .int .i64 4)] ([]) (fun _ => by kernel_rfl) al0 ?_
     refine done_seq ?_
     refine at_back ([]) (.int .i64 4) [] (by kernel_rfl) (by kernel_rfl) al0 ?_
     refine oq 1 [] [4, 7] [(8, .int .i64 4)] ([]) (fun _ => by kernel_rfl) al0 ?_
     refine ops_nil ?_
     refine done_seq ?_
     refine at_seq ?_
     refine aq [] [4, 7, 8] [(22, .bool true)] ([]) (fun _ => by kernel_rfl) al0 ?_
     refine done_seq ?_
     refine at_true (by kernel_rfl) ?_
     refine at_seq ?_
     refine aq [(2, .go (owns 1 0 1))] [4] [(5, .int .i64 4)] ([]) (fun _ => by kernel_rfl) al0 ?_
     refine done_seq ?_
     refine at_back (owns 1 0 1) (.tuple #[.agg #[.slice none 0 0], .int .i64 4]) [] (by kernel_rfl) (by kernel_rfl) al0 ?_
     refine oq 4 [(5, .go (owns 3 0 1))] [6] [(7, .int .i64 4)] ([]) (fun _ => by kernel_rfl) al0 ?_
     refine ops_nil ?_
     refine done_seq ?_
     refine at_return (owns 3 0 1) (.tuple #[.agg #[.slice none 0 0], .int .i64 4]) [] (by kernel_rfl) (by kernel_rfl) al0 ?_
     exact fun w' hw => by rw [linkV_n1 q5 hg18]; exact ⟨none, 0, 0, [], rfl, SlO.nil, hw.below, hw.sub (List.nil_sublist _)⟩
    ·
     have hy20 := (get_pos (ris_asc l 0 (right_ris q5)) hg20).1
     exact absurd (List.getElem?_eq_some_iff.1 hy20).1 (by omega)
   ·
    have hy18 := (get_pos (ris_asc l 0 (right_ris q5)) hg18).1
    exact absurd (List.getElem?_eq_some_iff.1 hy18).1 (by omega)
  ·
   refine om 3 [(5, .go (owns 0 0 1))] [1, 4] (fun γ30 => [(7, .pointer (some ⟨γ30 0, 0, none⟩))]) (fun γ30 L => bx (γ30 0) (#[.slice (some ⟨g13, 0, none⟩) n cq13]) 24 :: L) (fun γ30 => []) (fun _ => by kernel_rfl) (fun γ30 => al0) (fun γ30 => ?_)
   refine ops_nil ?_
   refine done_seq ?_
   refine at_seq ?_
   refine at_seq ?_
   refine at_ops ?_
   refine oq 1 [] [4, 7] [(19, .func (.func 57) #[] #[.pointer (some ⟨γ1 1, 0, none⟩), .pointer (some ⟨γ1 2, 0, none⟩)])] ([]) (fun _ => by kernel_rfl) al0 ?_
   refine ops_inline (g := 57) (args := #[.pointer (some ⟨γ30 0, 0, none⟩), .pointer (some ⟨γ1 1, 0, none⟩), .pointer (some ⟨γ1 2, 0, none⟩)]) (by kernel_rfl) (by kernel_rfl) (by kernel_rfl) (fun args w => Try.call57 args w) Try.func57 rfl Try.ntmps57 rfl ?_
   refine at_seq ?_
   refine aq [] [0, 1, 2] [] ([]) (fun _ => by kernel_rfl) al0 ?_
   refine done_seq ?_
   refine at_seq ?_
   refine at_calm rfl (by kernel_rfl) (by kernel_rfl) ?_
   refine cm 5 [(3, .go (owns 0 0 1)), (4, .go (owns 5 0 1))] [0, 1, 2] [(10, .slice (some ⟨g13, 0, none⟩) n cq13), (11, .int .i64 a)] ([]) (by kernel_rfl) rfl al0 ?_
   rcases hg34 : getB l a with _ | y34
   ·
    refine calm_callD (.pointer none) (by kernel_rfl) (by kernel_rfl) (by kernel_rfl) (fun args w => Try.call32 args w) (fun w hw => by have := port_d (some ⟨g13, 0, none⟩) n cq13 l a w (hO13.atN (A := [_, _, _, _, _, _, _]) hw) hnq13 (by omega) (ris_all (right_ris q5)) (ris_asc l 0 (right_ris q5)); rw [portV_none hg34] at this; exact this) ?_
    refine cm 5 [(9, .go (owns 0 0 1)), (10, .go (owns 4 0 1))] [1, 2, 12] [(16, .slice (some ⟨g13, 0, none⟩) n cq13), (17, .int .i64 b)] ([]) (by kernel_rfl) rfl al0 ?_
    rcases hg36 : getB l b with _ | y36
    ·
     refine calm_callD (.pointer none) (by kernel_rfl) (by kernel_rfl) (by kernel_rfl) (fun args w => Try.call32 args w) (fun w hw => by have := port_d (some ⟨g13, 0, none⟩) n cq13 l b w (hO13.atN (A := [_, _, _, _, _, _, _]) hw) hnq13 (by omega) (ris_all (right_ris q5)) (ris_asc l 0 (right_ris q5)); rw [portV_none hg36] at this; exact this) ?_
     refine cm 2 [] [1, 2] [(5, .pointer none), (6, .pointer none)] ([]) (by kernel_rfl) rfl al0 ?_
     refine calm_nil' ?_
     refine done_seq ?_
     refine at_seq ?_
     refine at_block ?_
     refine at_seq ?_
     refine aq [] [1, 2, 5, 6] [(19, .bool true)] ([]) (fun _ => by kernel_rfl) al0 ?_
     refine done_seq ?_
     refine at_true (by kernel_rfl) ?_
     refine at_seq ?_
     refine aq [] [] [(4, .int .i64 4)] ([]) (fun _ => by kernel_rfl) al0 ?_
     refine done_seq ?_
     refine at_back ([]) (.int .i64 4) [] (by kernel_rfl) (by kernel_rfl) al0 ?_
     refine oq 1 [] [4, 7] [(8, .int .i64 4)] ([]) (fun _ => by kernel_rfl) al0 ?_
     refine ops_nil ?_
     refine done_seq ?_
     refine at_seq ?_
     refine aq [] [4, 7, 8] [(22, .bool true)] ([]) (fun _ => by kernel_rfl) al0 ?_
     refine done_seq ?_
     refine at_true (by kernel_rfl) ?_
     refine at_seq ?_
     refine aq [(2, .go (owns 1 0 1))] [4] [(5, .int .i64 4)] ([]) (fun _ => by kernel_rfl) al0 ?_
     refine done_seq ?_
     refine at_back (owns 1 0 1) (.tuple #[.agg #[.slice none 0 0], .int .i64 4]) [] (by kernel_rfl) (by kernel_rfl) al0 ?_
     refine oq 4 [(5, .go (owns 3 0 1))] [6] [(7, .int .i64 4)] ([]) (fun _ => by kernel_rfl) al0 ?_
     refine ops_nil ?_
     refine done_seq ?_
     refine at_return (owns 3 0 1) (.tuple #[.agg #[.slice none 0 0], .int .i64 4]) [] (by kernel_rfl) (by kernel_rfl) al0 ?_
     exact fun w' hw => by rw [linkV_n1 q5 hg34]; exact ⟨none, 0, 0, [], rfl, SlO.nil, hw.below, hw.sub (List.nil_sublist _)⟩
    ·
     have hy36 := (get_pos (ris_asc l 0 (right_ris q5)) hg36).1
     refine calm_callD (.pointer (some ⟨g13, 0 + (posB l b) * 5, none⟩)) (by kernel_rfl) (by kernel_rfl) (by kernel_rfl) (fun args w => Try.call32 args w) (fun w hw => by have := port_d (some ⟨g13, 0, none⟩) n cq13 l b w (hO13.atN (A := [_, _, _, _, _, _, _]) hw) hnq13 (by omega) (ris_all (right_ris q5)) (ris_asc l 0 (right_ris q5)); rw [portV_some hg36] at this; exact this) ?_
     refine cm 2 [] [1, 2] [(5, .pointer none), (6, .pointer (some ⟨g13, 0 + (posB l b) * 5, none⟩))] ([]) (by kernel_rfl) rfl al0 ?_
     refine calm_nil' ?_
     refine done_seq ?_
     refine at_seq ?_
     refine at_block ?_
     refine at_seq ?_
     refine aq [] [1, 2, 5, 6] [(19, .bool true)] ([]) (fun _ => by kernel_rfl) al0 ?_
     refine done_seq ?_
     refine at_true (by kernel_rfl) ?_
     refine at_seq ?_
     refine aq [] [] [(4, .int .i64 4)] ([]) (fun _ => by kernel_rfl) al0 ?_
     refine done_seq ?_
     refine at_back ([]) (.int .i64 4) [] (by kernel_rfl) (by kernel_rfl) al0 ?_
     refine oq 1 [] [4, 7] [(8, .int .i64 4)] ([]) (fun _ => by kernel_rfl) al0 ?_
     refine ops_nil ?_
     refine done_seq ?_
     refine at_seq ?_
     refine aq [] [4, 7, 8] [(22, .bool true)] ([]) (fun _ => by kernel_rfl) al0 ?_
     refine done_seq ?_
     refine at_true (by kernel_rfl) ?_
     refine at_seq ?_
     refine aq [(2, .go (owns 1 0 1))] [4] [(5, .int .i64 4)] ([]) (fun _ => by kernel_rfl) al0 ?_
     refine done_seq ?_
     refine at_back (owns 1 0 1) (.tuple #[.agg #[.slice none 0 0], .int .i64 4]) [] (by kernel_rfl) (by kernel_rfl) al0 ?_
     refine oq 4 [(5, .go (owns 3 0 1))] [6] [(7, .int .i64 4)] ([]) (fun _ => by kernel_rfl) al0 ?_
     refine ops_nil ?_
     refine done_seq ?_
     refine at_return (owns 3 0 1) (.tuple #[.agg #[.slice none 0 0], .int .i64 4]) [] (by kernel_rfl) (by kernel_rfl) al0 ?_
     exact fun w' hw => by rw [linkV_n1 q5 hg34]; exact ⟨none, 0, 0, [], rfl, SlO.nil, hw.below, hw.sub (List.nil_sublist _)⟩
   ·
    have hy34 := (get_pos (ris_asc l 0 (right_ris q5)) hg34).1
    refine calm_callD (.pointer (some ⟨g13, 0 + (posB l a) * 5, none⟩)) (by kernel_rfl) (by kernel_rfl) (by kernel_rfl) (fun args w => Try.call32 args w) (fun w hw => by have := port_d (some ⟨g13, 0, none⟩) n cq13 l a w (hO13.atN (A := [_, _, _, _, _, _, _]) hw) hnq13 (by omega) (ris_all (right_ris q5)) (ris_asc l 0 (right_ris q5)); rw [portV_some hg34] at this; exact this) ?_
    refine cm 5 [(9, .go (owns 0 0 1)), (10, .go (owns 4 0 1))] [1, 2, 12] [(16, .slice (some ⟨g13, 0, none⟩) n cq13), (17, .int .i64 b)] ([]) (by kernel_rfl) rfl al0 ?_
    rcases hg54 : getB l b with _ | y54
    ·
     refine calm_callD (.pointer none) (by kernel_rfl) (by kernel_rfl) (by kernel_rfl) (fun args w => Try.call32 args w) (fun w hw => by have := port_d (some ⟨g13, 0, none⟩) n cq13 l b w (hO13.atN (A := [_, _, _, _, _, _, _]) hw) hnq13 (by omega) (ris_all (right_ris q5)) (ris_asc l 0 (right_ris q5)); rw [portV_none hg54] at this; exact this) ?_
     refine cm 2 [] [1, 2] [(5, .pointer (some ⟨g13, 0 + (posB l a) * 5, none⟩)), (6, .pointer none)] ([]) (by kernel_rfl) rfl al0 ?_
     refine calm_nil' ?_
     refine done_seq ?_
     refine at_seq ?_
     refine at_block ?_
     refine at_seq ?_
     refine aq [] [1, 2, 5, 6] [(19, .bool true)] ([]) (fun _ => by kernel_rfl) al0 ?_
     refine done_seq ?_
     refine at_true (by kernel_rfl) ?_
     refine at_seq ?_
     refine aq [] [] [(4, .int .i64 4)] ([]) (fun _ => by kernel_rfl) al0 ?_
     refine done_seq ?_
     refine at_back ([]) (.int .i64 4) [] (by kernel_rfl) (by kernel_rfl) al0 ?_
     refine oq 1 [] [4, 7] [(8, .int .i64 4)] ([]) (fun _ => by kernel_rfl) al0 ?_
     refine ops_nil ?_
     refine done_seq ?_
     refine at_seq ?_
     refine aq [] [4, 7, 8] [(22, .bool true)] ([]) (fun _ => by kernel_rfl) al0 ?_
     refine done_seq ?_
     refine at_true (by kernel_rfl) ?_
     refine at_seq ?_
     refine aq [(2, .go (owns 1 0 1))] [4] [(5, .int .i64 4)] ([]) (fun _ => by kernel_rfl) al0 ?_
     refine done_seq ?_
     refine at_back (owns 1 0 1) (.tuple #[.agg #[.slice none 0 0], .int .i64 4]) [] (by kernel_rfl) (by kernel_rfl) al0 ?_
     refine oq 4 [(5, .go (owns 3 0 1))] [6] [(7, .int .i64 4)] ([]) (fun _ => by kernel_rfl) al0 ?_
     refine ops_nil ?_
     refine done_seq ?_
     refine at_return (owns 3 0 1) (.tuple #[.agg #[.slice none 0 0], .int .i64 4]) [] (by kernel_rfl) (by kernel_rfl) al0 ?_
     exact fun w' hw => by rw [linkV_n2 q5 hg54]; exact ⟨none, 0, 0, [], rfl, SlO.nil, hw.below, hw.sub (List.nil_sublist _)⟩
    ·
     have hy54 := (get_pos (ris_asc l 0 (right_ris q5)) hg54).1
     refine calm_callD (.pointer (some ⟨g13, 0 + (posB l b) * 5, none⟩)) (by kernel_rfl) (by kernel_rfl) (by kernel_rfl) (fun args w => Try.call32 args w) (fun w hw => by have := port_d (some ⟨g13, 0, none⟩) n cq13 l b w (hO13.atN (A := [_, _, _, _, _, _, _]) hw) hnq13 (by omega) (ris_all (right_ris q5)) (ris_asc l 0 (right_ris q5)); rw [portV_some hg54] at this; exact this) ?_
     refine cm 2 [] [1, 2] [(5, .pointer (some ⟨g13, 0 + (posB l a) * 5, none⟩)), (6, .pointer (some ⟨g13, 0 + (posB l b) * 5, none⟩))] ([]) (by kernel_rfl) rfl al0 ?_
     refine calm_nil' ?_
     refine done_seq ?_
     refine at_seq ?_
     refine at_block ?_
     refine at_seq ?_
     refine aq [] [1, 2, 5, 6] [(19, .bool false)] ([]) (fun _ => by kernel_rfl) al0 ?_
     refine done_seq ?_
     refine at_false (by kernel_rfl) ?_
     refine at_seq ?_
     refine at_ops ?_
     refine oq 2 [] [1, 2, 5, 6] [(27, .pointer (some ⟨g13, 0 + (posB l a) * 5, none⟩)), (28, .pointer (some ⟨g13, 0 + (posB l b) * 5, none⟩))] ([]) (fun _ => by kernel_rfl) al0 ?_
     by_cases q66 : (a : Int) = (b : Int)
     ·
      refine ops_eqp (g := g13) (o1 := 0 + (posB l a) * 5) (o2 := 0 + (posB l b) * 5) true 7 rfl (by kernel_rfl) (by kernel_rfl) (by kernel_rfl) (by kernel_rfl) Try.underlying65 rfl (show (5 : Nat) ≠ 0 from by decide) (by kernel_rfl) rfl ⟨fun _ => rfl, fun _ => by rw [q66]⟩ ?_
      refine oq 1 [] [1, 2, 5, 6] [(26, .bool true)] ([]) (fun _ => by kernel_rfl) al0 ?_
      refine ops_nil ?_
      refine done_seq ?_
      refine at_true (by kernel_rfl) ?_
      refine at_seq ?_
      refine aq [] [] [(4, .int .i64 2)] ([]) (fun _ => by kernel_rfl) al0 ?_
      refine done_seq ?_
      refine at_back ([]) (.int .i64 2) [] (by kernel_rfl) (by kernel_rfl) al0 ?_
      refine oq 1 [] [4, 7] [(8, .int .i64 2)] ([]) (fun _ => by kernel_rfl) al0 ?_
      refine ops_nil ?_
      refine done_seq ?_
      refine at_seq ?_
      refine aq [] [4, 7, 8] [(22, .bool true)] ([]) (fun _ => by kernel_rfl) al0 ?_
      refine done_seq ?_
      refine at_true (by kernel_rfl) ?_
      refine at_seq ?_
      refine aq [(2, .go (owns 1 0 1))] [4] [(5, .int .i64 2)] ([]) (fun _ => by kernel_rfl) al0 ?_
      refine done_seq ?_
      refine at_back (owns 1 0 1) (.tuple #[.agg #[.slice none 0 0], .int .i64 2]) [] (by kernel_rfl) (by kernel_rfl) al0 ?_
      refine oq 4 [(5, .go (owns 3 0 1))] [6] [(7, .int .i64 2)] ([]) (fun _ => by kernel_rfl) al0 ?_
      refine ops_nil ?_
      refine done_seq ?_
      refine at_return (owns 3 0 1) (.tuple #[.agg #[.slice none 0 0], .int .i64 2]) [] (by kernel_rfl) (by kernel_rfl) al0 ?_
      exact fun w' hw => by rw [linkV_same q5 hg34 hg54 q66]; exact ⟨none, 0, 0, [], rfl, SlO.nil, hw.below, hw.sub (List.nil_sublist _)⟩
     ·
      refine ops_eqp (g := g13) (o1 := 0 + (posB l a) * 5) (o2 := 0 + (posB l b) * 5) false 7 rfl (by kernel_rfl) (by kernel_rfl) (by kernel_rfl) (by kernel_rfl) Try.underlying65 rfl (show (5 : Nat) ≠ 0 from by decide) (by kernel_rfl) rfl ⟨fun e => absurd (pos_inj q5 hg34 hg54 (by omega)) q66, fun e => nomatch e⟩ ?_
      refine oq 1 [] [1, 2, 5, 6] [(26, .bool false)] ([]) (fun _ => by kernel_rfl) al0 ?_
      refine ops_nil ?_
      refine done_seq ?_
      refine at_false (by kernel_rfl) ?_
      refine at_seq ?_
      by_cases q75 : (y34.peer : Int) ≠ (0 : Int)
      ·
       refine aq [(3, .go (ownps 7 (0 + (posB l a) * 5 + 2) [.int .i64 y34.peer])), (4, .yes)] [1, 2, 5, 6] [(30, .bool true)] (acellsP cs13 (0 + (posB l a) * 5 + 2) [.int .i64 y34.peer] ++ ([(y34.peer : Int) ≠ (0 : Int)])) (fun _ => by kernel_rfl) (alA (rda_part ((hOw13.rdx hnq13 hy34)) 2 _ rfl) (al1 q75)) ?_
       refine done_seq ?_
       refine at_true (by kernel_rfl) ?_
       refine at_seq ?_
       refine aq [] [] [(4, .int .i64 261)] ([]) (fun _ => by kernel_rfl) al0 ?_
       refine done_seq ?_
       refine at_back ([]) (.int .i64 261) [] (by kernel_rfl) (by kernel_rfl) al0 ?_
       refine oq 1 [] [4, 7] [(8, .int .i64 261)] ([]) (fun _ => by kernel_rfl) al0 ?_
       refine ops_nil ?_
       refine done_seq ?_
       refine at_seq ?_
       refine aq [] [4, 7, 8] [(22, .bool true)] ([]) (fun _ => by kernel_rfl) al0 ?_
       refine done_seq ?_
       refine at_true (by kernel_rfl) ?_
       refine at_seq ?_
       refine aq [(2, .go (owns 1 0 1))] [4] [(5, .int .i64 261)] ([]) (fun _ => by kernel_rfl) al0 ?_
       refine done_seq ?_
       refine at_back (owns 1 0 1) (.tuple #[.agg #[.slice none 0 0], .int .i64 261]) [] (by kernel_rfl) (by kernel_rfl) al0 ?_
       refine oq 4 [(5, .go (owns 3 0 1))] [6] [(7, .int .i64 261)] ([]) (fun _ => by kernel_rfl) al0 ?_
       refine ops_nil ?_
       refine done_seq ?_
       refine at_return (owns 3 0 1) (.tuple #[.agg #[.slice none 0 0], .int .i64 261]) [] (by kernel_rfl) (by kernel_rfl) al0 ?_
       exact fun w' hw => by rw [linkV_has q5 hg34 hg54 q66 (by omega)]; exact ⟨none, 0, 0, [], rfl, SlO.nil, hw.below, hw.sub (List.nil_sublist _)⟩
      ·
       by_cases q83 : (y54.peer : Int) ≠ (0 : Int)
       ·
        refine aq [(3, .go (ownps 7 (0 + (posB l a) * 5 + 2) [.int .i64 y34.peer])), (4, .no), (9, .go (ownps 7 (0 + (posB l b) * 5 + 2) [.int .i64 y54.peer])), (10, .yes)] [1, 2, 5, 6] [(30, .bool true)] (acellsP cs13 (0 + (posB l a) * 5 + 2) [.int .i64 y34.peer] ++ ([¬ ((y34.peer : Int) ≠ (0 : Int))] ++ (acellsP cs13 (0 + (posB l b) * 5 + 2) [.int .i64 y54.peer] ++ ([(y54.peer : Int) ≠ (0 : Int)])))) (fun _ => by kernel_rfl) (alA (rda_part ((hOw13.rdx hnq13 hy34)) 2 _ rfl) (alA (al1 q75) (alA (rda_part ((hOw13.rdx hnq13 hy54)) 2 _ rfl) (al1 q83)))) ?_
        refine done_seq ?_
        refine at_true (by kernel_rfl) ?_
        refine at_seq ?_
        refine aq [] [] [(4, .int .i64 261)] ([]) (fun _ => by kernel_rfl) al0 ?_
        refine done_seq ?_
        refine at_back ([]) (.int .i64 261) [] (by kernel_rfl) (by kernel_rfl) al0 ?_
        refine oq 1 [] [4, 7] [(8, .int .i64 261)] ([]) (fun _ => by kernel_rfl) al0 ?_
        refine ops_nil ?_
        refine done_seq ?_
        refine at_seq ?_
        refine aq [] [4, 7, 8] [(22, .bool true)] ([]) (fun _ => by kernel_rfl) al0 ?_
        refine done_seq ?_
        refine at_true (by kernel_rfl) ?_
        refine at_seq ?_
        refine aq [(2, .go (owns 1 0 1))] [4] [(5, .int .i64 261)] ([]) (fun _ => by kernel_rfl) al0 ?_
        refine done_seq ?_
        refine at_back (owns 1 0 1) (.tuple #[.agg #[.slice none 0 0], .int .i64 261]) [] (by kernel_rfl) (by kernel_rfl) al0 ?_
        refine oq 4 [(5, .go (owns 3 0 1))] [6] [(7, .int .i64 261)] ([]) (fun _ => by kernel_rfl) al0 ?_
        refine ops_nil ?_
        refine done_seq ?_
        refine at_return (owns 3 0 1) (.tuple #[.agg #[.slice none 0 0], .int .i64 261]) [] (by kernel_rfl) (by kernel_rfl) al0 ?_
        exact fun w' hw => by rw [linkV_has q5 hg34 hg54 q66 (by omega)]; exact ⟨none, 0, 0, [], rfl, SlO.nil, hw.below, hw.sub (List.nil_sublist _)⟩
       ·
        refine aq [(3, .go (ownps 7 (0 + (posB l a) * 5 + 2) [.int .i64 y34.peer])), (4, .no), (9, .go (ownps 7 (0 + (posB l b) * 5 + 2) [.int .i64 y54.peer])), (10, .no)] [1, 2, 5, 6] [(30, .bool false)] (acellsP cs13 (0 + (posB l a) * 5 + 2) [.int .i64 y34.peer] ++ ([¬ ((y34.peer : Int) ≠ (0 : Int))] ++ (acellsP cs13 (0 + (posB l b) * 5 + 2) [.int .i64 y54.peer] ++ ([¬ ((y54.peer : Int) ≠ (0 : Int))])))) (fun _ => by kernel_rfl) (alA (rda_part ((hOw13.rdx hnq13 hy34)) 2 _ rfl) (alA (al1 q75) (alA (rda_part ((hOw13.rdx hnq13 hy54)) 2 _ rfl) (al1 q83)))) ?_
        refine done_seq ?_
        refine at_false (by kernel_rfl) ?_
        refine at_skip ?_
        refine done_block ?_
        refine done_seq ?_
        refine at_seq ?_
        refine at_any (by kernel_rfl) ?_
        refine any_tk (f := 8) [0, 1] [] [1, 2] [(43, .pointer (some ⟨g13, 0 + (posB l a) * 5, none⟩)), (44, .pointer (some ⟨g13, 0 + (posB l b) * 5, none⟩))] ([]) #[true, true, false, false, false, false, false, false, false, false] (by kernel_rfl) (by kernel_rfl) al0 ?_
        refine any_cut 1 #[true, true, true, true, true, true, true, true, true, false] ([(46, .int .i64 a), (50, .pointer (some ⟨g13, 0 + (posB l b) * 5 + 2, none⟩))]) ([bx (γ30 0) (#[.slice (some ⟨g13, 0, none⟩) n cq13]) 24, bx (γ3 1) (#[.slice none 0 0]) 24, bx (γ3 0) (#[.slice p n cap]) 24, bx (γ1 3) (#[.slice none 0 0]) 24, bx (γ1 2) (#[.int .i64 b]) 3, bx (γ1 1) (#[.int .i64 a]) 3, bx (γ1 0) (#[.slice p n cap]) 24, bx g13 ((cs13).setIfInBounds (0 + (posB l a) * 5 + 2) (.int .i64 b)) 40]) ?_ (fun hm => ?_)
        rotate_left
        ·
         refine any_fork [2, 3] (by kernel_rfl) (by simp) (each_cons _ rfl ?_ (each_cons _ rfl ?_ (each_nil)))
         ·
          refine oq 1 [(2, .go (owns 4 0 1))] [1, 43, 44] [(45, .int .i64 b)] ([]) (fun _ => by kernel_rfl) al0 ?_
          refine ops_nil ?_
          refine done_any ?_
          refine any_tk (f := 5) [4, 5] [] [1, 44, 45] [(48, .pointer (some ⟨g13, 0 + (posB l a) * 5 + 2, none⟩))] ([]) #[true, true, true, false, true, true, false, false, false, false] (by kernel_rfl) (by kernel_rfl) al0 ?_
          refine any_fork [3, 6] (by kernel_rfl) (by simp) (each_cons _ rfl ?_ (each_cons _ rfl ?_ (each_nil)))
          ·
           refine oq 1 [(3, .go (owns 5 0 1))] [44, 45, 48] [(46, .int .i64 a)] ([]) (fun _ => by kernel_rfl) al0 ?_
           refine ops_nil ?_
           refine done_any ?_
           refine any_one 6 _ (by kernel_rfl) rfl ?_
           refine om 1 [(6, .go (ownps 7 (0 + (posB l a) * 5 + 2) [undef]))] [44, 46] (fun _ => []) (fun _ L => (L.set 7 (bx g13 ((cs13).setIfInBounds (0 + (posB l a) * 5 + 2) (.int .i64 b)) 40))) (fun _ => [0 + (posB l a) * 5 + 2 < (cs13).size]) (fun _ => by kernel_rfl) (fun _ => (al1 (hOw13.room hnq13 hy34 (f := 2) (by decide)))) (fun _ => ?_)
           refine ops_nil ?_
           refine done_any ?_
           refine any_tk (f := 1) [7, 8] [] [46] [(50, .pointer (some ⟨g13, 0 + (posB l b) * 5 + 2, none⟩))] ([]) #[true, true, true, true, true, true, true, true, true, false] (by kernel_rfl) (by kernel_rfl) al0 ?_
           exact any_weak hm [46, 50] (by kernel_rfl) rfl rfl rfl
          ·
           refine om 1 [(6, .go (ownps 7 (0 + (posB l a) * 5 + 2) [undef]))] [1, 44] (fun _ => []) (fun _ L => (L.set 7 (bx g13 ((cs13).setIfInBounds (0 + (posB l a) * 5 + 2) (.int .i64 b)) 40))) (fun _ => [0 + (posB l a) * 5 + 2 < (cs13).size]) (fun _ => by kernel_rfl) (fun _ => (al1 (hOw13.room hnq13 hy34 (f := 2) (by decide)))) (fun _ => ?_)
           refine ops_nil ?_
           refine done_any ?_
           refine any_one 3 _ (by kernel_rfl) rfl ?_
           refine oq 1 [(3, .go (owns 5 0 1))] [44] [(46, .int .i64 a)] ([]) (fun _ => by kernel_rfl) al0 ?_
           refine ops_nil ?_
           refine done_any ?_
           refine any_tk (f := 1) [7, 8] [] [46] [(50, .pointer (some ⟨g13, 0 + (posB l b) * 5 + 2, none⟩))] ([]) #[true, true, true, true, true, true, true, true, true, false] (by kernel_rfl) (by kernel_rfl) al0 ?_
           exact any_weak hm [46, 50] (by kernel_rfl) rfl rfl rfl
         ·
          refine oq 1 [(3, .go (owns 5 0 1))] [2, 43, 44] [(46, .int .i64 a)] ([]) (fun _ => by kernel_rfl) al0 ?_
          refine ops_nil ?_
          refine done_any ?_
          refine any_one 2 _ (by kernel_rfl) rfl ?_
          refine oq 1 [(2, .go (owns 4 0 1))] [43, 44, 46] [(45, .int .i64 b)] ([]) (fun _ => by kernel_rfl) al0 ?_
          refine ops_nil ?_
          refine done_any ?_
          refine any_tk (f := 4) [4, 5] [] [44, 45, 46] [(48, .pointer (some ⟨g13, 0 + (posB l a) * 5 + 2, none⟩))] ([]) #[true, true, true, true, true, true, false, false, false, false] (by kernel_rfl) (by kernel_rfl) al0 ?_
          refine any_one 6 _ (by kernel_rfl) rfl ?_
          refine om 1 [(6, .go (ownps 7 (0 + (posB l a) * 5 + 2) [undef]))] [44, 46] (fun _ => []) (fun _ L => (L.set 7 (bx g13 ((cs13).setIfInBounds (0 + (posB l a) * 5 + 2) (.int .i64 b)) 40))) (fun _ => [0 + (posB l a) * 5 + 2 < (cs13).size]) (fun _ => by kernel_rfl) (fun _ => (al1 (hOw13.room hnq13 hy34 (f := 2) (by decide)))) (fun _ => ?_)
          refine ops_nil ?_
          refine done_any ?_
          refine any_tk (f := 1) [7, 8] [] [46] [(50, .pointer (some ⟨g13, 0 + (posB l b) * 5 + 2, none⟩))] ([]) #[true, true, true, true, true, true, true, true, true, false] (by kernel_rfl) (by kernel_rfl) al0 ?_
          exact any_weak hm [46, 50] (by kernel_rfl) rfl rfl rfl
        refine any_one 9 _ (by kernel_rfl) rfl ?_
        refine om 1 [(9, .go (ownps 7 (0 + (posB l b) * 5 + 2) [undef]))] [] (fun _ => []) (fun _ L => (L.set 7 (bx g13 (((cs13).setIfInBounds (0 + (posB l a) * 5 + 2) (.int .i64 b)).setIfInBounds (0 + (posB l b) * 5 + 2) (.int .i64 a)) 40))) (fun _ => [0 + (posB l b) * 5 + 2 < ((cs13).setIfInBounds (0 + (posB l a) * 5 + 2) (.int .i64 b)).size]) (fun _ => by kernel_rfl) (fun _ => (al1 ((hOw13.put (x' := (⟨y34.num, y34.vcpu, b, y34.pending, y34.masked⟩ : Port)) hnq13 hy34 (f := 2) (by decide) rfl).room (len_set hnq13) (get_set_ne (fun e => q66 (pos_inj q5 hg34 hg54 e)) hy54) (f := 2) (by decide)))) (fun _ => ?_)
        refine ops_nil ?_
        refine done_any ?_
        refine any_nil (by kernel_rfl) ?_
        refine done_seq ?_
        refine at_seq ?_
        refine aq [] [] [(4, .int .i64 0)] ([]) (fun _ => by kernel_rfl) al0 ?_
        refine done_seq ?_
        refine at_back ([]) (.int .i64 0) [] (by kernel_rfl) (by kernel_rfl) al0 ?_
        refine oq 1 [] [4, 7] [(8, .int .i64 0)] ([]) (fun _ => by kernel_rfl) al0 ?_
        refine ops_nil ?_
        refine done_seq ?_
        refine at_seq ?_
        refine aq [] [4, 7, 8] [(22, .bool false)] ([]) (fun _ => by kernel_rfl) al0 ?_
        refine done_seq ?_
        refine at_false (by kernel_rfl) ?_
        refine at_skip ?_
        refine done_seq ?_
        refine at_seq ?_
        refine am [(0, .go (owns 0 0 1)), (1, .go (owns 1 0 1))] [4] (fun _ => [(5, .int .i64 0)]) (fun _ L => (L.set 1 (bx (γ3 1) (#[.slice (some ⟨g13, 0, none⟩) n cq13]) 24))) (fun _ => []) (fun _ => by kernel_rfl) (fun _ => al0) (fun _ => ?_)
        refine done_seq ?_
        refine at_back (owns 1 0 1) (.tuple #[.agg #[.slice (some ⟨g13, 0, none⟩) n cq13], .int .i64 0]) [] (by kernel_rfl) (by kernel_rfl) al0 ?_
        refine om 4 [(5, .go (owns 3 0 1))] [6] (fun _ => [(7, .int .i64 0)]) (fun _ L => (L.set 3 (bx (γ1 3) (#[.slice (some ⟨g13, 0, none⟩) n cq13]) 24))) (fun _ => []) (fun _ => by kernel_rfl) (fun _ => al0) (fun _ => ?_)
        refine ops_nil ?_
        refine done_seq ?_
        refine at_return (owns 3 0 1) (.tuple #[.agg #[.slice (some ⟨g13, 0, none⟩) n cq13], .int .i64 0]) [] (by kernel_rfl) (by kernel_rfl) al0 ?_
        exact fun w' hw => by rw [linkV_ok q5 hg34 hg54 q66 ⟨by omega, by omega⟩]; exact ⟨_, _, _, _, rfl, (SlO.ofOwn ((hOw13.put (x' := (⟨y34.num, y34.vcpu, b, y34.pending, y34.masked⟩ : Port)) hnq13 hy34 (f := 2) (by decide) rfl).put (x' := (⟨y54.num, y54.vcpu, a, y54.pending, y54.masked⟩ : Port)) (len_set hnq13) (get_set_ne (fun e => q66 (pos_inj q5 hg34 hg54 e)) hy54) (f := 2) (by decide) rfl) (len_set (len_set hnq13))), hw.below, hw.tailN 7⟩
end Go.Proofs.Ytfhlmijdokfdpaa

/-! wakes. -/
namespace Go.Proofs.Ytfhlmijdokfdpaa
open Go Go.RowKit

set_option maxRecDepth 100000 in
theorem wakes_d  (w : World)
    : Calls Try.prog 10 #[] w fun e w' => e = .returned (.bool true) ∧ Below w.heap.size w w' := by
  refine enter (Hs.start w) Try.func10 rfl Try.ntmps10 rfl ?_
  refine at_seq ?_
  refine aq [] [] [] ([]) (fun _ => by kernel_rfl) al0 ?_
  refine done_seq ?_
  refine at_seq ?_
  refine at_ops ?_
  refine oq 1 [] [] [(10, .agg #[.slice none 0 0])] ([]) (fun _ => by kernel_rfl) al0 ?_
  refine ops_call (fun v L' => ∃ q m capq Y, v = .tuple #[.agg #[.slice q m capq], .int .i64 1, .int .i64 0] ∧ L' = List.take 0 ([]) ++ (Y ++ List.drop 0 ([])) ∧ SlO 40 Y q m capq ([⟨1, 1, 0, false, false⟩] : List Port)) (by kernel_rfl) (by kernel_rfl) (by kernel_rfl) (fun args w => Try.call28 args w) (fun w hw => by have := open_d none 0 0 ([] : List Port) 1 w Sv.nil rfl (by omega); rw [wk1] at this; exact this.mono fun e w' ⟨q, m, capq, Y, he, hO, hb, hY⟩ => ⟨_, _, he, ⟨q, m, capq, Y, rfl, rfl, hO⟩, hw.join hb hY 0⟩) ?_
  rintro v3 L3 ⟨q3, m3, cq3, Y3, rfl, rfl, hO3⟩
  have hm3 := hO3.len
  simp only [List.length_cons, List.length_nil] at hm3
  refine om 8 [(7, .go (owns 0 0 1))] [] (fun γ4 => [(1, .pointer (some ⟨γ4 0, 0, none⟩)), (2, .int .i64 1), (3, .int .i64 0)]) (fun γ4 L => bx (γ4 0) (#[.slice q3 m3 cq3]) 24 :: L) (fun γ4 => []) (fun _ => by kernel_rfl) (fun γ4 => al0) (fun γ4 => ?_)
  refine ops_nil ?_
  refine done_seq ?_
  refine at_seq ?_
  refine at_ops ?_
  refine oq 1 [(0, .go (owns 0 0 1))] [1, 2, 3] [(16, .agg #[.slice q3 m3 cq3])] ([]) (fun _ => by kernel_rfl) al0 ?_
  refine ops_call (fun v L' => ∃ q m capq Y, v = .tuple #[.agg #[.slice q m capq], .int .i64 2, .int .i64 0] ∧ L' = List.take 1 (bx (γ4 0) (#[.slice q3 m3 cq3]) 24 :: (Y3 ++ [])) ++ (Y ++ List.drop 1 (bx (γ4 0) (#[.slice q3 m3 cq3]) 24 :: (Y3 ++ []))) ∧ SlO 40 Y q m capq ([⟨1, 1, 0, false, false⟩, ⟨2, 2, 0, false, false⟩] : List Port)) (by kernel_rfl) (by kernel_rfl) (by kernel_rfl) (fun args w => Try.call28 args w) (fun w hw => by have := open_d q3 m3 cq3 ([⟨1, 1, 0, false, false⟩] : List Port) 2 w (hO3.atN (A := [_]) hw) hO3.len (by omega); rw [wk2] at this; exact this.mono fun e w' ⟨q, m, capq, Y, he, hO, hb, hY⟩ => ⟨_, _, he, ⟨q, m, capq, Y, rfl, rfl, hO⟩, hw.join hb hY 1⟩) ?_
  rintro v6 L6 ⟨q6, m6, cq6, Y6, rfl, rfl, hO6⟩
  have hm6 := hO6.len
  simp only [List.length_cons, List.length_nil] at hm6
  refine om 7 [(6, .go (owns 0 0 1))] [1, 2, 3] (fun _ => [(4, .int .i64 2), (5, .int .i64 0)]) (fun _ L => (L.set 0 (bx (γ4 0) (#[.slice q6 m6 cq6]) 24))) (fun _ => []) (fun _ => by kernel_rfl) (fun _ => al0) (fun _ => ?_)
  refine ops_nil ?_
  refine done_seq ?_
  refine at_seq ?_
  refine at_ops ?_
  refine oq 3 [(0, .go (owns 0 0 1))] [1, 2, 3, 4, 5] [(22, .agg #[.slice q6 m6 cq6]), (23, .int .i64 1), (24, .int .i64 2)] ([]) (fun _ => by kernel_rfl) al0 ?_
  refine ops_call (fun v L' => ∃ q m capq Y, v = .tuple #[.agg #[.slice q m capq], .int .i64 0] ∧ L' = List.take 1 (bx (γ4 0) (#[.slice q6 m6 cq6]) 24 :: (Y6 ++ (Y3 ++ []))) ++ (Y ++ List.drop 1 (bx (γ4 0) (#[.slice q6 m6 cq6]) 24 :: (Y6 ++ (Y3 ++ [])))) ∧ SlO 40 Y q m capq ([⟨1, 1, 2, false, false⟩, ⟨2, 2, 1, false, false⟩] : List Port)) (by kernel_rfl) (by kernel_rfl) (by kernel_rfl) (fun args w => Try.call29 args w) (fun w hw => by have := link_d q6 m6 cq6 ([⟨1, 1, 0, false, false⟩, ⟨2, 2, 0, false, false⟩] : List Port) 1 2 w (hO6.atN (A := [_]) hw) hO6.len (by omega); rw [wk3] at this; exact this.mono fun e w' ⟨q, m, capq, Y, he, hO, hb, hY⟩ => ⟨_, _, he, ⟨q, m, capq, Y, rfl, rfl, hO⟩, hw.join hb hY 1⟩) ?_
  rintro v9 L9 ⟨q9, m9, cq9, Y9, rfl, rfl, hO9⟩
  have hm9 := hO9.len
  simp only [List.length_cons, List.length_nil] at hm9
  refine om 5 [(7, .go (owns 0 0 1))] [1, 2, 3, 4, 5] (fun _ => [(6, .int .i64 0)]) (fun _ L => (L.set 0 (bx (γ4 0) (#[.slice q9 m9 cq9]) 24))) (fun _ => []) (fun _ => by kernel_rfl) (fun _ => al0) (fun _ => ?_)
  refine ops_nil ?_
  refine done_seq ?_
  refine at_seq ?_
  refine at_ops ?_
  refine oq 2 [(0, .go (owns 0 0 1))] [1, 2, 3, 4, 5, 6] [(29, .agg #[.slice q9 m9 cq9]), (30, .int .i64 1)] ([]) (fun _ => by kernel_rfl) al0 ?_
  refine ops_call (fun v L' => ∃ q m capq Y, v = .tuple #[.agg #[.slice q m capq], .int .i64 2, .int .i64 0] ∧ L' = List.take 1 (bx (γ4 0) (#[.slice q9 m9 cq9]) 24 :: (Y9 ++ (Y6 ++ (Y3 ++ [])))) ++ (Y ++ List.drop 1 (bx (γ4 0) (#[.slice q9 m9 cq9]) 24 :: (Y9 ++ (Y6 ++ (Y3 ++ []))))) ∧ SlO 40 Y q m capq ([⟨1, 1, 2, false, false⟩, ⟨2, 2, 1, true, false⟩] : List Port)) (by kernel_rfl) (by kernel_rfl) (by kernel_rfl) (fun args w => Try.call30 args w) (fun w hw => by have := send_d q9 m9 cq9 ([⟨1, 1, 2, false, false⟩, ⟨2, 2, 1, false, false⟩] : List Port) 1 w (hO9.atN (A := [_]) hw) hO9.len (by omega); rw [wk4] at this; exact this.mono fun e w' ⟨q, m, capq, Y, he, hO, hb, hY⟩ => ⟨_, _, he, ⟨q, m, capq, Y, rfl, rfl, hO⟩, hw.join hb hY 1⟩) ?_
  rintro v12 L12 ⟨q12, m12, cq12, Y12, rfl, rfl, hO12⟩
  have hm12 := hO12.len
  simp only [List.length_cons, List.length_nil] at hm12
  refine om 7 [(7, .go (owns 0 0 1))] [1, 2, 3, 4, 5, 6] (fun _ => [(7, .int .i64 2), (8, .int .i64 0)]) (fun _ L => (L.set 0 (bx (γ4 0) (#[.slice q12 m12 cq12]) 24))) (fun _ => []) (fun _ => by kernel_rfl) (fun _ => al0) (fun _ => ?_)
  refine ops_nil ?_
  refine done_seq ?_
  refine at_seq ?_
  refine at_ops ?_
  refine oq 28 [(27, .go (owns 0 0 1))] [] [(61, .bool true), (62, .agg #[.slice q12 m12 cq12])] ([]) (fun _ => by kernel_rfl) al0 ?_
  refine ops_call (fun v L' => ∃ q m capq Y, v = .slice q m capq ∧ L' = List.take 1 (bx (γ4 0) (#[.slice q12 m12 cq12]) 24 :: (Y12 ++ (Y9 ++ (Y6 ++ (Y3 ++ []))))) ++ (Y ++ List.drop 1 (bx (γ4 0) (#[.slice q12 m12 cq12]) 24 :: (Y12 ++ (Y9 ++ (Y6 ++ (Y3 ++ [])))))) ∧ SlO 3 Y q m capq ([2] : List Int)) (by kernel_rfl) (by kernel_rfl) (by kernel_rfl) (fun args w => Try.call22 args w) (fun w hw => by have := edue_d q12 m12 cq12 ([⟨1, 1, 2, false, false⟩, ⟨2, 2, 1, true, false⟩] : List Port) 2 w (hO12.atN (A := [_]) hw) hO12.len (by omega); rw [wk5] at this; exact this.mono fun e w' ⟨q, m, capq, Y, he, hO, hb, hY⟩ => ⟨_, _, he, ⟨q, m, capq, Y, rfl, rfl, hO⟩, hw.join hb hY 1⟩) ?_
  rintro v15 L15 ⟨q15, m15, cq15, Y15, rfl, rfl, hO15⟩
  have hm15 := hO15.len
  refine oq 4 [(30, .yes)] [] [(0, .bool true)] ([((m15 : Nat) : Int) = (1 : Int)]) (fun _ => by kernel_rfl) (al1 ((by rw [hm15]; rfl))) ?_
  refine ops_nil ?_
  refine done_seq ?_
  refine at_return ([]) (.bool true) [] (by kernel_rfl) (by kernel_rfl) al0 ?_
  exact fun w' hw => ⟨rfl, hw.below⟩
end Go.Proofs.Ytfhlmijdokfdpaa

/-! What the laws of chapter 16 are handed; Bools compared. -/
namespace Go.Proofs.Ytfhlmijdokfdpaa
open Go Go.RowKit

/-- A poll that is asked. -/
structure Asked where
  vcpu : Int
  np : Option Addr
  nn : Nat
  ncap : Nat
  ns : List Int
def Asked.enc (x : Asked) : List Value := [.int .i64 x.vcpu, .slice x.np x.nn x.ncap]
instance : Enc Asked := ⟨Asked.enc, 2, fun _ => rfl, fun x v h => by simp [Asked.enc] at h; rcases h with rfl | rfl <;> rfl, by decide⟩
theorem pollV_bad {l : List Port} {own : Int} {ns : List Int} (h : rightB l = false) : pollV l own ns = (false, 260) := by simp [pollV, h]
theorem bool_eqRun (op : BinOp) (hop : op = .eql ∨ op = .neq) (x y : Operand) (a b r : Bool) (hr : r = (if op = .eql then a == b else !(a == b))) : EqRun Try.prog op 4 x y (.bool a) (.bool b) r := by
  intro w
  subst hr
  have hg : Try.prog.eqGuardType Try.prog.depth 4 = false := by kernel_rfl
  have key : (Op.equal 4 (.bool a) (.bool b)).run Try.prog w = .ok (a == b) w := by
    unfold Op.equal
    rw [show Op.maxDepth = 9999 + 1 from rfl]
    exact run_equalIn_bool' w 9999 4 a b Try.underlying4
  have guard : (eqGuard op 4 x y (.bool a) (.bool b)).run Try.prog w = .ok () w := by
    unfold eqGuard
    rcases hop with rfl | rfl <;> simp [hg]
  rw [Sem.run_bind, guard]
  simp only [Result.andThen_ok]
  rcases hop with rfl | rfl <;> simp [binOp, Sem.run_bind, key]
theorem bool_same {x y : Operand} (a : Bool) : EqRun Try.prog .neq 4 x y (.bool a) (.bool a) false := bool_eqRun _ (.inr rfl) x y a a _ (by simp)
theorem bool_same' {x y : Operand} (a : Bool) : EqRun Try.prog .eql 4 x y (.bool a) (.bool a) true := bool_eqRun _ (.inl rfl) x y a a _ (by simp)
theorem bool_ne {x y : Operand} (a b : Bool) : EqRun Try.prog .neq 4 x y (.bool a) (.bool b) (!(a == b)) := bool_eqRun _ (.inr rfl) x y a b _ (by simp)
theorem bool_eq {x y : Operand} (a b : Bool) : EqRun Try.prog .eql 4 x y (.bool a) (.bool b) (a == b) := bool_eqRun _ (.inl rfl) x y a b _ (by simp)
/-- Ports, as an element of a row of them. -/
structure PortsA where
  p : Option Addr
  n : Nat
  cap : Nat
  l : List Port
def PortsA.enc (x : PortsA) : List Value := [.slice x.p x.n x.cap]
instance : Enc PortsA := ⟨PortsA.enc, 1, fun _ => rfl, fun x v h => by simp [PortsA.enc] at h; subst h; rfl, by decide⟩
theorem eGet_bad {l : List Port} {k : Int} (h : rightB l = false) : eGet l k = none := by simp [eGet, h]
theorem eGet_right {l : List Port} {k : Int} (h : rightB l = true) : eGet l k = getB l k := by simp [eGet, h]
end Go.Proofs.Ytfhlmijdokfdpaa

/-! Chapter 16: what an op of the laws does, in plain Lean. -/
namespace Go.Proofs.Ytfhlmijdokfdpaa
open Go Go.RowKit

/-- What is done. -/
structure OpA where
  kind : Int
  a : Int
  b : Int
  vcpu : Int
  on : Bool
def OpA.enc (x : OpA) : List Value := [.int .i64 x.kind, .int .i64 x.a, .int .i64 x.b, .int .i64 x.vcpu, .bool x.on]
instance : Enc OpA := ⟨OpA.enc, 5, fun _ => rfl, fun x v h => by simp [OpA.enc] at h; rcases h with rfl | rfl | rfl | rfl | rfl <;> rfl, by decide⟩
/-- The rest by twelve. -/
def kdI (k : Int) : Int := Int.tmod (IntKind.u64.wrap k) 12
def raiF (x : Port) : Port := ⟨x.num, x.vcpu, x.peer, true, x.masked⟩
def masF (b : Bool) (x : Port) : Port := ⟨x.num, x.vcpu, x.peer, x.pending, b⟩
/-- What the layer makes of it. -/
def runV (l : List Port) (o : OpA) : List Port × Int × Bool × Int :=
  if kdI o.kind = 0 then ((openV l o.vcpu).1, (openV l o.vcpu).2.1, false, (openV l o.vcpu).2.2)
  else if kdI o.kind = 1 then ((openV l o.vcpu).1, (openV l o.vcpu).2.1, false, (openV l o.vcpu).2.2)
  else if kdI o.kind = 2 then ((linkV l o.a o.b).1, 0, false, (linkV l o.a o.b).2)
  else if kdI o.kind = 3 then ((closeV l o.a).1, 0, false, (closeV l o.a).2)
  else if kdI o.kind = 4 then ((dropV l o.vcpu).1, (dropV l o.vcpu).2.1, false, (dropV l o.vcpu).2.2)
  else if kdI o.kind = 5 then ((sendV l o.a).1, (sendV l o.a).2.1, false, (sendV l o.a).2.2)
  else if kdI o.kind = 6 then ((sendV l o.a).1, (sendV l o.a).2.1, false, (sendV l o.a).2.2)
  else if kdI o.kind = 7 then ((sendV l o.a).1, (sendV l o.a).2.1, false, (sendV l o.a).2.2)
  else if kdI o.kind = 8 then ((turnV l o.a raiF).1, (turnV l o.a raiF).2.1, false, (turnV l o.a raiF).2.2)
  else if kdI o.kind = 9 then ((turnV l o.a (masF o.on)).1, (turnV l o.a (masF o.on)).2.1, false, (turnV l o.a (masF o.on)).2.2)
  else if kdI o.kind = 10 then ((bindV l o.a o.vcpu).1, (bindV l o.a o.vcpu).2.1, false, (bindV l o.a o.vcpu).2.2)
  else ((clearV l o.a).1, 0, (clearV l o.a).2.1, (clearV l o.a).2.2)
end Go.Proofs.Ytfhlmijdokfdpaa

/-! event.Clear. -/
namespace Go.Proofs.Ytfhlmijdokfdpaa
open Go Go.RowKit

set_option maxRecDepth 100000 in
theorem clear_d (p : Option Addr) (n cap : Nat) (l : List Port) (k : Int) (w : World)
 (hsl : Sv w p l) (hn : n = l.length) (hb : n ≤ 1000)
 : Calls Try.prog 23 #[.agg #[.slice p n cap], .int .i64 k] w fun e w' => ∃ q m capq Y, e = .returned (.tuple #[.agg #[.slice q m capq], .bool (clearV l k).2.1, .int .i64 (clearV l k).2.2]) ∧ SlO 40 Y q m capq (clearV l k).1 ∧ Below w.heap.size w w' ∧ Hs w Y w' := by
 refine enter (Hs.start w) Try.func23 rfl Try.ntmps23 rfl ?_
 refine at_seq ?_
 refine am [] [1] (fun γ1 => [(2, .pointer (some ⟨γ1 0, 0, none⟩)), (4, .pointer (some ⟨γ1 1, 0, none⟩))]) (fun γ1 L => bx (γ1 1) (#[.slice none 0 0]) 24 :: bx (γ1 0) (#[.slice p n cap]) 24 :: L) (fun γ1 => []) (fun _ => by kernel_rfl) (fun γ1 => al0) (fun γ1 => ?_)
 refine done_seq ?_
 refine at_seq ?_
 refine am [(1, .go (owns 0 0 1))] [1, 2, 4] (fun γ2 => [(7, .pointer (some ⟨γ2 0, 0, none⟩))]) (fun γ2 L => bx (γ2 0) (#[.bool false]) 4 :: L) (fun γ2 => []) (fun _ => by kernel_rfl) (fun γ2 => al0) (fun γ2 => ?_)
 refine done_seq ?_
 refine at_seq ?_
 refine at_ops ?_
 refine oq 3 [(0, .go (owns 2 0 1))] [4, 7] [(12, .agg #[.slice p n cap]), (13, .int .i64 k), (14, .func (.func 41) #[] #[.pointer (some ⟨γ2 0, 0, none⟩)])] ([]) (fun _ => by kernel_rfl) al0 ?_
 refine ops_inline (g := 40) (args := #[.agg #[.slice p n cap], .int .i64 k, .func (.func 41) #[] #[.pointer (some ⟨γ2 0, 0, none⟩)]]) (by kernel_rfl) (by kernel_rfl) (by kernel_rfl) (fun args w => Try.call40 args w) Try.func40 rfl Try.ntmps40 rfl ?_
 refine at_seq ?_
 refine am [] [] (fun γ4 => [(3, .pointer (some ⟨γ4 0, 0, none⟩)), (4, .pointer (some ⟨γ4 1, 0, none⟩)), (5, .pointer (some ⟨γ4 2, 0, none⟩)), (6, .pointer (some ⟨γ4 3, 0, none⟩))]) (fun γ4 L => bx (γ4 3) (#[.slice none 0 0]) 24 :: bx (γ4 2) (#[.func (.func 41) #[] #[.pointer (some ⟨γ2 0, 0, none⟩)]]) 75 :: bx (γ4 1) (#[.int .i64 k]) 3 :: bx (γ4 0) (#[.slice p n cap]) 24 :: L) (fun γ4 => []) (fun _ => by kernel_rfl) (fun γ4 => al0) (fun γ4 => ?_)
 refine done_seq ?_
 refine at_seq ?_
 refine am [(1, .go (owns 0 0 1))] [3, 4, 5, 6] (fun γ5 => [(9, .pointer (some ⟨γ5 0, 0, none⟩))]) (fun γ5 L => bx (γ5 0) (#[.int .i64 0]) 3 :: L) (fun γ5 => []) (fun _ => by kernel_rfl) (fun γ5 => al0) (fun γ5 => ?_)
 refine done_seq ?_
 refine at_seq ?_
 refine at_ops ?_
 refine oq 2 [(0, .go (owns 4 0 1))] [6, 9] [(13, .agg #[.slice p n cap]), (14, .func (.func 61) #[] #[.pointer (some ⟨γ4 1, 0, none⟩), .pointer (some ⟨γ4 2, 0, none⟩), .pointer (some ⟨γ4 0, 0, none⟩), .pointer (some ⟨γ5 0, 0, none⟩)])] ([]) (fun _ => by kernel_rfl) al0 ?_
 refine ops_inline (g := 54) (args := #[.agg #[.slice p n cap], .func (.func 61) #[] #[.pointer (some ⟨γ4 1, 0, none⟩), .pointer (some ⟨γ4 2, 0, none⟩), .pointer (some ⟨γ4 0, 0, none⟩), .pointer (some ⟨γ5 0, 0, none⟩)]]) (by kernel_rfl) (by kernel_rfl) (by kernel_rfl) (fun args w => Try.call54 args w) Try.func54 rfl Try.ntmps54 rfl ?_
 refine at_seq ?_
 refine am [] [1] (fun γ7 => [(2, .pointer (some ⟨γ7 0, 0, none⟩)), (4, .pointer (some ⟨γ7 1, 0, none⟩))]) (fun γ7 L => bx (γ7 1) (#[.slice none 0 0]) 24 :: bx (γ7 0) (#[.slice p n cap]) 24 :: L) (fun γ7 => []) (fun _ => by kernel_rfl) (fun γ7 => al0) (fun γ7 => ?_)
 refine done_seq ?_
 refine at_seq ?_
 refine at_seq ?_
 refine at_ops ?_
 refine oq 1 [(0, .go (owns 1 0 1))] [1, 2, 4] [(9, .agg #[.slice p n cap])] ([]) (fun _ => by kernel_rfl) al0 ?_
 rcases q9 : rightB l with _ | _
 ·
  refine ops_callD (.int .i64 260) (by kernel_rfl) (by kernel_rfl) (by kernel_rfl) (fun args w => Try.call16 args w) (fun w hw => by have := check_d p n cap l w (hsl.kept hw.below) hn hb; rw [q9] at this; exact this) ?_
  refine oq 1 [] [1, 2, 4] [(6, .int .i64 260)] ([]) (fun _ => by kernel_rfl) al0 ?_
  refine ops_nil ?_
  refine done_seq ?_
  refine at_seq ?_
  refine aq [] [1, 2, 4, 6] [(12, .bool true)] ([]) (fun _ => by kernel_rfl) al0 ?_
  refine done_seq ?_
  refine at_true (by kernel_rfl) ?_
  refine at_seq ?_
  refine aq [(2, .go (owns 0 0 1))] [4] [(5, .int .i64 260)] ([]) (fun _ => by kernel_rfl) al0 ?_
  refine done_seq ?_
  refine at_back (owns 0 0 1) (.tuple #[.agg #[.slice none 0 0], .int .i64 260]) [] (by kernel_rfl) (by kernel_rfl) al0 ?_
  refine om 6 [(7, .go (owns 0 0 1))] [6, 9] (fun γ13 => [(10, .pointer (some ⟨γ13 0, 0, none⟩)), (11, .int .i64 260)]) (fun γ13 L => bx (γ13 0) (#[.slice none 0 0]) 24 :: L) (fun γ13 => []) (fun _ => by kernel_rfl) (fun γ13 => al0) (fun γ13 => ?_)
  refine ops_nil ?_
  refine done_seq ?_
  refine at_seq ?_
  refine at_any (by kernel_rfl) ?_
  refine any_tk (f := 5) [2] [] [6, 9, 10] [(20, .int .i64 260)] ([]) #[false, false, true, false, false, false] (by kernel_rfl) (by kernel_rfl) al0 ?_
  refine any_cut 0 #[true, true, true, true, true, true] ([(6, .pointer (some ⟨γ4 3, 0, none⟩)), (7, .int .i64 0), (8, .int .i64 260)]) ([bx (γ13 0) (#[.slice none 0 0]) 24, bx (γ7 1) (#[.slice none 0 0]) 24, bx (γ7 0) (#[.slice p n cap]) 24, bx (γ5 0) (#[.int .i64 0]) 3, bx (γ4 3) (#[.slice none 0 0]) 24, bx (γ4 2) (#[.func (.func 41) #[] #[.pointer (some ⟨γ2 0, 0, none⟩)]]) 75, bx (γ4 1) (#[.int .i64 k]) 3, bx (γ4 0) (#[.slice p n cap]) 24, bx (γ2 0) (#[.bool false]) 4, bx (γ1 1) (#[.slice none 0 0]) 24, bx (γ1 0) (#[.slice p n cap]) 24]) ?_ (fun hm => ?_)
  rotate_left
  ·
   refine any_fork [0, 1] (by kernel_rfl) (by simp) (each_cons _ rfl ?_ (each_cons _ rfl ?_ (each_nil)))
   ·
    refine oq 1 [(0, .go (owns 0 0 1))] [6, 9, 20] [(18, .agg #[.slice none 0 0])] ([]) (fun _ => by kernel_rfl) al0 ?_
    refine ops_nil ?_
    refine done_any ?_
    refine any_fork [1, 3] (by kernel_rfl) (by simp) (each_cons _ rfl ?_ (each_cons _ rfl ?_ (each_nil)))
    ·
     refine oq 1 [(1, .go (owns 3 0 1))] [6, 18, 20] [(19, .int .i64 0)] ([]) (fun _ => by kernel_rfl) al0 ?_
     refine ops_nil ?_
     refine done_any ?_
     refine any_one 3 _ (by kernel_rfl) rfl ?_
     refine oq 1 [(3, .go (owns 4 0 1))] [6, 19, 20] [] ([]) (fun _ => by kernel_rfl) al0 ?_
     refine ops_nil ?_
     refine done_any ?_
     refine any_tk (f := 0) [4, 5] [] [6] [(7, .int .i64 0), (8, .int .i64 260)] ([]) #[true, true, true, true, true, true] (by kernel_rfl) (by kernel_rfl) al0 ?_
     exact any_weak hm [6, 7, 8] (by kernel_rfl) rfl rfl rfl
    ·
     refine oq 1 [(3, .go (owns 4 0 1))] [6, 9, 20] [] ([]) (fun _ => by kernel_rfl) al0 ?_
     refine ops_nil ?_
     refine done_any ?_
     refine any_one 1 _ (by kernel_rfl) rfl ?_
     refine oq 1 [(1, .go (owns 3 0 1))] [6, 20] [(19, .int .i64 0)] ([]) (fun _ => by kernel_rfl) al0 ?_
     refine ops_nil ?_
     refine done_any ?_
     refine any_tk (f := 0) [4, 5] [] [6] [(7, .int .i64 0), (8, .int .i64 260)] ([]) #[true, true, true, true, true, true] (by kernel_rfl) (by kernel_rfl) al0 ?_
     exact any_weak hm [6, 7, 8] (by kernel_rfl) rfl rfl rfl
   ·
    refine oq 1 [(1, .go (owns 3 0 1))] [6, 10, 20] [(19, .int .i64 0)] ([]) (fun _ => by kernel_rfl) al0 ?_
    refine ops_nil ?_
    refine done_any ?_
    refine any_one 0 _ (by kernel_rfl) rfl ?_
    refine oq 1 [(0, .go (owns 0 0 1))] [6, 19, 20] [(18, .agg #[.slice none 0 0])] ([]) (fun _ => by kernel_rfl) al0 ?_
    refine ops_nil ?_
    refine done_any ?_
    refine any_one 3 _ (by kernel_rfl) rfl ?_
    refine oq 1 [(3, .go (owns 4 0 1))] [6, 19, 20] [] ([]) (fun _ => by kernel_rfl) al0 ?_
    refine ops_nil ?_
    refine done_any ?_
    refine any_tk (f := 0) [4, 5] [] [6] [(7, .int .i64 0), (8, .int .i64 260)] ([]) #[true, true, true, true, true, true] (by kernel_rfl) (by kernel_rfl) al0 ?_
    exact any_weak hm [6, 7, 8] (by kernel_rfl) rfl rfl rfl
  refine any_nil (by kernel_rfl) ?_
  refine done_seq ?_
  refine at_back (owns 4 0 1) (.tuple #[.agg #[.slice none 0 0], .int .i64 0, .int .i64 260]) [] (by kernel_rfl) (by kernel_rfl) al0 ?_
  refine om 8 [(9, .go (owns 0 0 1))] [4, 7] (fun γ31 => [(8, .pointer (some ⟨γ31 0, 0, none⟩)), (10, .int .i64 260)]) (fun γ31 L => bx (γ31 0) (#[.slice none 0 0]) 24 :: L) (fun γ31 => []) (fun _ => by kernel_rfl) (fun γ31 => al0) (fun γ31 => ?_)
  refine ops_nil ?_
  refine done_seq ?_
  refine at_seq ?_
  refine at_any (by kernel_rfl) ?_
  refine any_tk (f := 5) [2] [] [4, 7, 8] [(21, .int .i64 260)] ([]) #[false, false, true, false, false, false] (by kernel_rfl) (by kernel_rfl) al0 ?_
  refine any_cut 0 #[true, true, true, true, true, true] ([(4, .pointer (some ⟨γ1 1, 0, none⟩)), (5, .bool false), (6, .int .i64 260)]) ([bx (γ31 0) (#[.slice none 0 0]) 24, bx (γ13 0) (#[.slice none 0 0]) 24, bx (γ7 1) (#[.slice none 0 0]) 24, bx (γ7 0) (#[.slice p n cap]) 24, bx (γ5 0) (#[.int .i64 0]) 3, bx (γ4 3) (#[.slice none 0 0]) 24, bx (γ4 2) (#[.func (.func 41) #[] #[.pointer (some ⟨γ2 0, 0, none⟩)]]) 75, bx (γ4 1) (#[.int .i64 k]) 3, bx (γ4 0) (#[.slice p n cap]) 24, bx (γ2 0) (#[.bool false]) 4, bx (γ1 1) (#[.slice none 0 0]) 24, bx (γ1 0) (#[.slice p n cap]) 24]) ?_ (fun hm => ?_)
  rotate_left
  ·
   refine any_fork [0, 1] (by kernel_rfl) (by simp) (each_cons _ rfl ?_ (each_cons _ rfl ?_ (each_nil)))
   ·
    refine oq 1 [(0, .go (owns 0 0 1))] [4, 7, 21] [(19, .agg #[.slice none 0 0])] ([]) (fun _ => by kernel_rfl) al0 ?_
    refine ops_nil ?_
    refine done_any ?_
    refine any_fork [1, 3] (by kernel_rfl) (by simp) (each_cons _ rfl ?_ (each_cons _ rfl ?_ (each_nil)))
    ·
     refine oq 1 [(1, .go (owns 9 0 1))] [4, 19, 21] [(20, .bool false)] ([]) (fun _ => by kernel_rfl) al0 ?_
     refine ops_nil ?_
     refine done_any ?_
     refine any_one 3 _ (by kernel_rfl) rfl ?_
     refine oq 1 [(3, .go (owns 10 0 1))] [4, 20, 21] [] ([]) (fun _ => by kernel_rfl) al0 ?_
     refine ops_nil ?_
     refine done_any ?_
     refine any_tk (f := 0) [4, 5] [] [4] [(5, .bool false), (6, .int .i64 260)] ([]) #[true, true, true, true, true, true] (by kernel_rfl) (by kernel_rfl) al0 ?_
     exact any_weak hm [4, 5, 6] (by kernel_rfl) rfl rfl rfl
    ·
     refine oq 1 [(3, .go (owns 10 0 1))] [4, 7, 21] [] ([]) (fun _ => by kernel_rfl) al0 ?_
     refine ops_nil ?_
     refine done_any ?_
     refine any_one 1 _ (by kernel_rfl) rfl ?_
     refine oq 1 [(1, .go (owns 9 0 1))] [4, 21] [(20, .bool false)] ([]) (fun _ => by kernel_rfl) al0 ?_
     refine ops_nil ?_
     refine done_any ?_
     refine any_tk (f := 0) [4, 5] [] [4] [(5, .bool false), (6, .int .i64 260)] ([]) #[true, true, true, true, true, true] (by kernel_rfl) (by kernel_rfl) al0 ?_
     exact any_weak hm [4, 5, 6] (by kernel_rfl) rfl rfl rfl
   ·
    refine oq 1 [(1, .go (owns 9 0 1))] [4, 8, 21] [(20, .bool false)] ([]) (fun _ => by kernel_rfl) al0 ?_
    refine ops_nil ?_
    refine done_any ?_
    refine any_one 0 _ (by kernel_rfl) rfl ?_
    refine oq 1 [(0, .go (owns 0 0 1))] [4, 20, 21] [(19, .agg #[.slice none 0 0])] ([]) (fun _ => by kernel_rfl) al0 ?_
    refine ops_nil ?_
    refine done_any ?_
    refine any_one 3 _ (by kernel_rfl) rfl ?_
    refine oq 1 [(3, .go (owns 10 0 1))] [4, 20, 21] [] ([]) (fun _ => by kernel_rfl) al0 ?_
    refine ops_nil ?_
    refine done_any ?_
    refine any_tk (f := 0) [4, 5] [] [4] [(5, .bool false), (6, .int .i64 260)] ([]) #[true, true, true, true, true, true] (by kernel_rfl) (by kernel_rfl) al0 ?_
    exact any_weak hm [4, 5, 6] (by kernel_rfl) rfl rfl rfl
  refine any_nil (by kernel_rfl) ?_
  refine done_seq ?_
  refine at_return (owns 10 0 1) (.tuple #[.agg #[.slice none 0 0], .bool false, .int .i64 260]) [] (by kernel_rfl) (by kernel_rfl) al0 ?_
  exact fun w' hw => by rw [clearV_bad q9]; exact ⟨none, 0, 0, [], rfl, SlO.nil, hw.below, hw.sub (List.nil_sublist _)⟩
 ·
  refine ops_callD (.int .i64 0) (by kernel_rfl) (by kernel_rfl) (by kernel_rfl) (fun args w => Try.call16 args w) (fun w hw => by have := check_d p n cap l w (hsl.kept hw.below) hn hb; rw [q9] at this; exact this) ?_
  refine oq 1 [] [1, 2, 4] [(6, .int .i64 0)] ([]) (fun _ => by kernel_rfl) al0 ?_
  refine ops_nil ?_
  refine done_seq ?_
  refine at_seq ?_
  refine aq [] [1, 2, 4, 6] [(12, .bool false)] ([]) (fun _ => by kernel_rfl) al0 ?_
  refine done_seq ?_
  refine at_false (by kernel_rfl) ?_
  refine at_skip ?_
  refine done_seq ?_
  refine at_seq ?_
  refine at_ops ?_
  refine oq 2 [(1, .go (owns 1 0 1))] [1, 4] [(16, .slice p n cap)] ([]) (fun _ => by kernel_rfl) al0 ?_
  refine ops_call (fun v L' => ∃ q capq Y, v = .slice q n capq ∧ L' = List.take 10 ([bx (γ7 1) (#[.slice none 0 0]) 24, bx (γ7 0) (#[.slice p n cap]) 24, bx (γ5 0) (#[.int .i64 0]) 3, bx (γ4 3) (#[.slice none 0 0]) 24, bx (γ4 2) (#[.func (.func 41) #[] #[.pointer (some ⟨γ2 0, 0, none⟩)]]) 75, bx (γ4 1) (#[.int .i64 k]) 3, bx (γ4 0) (#[.slice p n cap]) 24, bx (γ2 0) (#[.bool false]) 4, bx (γ1 1) (#[.slice none 0 0]) 24, bx (γ1 0) (#[.slice p n cap]) 24]) ++ (Y ++ List.drop 10 ([bx (γ7 1) (#[.slice none 0 0]) 24, bx (γ7 0) (#[.slice p n cap]) 24, bx (γ5 0) (#[.int .i64 0]) 3, bx (γ4 3) (#[.slice none 0 0]) 24, bx (γ4 2) (#[.func (.func 41) #[] #[.pointer (some ⟨γ2 0, 0, none⟩)]]) 75, bx (γ4 1) (#[.int .i64 k]) 3, bx (γ4 0) (#[.slice p n cap]) 24, bx (γ2 0) (#[.bool false]) 4, bx (γ1 1) (#[.slice none 0 0]) 24, bx (γ1 0) (#[.slice p n cap]) 24])) ∧ SlO 40 Y q n capq l) (by kernel_rfl) (by kernel_rfl) (by kernel_rfl) (fun args w => Try.call72 args w) (fun w hw => (clone_d p n cap l w (hsl.kept hw.below) hn (by omega)).mono fun e w' ⟨q, capq, Y, he, hO, hb, hY⟩ => ⟨_, _, he, ⟨q, capq, Y, rfl, rfl, hO⟩, hw.join hb hY 10⟩) ?_
  rintro v52 L52 ⟨q52, cq52, Y52, rfl, rfl, hO52⟩
  have hnq52 := hO52.len
  rcases hO52.parts with ⟨rfl, rfl, hz52⟩ | ⟨g52, cs52, rfl, rfl, hOw52⟩
  ·
   refine om 3 [(5, .go (owns 0 0 1))] [1, 4] (fun γ53 => [(7, .pointer (some ⟨γ53 0, 0, none⟩))]) (fun γ53 L => bx (γ53 0) (#[.slice none n cq52]) 24 :: L) (fun γ53 => []) (fun _ => by kernel_rfl) (fun γ53 => al0) (fun γ53 => ?_)
   refine ops_nil ?_
   refine done_seq ?_
   refine at_seq ?_
   refine at_seq ?_
   refine at_ops ?_
   refine oq 1 [] [4, 7] [(19, .func (.func 61) #[] #[.pointer (some ⟨γ4 1, 0, none⟩), .pointer (some ⟨γ4 2, 0, none⟩), .pointer (some ⟨γ4 0, 0, none⟩), .pointer (some ⟨γ5 0, 0, none⟩)])] ([]) (fun _ => by kernel_rfl) al0 ?_
   refine ops_inline (g := 61) (args := #[.pointer (some ⟨γ53 0, 0, none⟩), .pointer (some ⟨γ4 1, 0, none⟩), .pointer (some ⟨γ4 2, 0, none⟩), .pointer (some ⟨γ4 0, 0, none⟩), .pointer (some ⟨γ5 0, 0, none⟩)]) (by kernel_rfl) (by kernel_rfl) (by kernel_rfl) (fun args w => Try.call61 args w) Try.func61 rfl Try.ntmps61 rfl ?_
   refine at_seq ?_
   refine aq [] [0, 1, 2, 3, 4] [] ([]) (fun _ => by kernel_rfl) al0 ?_
   refine done_seq ?_
   refine at_seq ?_
   refine at_calm rfl (by kernel_rfl) (by kernel_rfl) ?_
   refine cm 5 [(3, .go (owns 0 0 1)), (4, .go (owns 6 0 1))] [0, 2, 3, 4] [(14, .slice none n cq52), (15, .int .i64 k)] ([]) (by kernel_rfl) rfl al0 ?_
   rcases hg57 : getB l k with _ | y57
   ·
    refine calm_callD (.pointer none) (by kernel_rfl) (by kernel_rfl) (by kernel_rfl) (fun args w => Try.call32 args w) (fun w hw => by have := port_d none n cq52 l k w (hO52.atN (A := []) hw) hnq52 (by omega) (ris_all (right_ris q9)) (ris_asc l 0 (right_ris q9)); rw [portV_none hg57] at this; exact this) ?_
    refine cm 1 [] [0, 2, 3, 4] [(7, .pointer none)] ([]) (by kernel_rfl) rfl al0 ?_
    refine calm_nil' ?_
    refine done_seq ?_
    refine at_seq ?_
    refine at_seq ?_
    refine aq [] [0, 2, 3, 4, 7] [(18, .bool true)] ([]) (fun _ => by kernel_rfl) al0 ?_
    refine done_seq ?_
    refine at_true (by kernel_rfl) ?_
    refine at_seq ?_
    refine aq [] [] [(6, .int .i64 4)] ([]) (fun _ => by kernel_rfl) al0 ?_
    refine done_seq ?_
    refine at_back ([]) (.int .i64 4) [] (by kernel_rfl) (by kernel_rfl) al0 ?_
    refine oq 1 [] [4, 7] [(8, .int .i64 4)] ([]) (fun _ => by kernel_rfl) al0 ?_
    refine ops_nil ?_
    refine done_seq ?_
    refine at_seq ?_
    refine aq [] [4, 7, 8] [(22, .bool true)] ([]) (fun _ => by kernel_rfl) al0 ?_
    refine done_seq ?_
    refine at_true (by kernel_rfl) ?_
    refine at_seq ?_
    refine aq [(2, .go (owns 1 0 1))] [4] [(5, .int .i64 4)] ([]) (fun _ => by kernel_rfl) al0 ?_
    refine done_seq ?_
    refine at_back (owns 1 0 1) (.tuple #[.agg #[.slice none 0 0], .int .i64 4]) [] (by kernel_rfl) (by kernel_rfl) al0 ?_
    refine om 6 [(7, .go (owns 0 0 1))] [6, 9] (fun γ64 => [(10, .pointer (some ⟨γ64 0, 0, none⟩)), (11, .int .i64 4)]) (fun γ64 L => bx (γ64 0) (#[.slice none 0 0]) 24 :: L) (fun γ64 => []) (fun _ => by kernel_rfl) (fun γ64 => al0) (fun γ64 => ?_)
    refine ops_nil ?_
    refine done_seq ?_
    refine at_seq ?_
    refine at_any (by kernel_rfl) ?_
    refine any_tk (f := 5) [2] [] [6, 9, 10] [(20, .int .i64 4)] ([]) #[false, false, true, false, false, false] (by kernel_rfl) (by kernel_rfl) al0 ?_
    refine any_cut 0 #[true, true, true, true, true, true] ([(6, .pointer (some ⟨γ4 3, 0, none⟩)), (7, .int .i64 0), (8, .int .i64 4)]) ([bx (γ64 0) (#[.slice none 0 0]) 24, bx (γ53 0) (#[.slice none n cq52]) 24, bx (γ7 1) (#[.slice none 0 0]) 24, bx (γ7 0) (#[.slice p n cap]) 24, bx (γ5 0) (#[.int .i64 0]) 3, bx (γ4 3) (#[.slice none 0 0]) 24, bx (γ4 2) (#[.func (.func 41) #[] #[.pointer (some ⟨γ2 0, 0, none⟩)]]) 75, bx (γ4 1) (#[.int .i64 k]) 3, bx (γ4 0) (#[.slice p n cap]) 24, bx (γ2 0) (#[.bool false]) 4, bx (γ1 1) (#[.slice none 0 0]) 24, bx (γ1 0) (#[.slice p n cap]) 24]) ?_ (fun hm => ?_)
    rotate_left
    ·
     refine any_fork [0, 1] (by kernel_rfl) (by simp) (each_cons _ rfl ?_ (each_cons _ rfl ?_ (each_nil)))
     ·
      refine oq 1 [(0, .go (owns 0 0 1))] [6, 9, 20] [(18, .agg #[.slice none 0 0])] ([]) (fun _ => by kernel_rfl) al0 ?_
      refine ops_nil ?_
      refine done_any ?_
      refine any_fork [1, 3] (by kernel_rfl) (by simp) (each_cons _ rfl ?_ (each_cons _ rfl ?_ (each_nil)))
      ·
       refine oq 1 [(1, .go (owns 4 0 1))] [6, 18, 20] [(19, .int .i64 0)] ([]) (fun _ => by kernel_rfl) al0 ?_
       refine ops_nil ?_
       refine done_any ?_
       refine any_one 3 _ (by kernel_rfl) rfl ?_
       refine oq 1 [(3, .go (owns 5 0 1))] [6, 19, 20] [] ([]) (fun _ => by kernel_rfl) al0 ?_
       refine ops_nil ?_
       refine done_any ?_
       refine any_tk (f := 0) [4, 5] [] [6] [(7, .int .i64 0), (8, .int .i64 4)] ([]) #[true, true, true, true, true, true] (by kernel_rfl) (by kernel_rfl) al0 ?_
       exact any_weak hm [6, 7, 8] (by kernel_rfl) rfl rfl rfl
      ·
       refine oq 1 [(3, .go (owns 5 0 1))] [6, 9, 20] [] ([]) (fun _ => by kernel_rfl) al0 ?_
       refine ops_nil ?_
       refine done_any ?_
       refine any_one 1 _ (by kernel_rfl) rfl ?_
       refine oq 1 [(1, .go (owns 4 0 1))] [6, 20] [(19, .int .i64 0)] ([]) (fun _ => by kernel_rfl) al0 ?_
       refine ops_nil ?_
       refine done_any ?_
       refine any_tk (f := 0) [4, 5] [] [6] [(7, .int .i64 0), (8, .int .i64 4)] ([]) #[true, true, true, true, true, true] (by kernel_rfl) (by kernel_rfl) al0 ?_
       exact any_weak hm [6, 7, 8] (by kernel_rfl) rfl rfl rfl
     ·
      refine oq 1 [(1, .go (owns 4 0 1))] [6, 10, 20] [(19, .int .i64 0)] ([]) (fun _ => by kernel_rfl) al0 ?_
      refine ops_nil ?_
      refine done_any ?_
      refine any_one 0 _ (by kernel_rfl) rfl ?_
      refine oq 1 [(0, .go (owns 0 0 1))] [6, 19, 20] [(18, .agg #[.slice none 0 0])] ([]) (fun _ => by kernel_rfl) al0 ?_
      refine ops_nil ?_
      refine done_any ?_
      refine any_one 3 _ (by kernel_rfl) rfl ?_
      refine oq 1 [(3, .go (owns 5 0 1))] [6, 19, 20] [] ([]) (fun _ => by kernel_rfl) al0 ?_
      refine ops_nil ?_
      refine done_any ?_
      refine any_tk (f := 0) [4, 5] [] [6] [(7, .int .i64 0), (8, .int .i64 4)] ([]) #[true, true, true, true, true, true] (by kernel_rfl) (by kernel_rfl) al0 ?_
      exact any_weak hm [6, 7, 8] (by kernel_rfl) rfl rfl rfl
    refine any_nil (by kernel_rfl) ?_
    refine done_seq ?_
    refine at_back (owns 5 0 1) (.tuple #[.agg #[.slice none 0 0], .int .i64 0, .int .i64 4]) [] (by kernel_rfl) (by kernel_rfl) al0 ?_
    refine om 8 [(9, .go (owns 0 0 1))] [4, 7] (fun γ82 => [(8, .pointer (some ⟨γ82 0, 0, none⟩)), (10, .int .i64 4)]) (fun γ82 L => bx (γ82 0) (#[.slice none 0 0]) 24 :: L) (fun γ82 => []) (fun _ => by kernel_rfl) (fun γ82 => al0) (fun γ82 => ?_)
    refine ops_nil ?_
    refine done_seq ?_
    refine at_seq ?_
    refine at_any (by kernel_rfl) ?_
    refine any_tk (f := 5) [2] [] [4, 7, 8] [(21, .int .i64 4)] ([]) #[false, false, true, false, false, false] (by kernel_rfl) (by kernel_rfl) al0 ?_
    refine any_cut 0 #[true, true, true, true, true, true] ([(4, .pointer (some ⟨γ1 1, 0, none⟩)), (5, .bool false), (6, .int .i64 4)]) ([bx (γ82 0) (#[.slice none 0 0]) 24, bx (γ64 0) (#[.slice none 0 0]) 24, bx (γ53 0) (#[.slice none n cq52]) 24, bx (γ7 1) (#[.slice none 0 0]) 24, bx (γ7 0) (#[.slice p n cap]) 24, bx (γ5 0) (#[.int .i64 0]) 3, bx (γ4 3) (#[.slice none 0 0]) 24, bx (γ4 2) (#[.func (.func 41) #[] #[.pointer (some ⟨γ2 0, 0, none⟩)]]) 75, bx (γ4 1) (#[.int .i64 k]) 3, bx (γ4 0) (#[.slice p n cap]) 24, bx (γ2 0) (#[.bool false]) 4, bx (γ1 1) (#[.slice none 0 0]) 24, bx (γ1 0) (#[.slice p n cap]) 24]) ?_ (fun hm => ?_)
    rotate_left
    ·
     refine any_fork [0, 1] (by kernel_rfl) (by simp) (each_cons _ rfl ?_ (each_cons _ rfl ?_ (each_nil)))
     ·
      refine oq 1 [(0, .go (owns 0 0 1))] [4, 7, 21] [(19, .agg #[.slice none 0 0])] ([]) (fun _ => by kernel_rfl) al0 ?_
      refine ops_nil ?_
      refine done_any ?_
      refine any_fork [1, 3] (by kernel_rfl) (by simp) (each_cons _ rfl ?_ (each_cons _ rfl ?_ (each_nil)))
      ·
       refine oq 1 [(1, .go (owns 10 0 1))] [4, 19, 21] [(20, .bool false)] ([]) (fun _ => by kernel_rfl) al0 ?_
       refine ops_nil ?_
       refine done_any ?_
       refine any_one 3 _ (by kernel_rfl) rfl ?_
       refine oq 1 [(3, .go (owns 11 0 1))] [4, 20, 21] [] ([]) (fun _ => by kernel_rfl) al0 ?_
       refine ops_nil ?_
       refine done_any ?_
       refine any_tk (f := 0) [4, 5] [] [4] [(5, .bool false), (6, .int .i64 4)] ([]) #[true, true, true, true, true, true] (by kernel_rfl) (by kernel_rfl) al0 ?_
       exact any_weak hm [4, 5, 6] (by kernel_rfl) rfl rfl rfl
      ·
       refine oq 1 [(3, .go (owns 11 0 1))] [4, 7, 21] [] ([]) (fun _ => by kernel_rfl) al0 ?_
       refine ops_nil ?_
       refine done_any ?_
       refine any_one 1 _ (by kernel_rfl) rfl ?_
       refine oq 1 [(1, .go (owns 10 0 1))] [4, 21] [(20, .bool false)] ([]) (fun _ => by kernel_rfl) al0 ?_
       refine ops_nil ?_
       refine done_any ?_
       refine any_tk (f := 0) [4, 5] [] [4] [(5, .bool false), (6, .int .i64 4)] ([]) #[true, true, true, true, true, true] (by kernel_rfl) (by kernel_rfl) al0 ?_
       exact any_weak hm [4, 5, 6] (by kernel_rfl) rfl rfl rfl
     ·
      refine oq 1 [(1, .go (owns 10 0 1))] [4, 8, 21] [(20, .bool false)] ([]) (fun _ => by kernel_rfl) al0 ?_
      refine ops_nil ?_
      refine done_any ?_
      refine any_one 0 _ (by kernel_rfl) rfl ?_
      refine oq 1 [(0, .go (owns 0 0 1))] [4, 20, 21] [(19, .agg #[.slice none 0 0])] ([]) (fun _ => by kernel_rfl) al0 ?_
      refine ops_nil ?_
      refine done_any ?_
      refine any_one 3 _ (by kernel_rfl) rfl ?_
      refine oq 1 [(3, .go (owns 11 0 1))] [4, 20, 21] [] ([]) (fun _ => by kernel_rfl) al0 ?_
      refine ops_nil ?_
      refine done_any ?_
      refine any_tk (f := 0) [4, 5] [] [4] [(5, .bool false), (6, .int .i64 4)] ([]) #[true, true, true, true, true, true] (by kernel_rfl) (by kernel_rfl) al0 ?_
      exact any_weak hm [4, 5, 6] (by kernel_rfl) rfl rfl rfl
    refine any_nil (by kernel_rfl) ?_
    refine done_seq ?_
    refine at_return (owns 11 0 1) (.tuple #[.agg #[.slice none 0 0], .bool false, .int .i64 4]) [] (by kernel_rfl) (by kernel_rfl) al0 ?_
    exact fun w' hw => by rw [clearV_none q9 hg57]; exact ⟨none, 0, 0, [], rfl, SlO.nil, hw.below, hw.sub (List.nil_sublist _)⟩
   ·
    have hy57 := (get_pos (ris_asc l 0 (right_ris q9)) hg57).1
    exact absurd (List.getElem?_eq_some_iff.1 hy57).1 (by omega)
  ·
   refine om 3 [(5, .go (owns 0 0 1))] [1, 4] (fun γ101 => [(7, .pointer (some ⟨γ101 0, 0, none⟩))]) (fun γ101 L => bx (γ101 0) (#[.slice (some ⟨g52, 0, none⟩) n cq52]) 24 :: L) (fun γ101 => []) (fun _ => by kernel_rfl) (fun γ101 => al0) (fun γ101 => ?_)
   refine ops_nil ?_
   refine done_seq ?_
   refine at_seq ?_
   refine at_seq ?_
   refine at_ops ?_
   refine oq 1 [] [4, 7] [(19, .func (.func 61) #[] #[.pointer (some ⟨γ4 1, 0, none⟩), .pointer (some ⟨γ4 2, 0, none⟩), .pointer (some ⟨γ4 0, 0, none⟩), .pointer (some ⟨γ5 0, 0, none⟩)])] ([]) (fun _ => by kernel_rfl) al0 ?_
   refine ops_inline (g := 61) (args := #[.pointer (some ⟨γ101 0, 0, none⟩), .pointer (some ⟨γ4 1, 0, none⟩), .pointer (some ⟨γ4 2, 0, none⟩), .pointer (some ⟨γ4 0, 0, none⟩), .pointer (some ⟨γ5 0, 0, none⟩)]) (by kernel_rfl) (by kernel_rfl) (by kernel_rfl) (fun args w => Try.call61 args w) Try.func61 rfl Try.ntmps61 rfl ?_
   refine at_seq ?_
   refine aq [] [0, 1, 2, 3, 4] [] ([]) (fun _ => by kernel_rfl) al0 ?_
   refine done_seq ?_
   refine at_seq ?_
   refine at_calm rfl (by kernel_rfl) (by kernel_rfl) ?_
   refine cm 5 [(3, .go (owns 0 0 1)), (4, .go (owns 6 0 1))] [0, 2, 3, 4] [(14, .slice (some ⟨g52, 0, none⟩) n cq52), (15, .int .i64 k)] ([]) (by kernel_rfl) rfl al0 ?_
   rcases hg105 : getB l k with _ | y105
   ·
    refine calm_callD (.pointer none) (by kernel_rfl) (by kernel_rfl) (by kernel_rfl) (fun args w => Try.call32 args w) (fun w hw => by have := port_d (some ⟨g52, 0, none⟩) n cq52 l k w (hO52.atN (A := [_, _, _, _, _, _, _, _, _, _, _]) hw) hnq52 (by omega) (ris_all (right_ris q9)) (ris_asc l 0 (right_ris q9)); rw [portV_none hg105] at this; exact this) ?_
    refine cm 1 [] [0, 2, 3, 4] [(7, .pointer none)] ([]) (by kernel_rfl) rfl al0 ?_
    refine calm_nil' ?_
    refine done_seq ?_
    refine at_seq ?_
    refine at_seq ?_
    refine aq [] [0, 2, 3, 4, 7] [(18, .bool true)] ([]) (fun _ => by kernel_rfl) al0 ?_
    refine done_seq ?_
    refine at_true (by kernel_rfl) ?_
    refine at_seq ?_
    refine aq [] [] [(6, .int .i64 4)] ([]) (fun _ => by kernel_rfl) al0 ?_
    refine done_seq ?_
    refine at_back ([]) (.int .i64 4) [] (by kernel_rfl) (by kernel_rfl) al0 ?_
    refine oq 1 [] [4, 7] [(8, .int .i64 4)] ([]) (fun _ => by kernel_rfl) al0 ?_
    refine ops_nil ?_
    refine done_seq ?_
    refine at_seq ?_
    refine aq [] [4, 7, 8] [(22, .bool true)] ([]) (fun _ => by kernel_rfl) al0 ?_
    refine done_seq ?_
    refine at_true (by kernel_rfl) ?_
    refine at_seq ?_
    refine aq [(2, .go (owns 1 0 1))] [4] [(5, .int .i64 4)] ([]) (fun _ => by kernel_rfl) al0 ?_
    refine done_seq ?_
    refine at_back (owns 1 0 1) (.tuple #[.agg #[.slice none 0 0], .int .i64 4]) [] (by kernel_rfl) (by kernel_rfl) al0 ?_
    refine om 6 [(7, .go (owns 0 0 1))] [6, 9] (fun γ112 => [(10, .pointer (some ⟨γ112 0, 0, none⟩)), (11, .int .i64 4)]) (fun γ112 L => bx (γ112 0) (#[.slice none 0 0]) 24 :: L) (fun γ112 => []) (fun _ => by kernel_rfl) (fun γ112 => al0) (fun γ112 => ?_)
    refine ops_nil ?_
    refine done_seq ?_
    refine at_seq ?_
    refine at_any (by kernel_rfl) ?_
    refine any_tk (f := 5) [2] [] [6, 9, 10] [(20, .int .i64 4)] ([]) #[false, false, true, false, false, false] (by kernel_rfl) (by kernel_rfl) al0 ?_
    refine any_cut 0 #[true, true, true, true, true, true] ([(6, .pointer (some ⟨γ4 3, 0, none⟩)), (7, .int .i64 0), (8, .int .i64 4)]) ([bx (γ112 0) (#[.slice none 0 0]) 24, bx (γ101 0) (#[.slice (some ⟨g52, 0, none⟩) n cq52]) 24, bx (γ7 1) (#[.slice none 0 0]) 24, bx (γ7 0) (#[.slice p n cap]) 24, bx (γ5 0) (#[.int .i64 0]) 3, bx (γ4 3) (#[.slice none 0 0]) 24, bx (γ4 2) (#[.func (.func 41) #[] #[.pointer (some ⟨γ2 0, 0, none⟩)]]) 75, bx (γ4 1) (#[.int .i64 k]) 3, bx (γ4 0) (#[.slice p n cap]) 24, bx (γ2 0) (#[.bool false]) 4, bx (γ1 1) (#[.slice none 0 0]) 24, bx (γ1 0) (#[.slice p n cap]) 24, bx g52 cs52 40]) ?_ (fun hm => ?_)
    rotate_left
    ·
     refine any_fork [0, 1] (by kernel_rfl) (by simp) (each_cons _ rfl ?_ (each_cons _ rfl ?_ (each_nil)))
     ·
      refine oq 1 [(0, .go (owns 0 0 1))] [6, 9, 20] [(18, .agg #[.slice none 0 0])] ([]) (fun _ => by kernel_rfl) al0 ?_
      refine ops_nil ?_
      refine done_any ?_
      refine any_fork [1, 3] (by kernel_rfl) (by simp) (each_cons _ rfl ?_ (each_cons _ rfl ?_ (each_nil)))
      ·
       refine oq 1 [(1, .go (owns 4 0 1))] [6, 18, 20] [(19, .int .i64 0)] ([]) (fun _ => by kernel_rfl) al0 ?_
       refine ops_nil ?_
       refine done_any ?_
       refine any_one 3 _ (by kernel_rfl) rfl ?_
       refine oq 1 [(3, .go (owns 5 0 1))] [6, 19, 20] [] ([]) (fun _ => by kernel_rfl) al0 ?_
       refine ops_nil ?_
       refine done_any ?_
       refine any_tk (f := 0) [4, 5] [] [6] [(7, .int .i64 0), (8, .int .i64 4)] ([]) #[true, true, true, true, true, true] (by kernel_rfl) (by kernel_rfl) al0 ?_
       exact any_weak hm [6, 7, 8] (by kernel_rfl) rfl rfl rfl
      ·
       refine oq 1 [(3, .go (owns 5 0 1))] [6, 9, 20] [] ([]) (fun _ => by kernel_rfl) al0 ?_
       refine ops_nil ?_
       refine done_any ?_
       refine any_one 1 _ (by kernel_rfl) rfl ?_
       refine oq 1 [(1, .go (owns 4 0 1))] [6, 20] [(19, .int .i64 0)] ([]) (fun _ => by kernel_rfl) al0 ?_
       refine ops_nil ?_
       refine done_any ?_
       refine any_tk (f := 0) [4, 5] [] [6] [(7, .int .i64 0), (8, .int .i64 4)] ([]) #[true, true, true, true, true, true] (by kernel_rfl) (by kernel_rfl) al0 ?_
       exact any_weak hm [6, 7, 8] (by kernel_rfl) rfl rfl rfl
     ·
      refine oq 1 [(1, .go (owns 4 0 1))] [6, 10, 20] [(19, .int .i64 0)] ([]) (fun _ => by kernel_rfl) al0 ?_
      refine ops_nil ?_
      refine done_any ?_
      refine any_one 0 _ (by kernel_rfl) rfl ?_
      refine oq 1 [(0, .go (owns 0 0 1))] [6, 19, 20] [(18, .agg #[.slice none 0 0])] ([]) (fun _ => by kernel_rfl) al0 ?_
      refine ops_nil ?_
      refine done_any ?_
      refine any_one 3 _ (by kernel_rfl) rfl ?_
      refine oq 1 [(3, .go (owns 5 0 1))] [6, 19, 20] [] ([]) (fun _ => by kernel_rfl) al0 ?_
      refine ops_nil ?_
      refine done_any ?_
      refine any_tk (f := 0) [4, 5] [] [6] [(7, .int .i64 0), (8, .int .i64 4)] ([]) #[true, true, true, true, true, true] (by kernel_rfl) (by kernel_rfl) al0 ?_
      exact any_weak hm [6, 7, 8] (by kernel_rfl) rfl rfl rfl
    refine any_nil (by kernel_rfl) ?_
    refine done_seq ?_
    refine at_back (owns 5 0 1) (.tuple #[.agg #[.slice none 0 0], .int .i64 0, .int .i64 4]) [] (by kernel_rfl) (by kernel_rfl) al0 ?_
    refine om 8 [(9, .go (owns 0 0 1))] [4, 7] (fun γ130 => [(8, .pointer (some ⟨γ130 0, 0, none⟩)), (10, .int .i64 4)]) (fun γ130 L => bx (γ130 0) (#[.slice none 0 0]) 24 :: L) (fun γ130 => []) (fun _ => by kernel_rfl) (fun γ130 => al0) (fun γ130 => ?_)
    refine ops_nil ?_
    refine done_seq ?_
    refine at_seq ?_
    refine at_any (by kernel_rfl) ?_
    refine any_tk (f := 5) [2] [] [4, 7, 8] [(21, .int .i64 4)] ([]) #[false, false, true, false, false, false] (by kernel_rfl) (by kernel_rfl) al0 ?_
    refine any_cut 0 #[true, true, true, true, true, true] ([(4, .pointer (some ⟨γ1 1, 0, none⟩)), (5, .bool false), (6, .int .i64 4)]) ([bx (γ130 0) (#[.slice none 0 0]) 24, bx (γ112 0) (#[.slice none 0 0]) 24, bx (γ101 0) (#[.slice (some ⟨g52, 0, none⟩) n cq52]) 24, bx (γ7 1) (#[.slice none 0 0]) 24, bx (γ7 0) (#[.slice p n cap]) 24, bx (γ5 0) (#[.int .i64 0]) 3, bx (γ4 3) (#[.slice none 0 0]) 24, bx (γ4 2) (#[.func (.func 41) #[] #[.pointer (some ⟨γ2 0, 0, none⟩)]]) 75, bx (γ4 1) (#[.int .i64 k]) 3, bx (γ4 0) (#[.slice p n cap]) 24, bx (γ2 0) (#[.bool false]) 4, bx (γ1 1) (#[.slice none 0 0]) 24, bx (γ1 0) (#[.slice p n cap]) 24, bx g52 cs52 40]) ?_ (fun hm => ?_)
    rotate_left
    ·
     refine any_fork [0, 1] (by kernel_rfl) (by simp) (each_cons _ rfl ?_ (each_cons _ rfl ?_ (each_nil)))
     ·
      refine oq 1 [(0, .go (owns 0 0 1))] [4, 7, 21] [(19, .agg #[.slice none 0 0])] ([]) (fun _ => by kernel_rfl) al0 ?_
      refine ops_nil ?_
      refine done_any ?_
      refine any_fork [1, 3] (by kernel_rfl) (by simp) (each_cons _ rfl ?_ (each_cons _ rfl ?_ (each_nil)))
      ·
       refine oq 1 [(1, .go (owns 10 0 1))] [4, 19, 21] [(20, .bool false)] ([]) (fun _ => by kernel_rfl) al0 ?_
       refine ops_nil ?_
       refine done_any ?_
       refine any_one 3 _ (by kernel_rfl) rfl ?_
       refine oq 1 [(3, .go (owns 11 0 1))] [4, 20, 21] [] ([]) (fun _ => by kernel_rfl) al0 ?_
       refine ops_nil ?_
       refine done_any ?_
       refine any_tk (f := 0) [4, 5] [] [4] [(5, .bool false), (6, .int .i64 4)] ([]) #[true, true, true, true, true, true] (by kernel_rfl) (by kernel_rfl) al0 ?_
       exact any_weak hm [4, 5, 6] (by kernel_rfl) rfl rfl rfl
      ·
       refine oq 1 [(3, .go (owns 11 0 1))] [4, 7, 21] [] ([]) (fun _ => by kernel_rfl) al0 ?_
       refine ops_nil ?_
       refine done_any ?_
       refine any_one 1 _ (by kernel_rfl) rfl ?_
       refine oq 1 [(1, .go (owns 10 0 1))] [4, 21] [(20, .bool false)] ([]) (fun _ => by kernel_rfl) al0 ?_
       refine ops_nil ?_
       refine done_any ?_
       refine any_tk (f := 0) [4, 5] [] [4] [(5, .bool false), (6, .int .i64 4)] ([]) #[true, true, true, true, true, true] (by kernel_rfl) (by kernel_rfl) al0 ?_
       exact any_weak hm [4, 5, 6] (by kernel_rfl) rfl rfl rfl
     ·
      refine oq 1 [(1, .go (owns 10 0 1))] [4, 8, 21] [(20, .bool false)] ([]) (fun _ => by kernel_rfl) al0 ?_
      refine ops_nil ?_
      refine done_any ?_
      refine any_one 0 _ (by kernel_rfl) rfl ?_
      refine oq 1 [(0, .go (owns 0 0 1))] [4, 20, 21] [(19, .agg #[.slice none 0 0])] ([]) (fun _ => by kernel_rfl) al0 ?_
      refine ops_nil ?_
      refine done_any ?_
      refine any_one 3 _ (by kernel_rfl) rfl ?_
      refine oq 1 [(3, .go (owns 11 0 1))] [4, 20, 21] [] ([]) (fun _ => by kernel_rfl) al0 ?_
      refine ops_nil ?_
      refine done_any ?_
      refine any_tk (f := 0) [4, 5] [] [4] [(5, .bool false), (6, .int .i64 4)] ([]) #[true, true, true, true, true, true] (by kernel_rfl) (by kernel_rfl) al0 ?_
      exact any_weak hm [4, 5, 6] (by kernel_rfl) rfl rfl rfl
    refine any_nil (by kernel_rfl) ?_
    refine done_seq ?_
    refine at_return (owns 11 0 1) (.tuple #[.agg #[.slice none 0 0], .bool false, .int .i64 4]) [] (by kernel_rfl) (by kernel_rfl) al0 ?_
    exact fun w' hw => by rw [clearV_none q9 hg105]; exact ⟨none, 0, 0, [], rfl, SlO.nil, hw.below, hw.sub (List.nil_sublist _)⟩
   ·
    have hy105 := (get_pos (ris_asc l 0 (right_ris q9)) hg105).1
    refine calm_callD (.pointer (some ⟨g52, 0 + (posB l k) * 5, none⟩)) (by kernel_rfl) (by kernel_rfl) (by kernel_rfl) (fun args w => Try.call32 args w) (fun w hw => by have := port_d (some ⟨g52, 0, none⟩) n cq52 l k w (hO52.atN (A := [_, _, _, _, _, _, _, _, _, _, _]) hw) hnq52 (by omega) (ris_all (right_ris q9)) (ris_asc l 0 (right_ris q9)); rw [portV_some hg105] at this; exact this) ?_
    refine cm 1 [] [0, 2, 3, 4] [(7, .pointer (some ⟨g52, 0 + (posB l k) * 5, none⟩))] ([]) (by kernel_rfl) rfl al0 ?_
    refine calm_nil' ?_
    refine done_seq ?_
    refine at_seq ?_
    refine at_seq ?_
    refine aq [] [0, 2, 3, 4, 7] [(18, .bool false)] ([]) (fun _ => by kernel_rfl) al0 ?_
    refine done_seq ?_
    refine at_false (by kernel_rfl) ?_
    refine at_skip ?_
    refine done_seq ?_
    refine at_seq ?_
    refine at_any (by kernel_rfl) ?_
    refine any_tk (f := 8) [1, 2, 3, 4] [] [2, 3, 4] [(21, .pointer (some ⟨g52, 0 + (posB l k) * 5, none⟩)), (24, .pointer (some ⟨γ101 0, 0, none⟩))] ([]) #[false, true, true, true, true, false, false, false, false, false, false, false] (by kernel_rfl) (by kernel_rfl) al0 ?_
    refine any_cut 6 #[true, true, true, true, true, true, false, false, false, false, false, false] ([(3, .pointer (some ⟨γ4 0, 0, none⟩)), (4, .pointer (some ⟨γ5 0, 0, none⟩)), (20, .func (.func 41) #[] #[.pointer (some ⟨γ2 0, 0, none⟩)]), (21, .pointer (some ⟨g52, 0 + (posB l k) * 5, none⟩)), (25, .slice (some ⟨g52, 0, none⟩) n cq52)]) ([bx (γ101 0) (#[.slice (some ⟨g52, 0, none⟩) n cq52]) 24, bx (γ7 1) (#[.slice none 0 0]) 24, bx (γ7 0) (#[.slice p n cap]) 24, bx (γ5 0) (#[.int .i64 0]) 3, bx (γ4 3) (#[.slice none 0 0]) 24, bx (γ4 2) (#[.func (.func 41) #[] #[.pointer (some ⟨γ2 0, 0, none⟩)]]) 75, bx (γ4 1) (#[.int .i64 k]) 3, bx (γ4 0) (#[.slice p n cap]) 24, bx (γ2 0) (#[.bool false]) 4, bx (γ1 1) (#[.slice none 0 0]) 24, bx (γ1 0) (#[.slice p n cap]) 24, bx g52 cs52 40]) ?_ (fun hm => ?_)
    rotate_left
    ·
     refine any_fork [0, 5] (by kernel_rfl) (by simp) (each_cons _ rfl ?_ (each_cons _ rfl ?_ (each_nil)))
     ·
      refine oq 1 [(0, .go (owns 5 0 1))] [3, 4, 21, 24] [(20, .func (.func 41) #[] #[.pointer (some ⟨γ2 0, 0, none⟩)])] ([]) (fun _ => by kernel_rfl) al0 ?_
      refine ops_nil ?_
      refine done_any ?_
      refine any_one 5 _ (by kernel_rfl) rfl ?_
      refine oq 1 [(5, .go (owns 0 0 1))] [3, 4, 20, 21] [(25, .slice (some ⟨g52, 0, none⟩) n cq52)] ([]) (fun _ => by kernel_rfl) al0 ?_
      refine ops_nil ?_
      refine done_any ?_
      exact any_weak hm [3, 4, 20, 21, 25] (by kernel_rfl) rfl rfl rfl
     ·
      refine oq 1 [(5, .go (owns 0 0 1))] [2, 3, 4, 21] [(25, .slice (some ⟨g52, 0, none⟩) n cq52)] ([]) (fun _ => by kernel_rfl) al0 ?_
      refine ops_nil ?_
      refine done_any ?_
      refine any_one 0 _ (by kernel_rfl) rfl ?_
      refine oq 1 [(0, .go (owns 5 0 1))] [3, 4, 21, 25] [(20, .func (.func 41) #[] #[.pointer (some ⟨γ2 0, 0, none⟩)])] ([]) (fun _ => by kernel_rfl) al0 ?_
      refine ops_nil ?_
      refine done_any ?_
      exact any_weak hm [3, 4, 20, 21, 25] (by kernel_rfl) rfl rfl rfl
    refine any_one 6 _ (by kernel_rfl) rfl ?_
    refine ops_inline (g := 41) (args := #[.pointer (some ⟨g52, 0 + (posB l k) * 5, none⟩), .slice (some ⟨g52, 0, none⟩) n cq52, .pointer (some ⟨γ2 0, 0, none⟩)]) (by kernel_rfl) (by kernel_rfl) (by kernel_rfl) (fun args w => Try.call41 args w) Try.func41 rfl Try.ntmps41 rfl ?_
    refine at_seq ?_
    refine aq [] [0, 2] [] ([]) (fun _ => by kernel_rfl) al0 ?_
    refine done_seq ?_
    refine at_seq ?_
    refine am [(4, .go (ownps 11 (0 + (posB l k) * 5 + 3) [.bool y105.pending])), (5, .go (owns 8 0 1)), (8, .go (ownps 11 (0 + (posB l k) * 5 + 3) [undef]))] [0] (fun _ => []) (fun _ L => ((L.set 8 (bx (γ2 0) (#[.bool y105.pending]) 4)).set 11 (bx g52 ((cs52).setIfInBounds (0 + (posB l k) * 5 + 3) (.bool false)) 40))) (fun _ => acellsP cs52 (0 + (posB l k) * 5 + 3) [.bool y105.pending] ++ ([0 + (posB l k) * 5 + 3 < (cs52).size])) (fun _ => by kernel_rfl) (fun _ => (alA (rda_part ((hOw52.rdx hnq52 hy105)) 3 _ rfl) (al1 (hOw52.room hnq52 hy105 (f := 3) (by decide))))) (fun _ => ?_)
    refine done_seq ?_
    refine at_seq ?_
    refine aq [] [] [(5, .pointer (some ⟨g52, 0 + (posB l k) * 5, none⟩)), (6, .int .i64 0)] ([]) (fun _ => by kernel_rfl) al0 ?_
    refine done_seq ?_
    refine at_back ([]) (.tuple #[.pointer (some ⟨g52, 0 + (posB l k) * 5, none⟩), .int .i64 0]) [] (by kernel_rfl) (by kernel_rfl) al0 ?_
    refine ops_nil ?_
    refine done_any ?_
    refine any_tk (f := 0) [7, 8, 9, 10, 11] [] [3, 4] [(8, .pointer (some ⟨g52, 0 + (posB l k) * 5, none⟩)), (9, .int .i64 0)] ([]) #[true, true, true, true, true, true, true, true, true, true, true, true] (by kernel_rfl) (by kernel_rfl) al0 ?_
    refine any_nil (by kernel_rfl) ?_
    refine done_seq ?_
    refine at_seq ?_
    refine at_seq ?_
    refine aq [] [3, 4, 8, 9] [(30, .bool false)] ([]) (fun _ => by kernel_rfl) al0 ?_
    refine done_seq ?_
    refine at_false (by kernel_rfl) ?_
    refine at_skip ?_
    refine done_seq ?_
    refine at_seq ?_
    refine at_calm rfl (by kernel_rfl) (by kernel_rfl) ?_
    refine cm 6 [(1, .go (owns 7 0 1)), (5, .go (ownps 11 (0 + (posB l k) * 5) [.int .i64 y105.num]))] [4, 8] [(33, .slice p n cap), (37, .int .i64 y105.num)] (acellsP ((cs52).setIfInBounds (0 + (posB l k) * 5 + 3) (.bool false)) (0 + (posB l k) * 5) [.int .i64 y105.num]) (by kernel_rfl) rfl (rda_pre (((hOw52.put (x' := (⟨y105.num, y105.vcpu, y105.peer, false, y105.masked⟩ : Port)) hnq52 hy105 (f := 3) (by decide) rfl).rdx (len_set hnq52) (get_set hy105))) _ rfl) ?_
    skip
    ·
     obtain ⟨b166, o166, rfl⟩ := hsl.pos (i := posB l y105.num) (List.getElem?_eq_some_iff.1 (get_pos (ris_asc l 0 (right_ris q9)) (get_self hg105)).1).1
     refine calm_callD (.pointer (some ⟨b166, o166 + (posB l y105.num) * 5, none⟩)) (by kernel_rfl) (by kernel_rfl) (by kernel_rfl) (fun args w => Try.call32 args w) (fun w hw => by have := port_d (some ⟨b166, o166, none⟩) n cap l y105.num w (hsl.kept hw.below) hn (by omega) (ris_all (right_ris q9)) (ris_asc l 0 (right_ris q9)); rw [portV_some (get_self hg105)] at this; exact this) ?_
     refine cm 1 [] [4, 8] [(10, .pointer (some ⟨b166, o166 + (posB l y105.num) * 5, none⟩))] ([]) (by kernel_rfl) rfl al0 ?_
     refine calm_nil' ?_
     refine done_seq ?_
     refine at_seq ?_
     refine at_seq ?_
     refine at_calm rfl (by kernel_rfl) (by kernel_rfl) ?_
     refine cm 3 [(2, .go (ownps 11 (0 + (posB l k) * 5) [.int .i64 y105.num, .int .i64 y105.vcpu, .int .i64 y105.peer, .bool false, .bool y105.masked]))] [4, 8, 10] [(41, .agg #[.int .i64 y105.num, .int .i64 y105.vcpu, .int .i64 y105.peer, .bool false, .bool y105.masked])] (acellsP ((cs52).setIfInBounds (0 + (posB l k) * 5 + 3) (.bool false)) (0 + (posB l k) * 5) [.int .i64 y105.num, .int .i64 y105.vcpu, .int .i64 y105.peer, .bool false, .bool y105.masked]) (by kernel_rfl) rfl (rda_pre (((hOw52.put (x' := (⟨y105.num, y105.vcpu, y105.peer, false, y105.masked⟩ : Port)) hnq52 hy105 (f := 3) (by decide) rfl).rdx (len_set hnq52) (get_set hy105))) _ rfl) ?_
     rcases q169 : (false && !y105.masked) with _ | _
     ·
      refine calm_callD (.bool false) (by kernel_rfl) (by kernel_rfl) (by kernel_rfl) (fun args w => Try.call39 args w) (fun w hw => by have := due_d (⟨y105.num, y105.vcpu, y105.peer, false, y105.masked⟩ : Port) w; rw [show dueB (⟨y105.num, y105.vcpu, y105.peer, false, y105.masked⟩ : Port) = false from q169] at this; exact this) ?_
      refine cm 18 [] [4, 8] [(60, .bool false)] ([]) (by kernel_rfl) rfl al0 ?_
      refine calm_nil' ?_
      refine done_seq ?_
      refine at_false (by kernel_rfl) ?_
      refine at_skip ?_
      refine done_seq ?_
      refine at_seq ?_
      refine aq [] [] [(6, .int .i64 0)] ([]) (fun _ => by kernel_rfl) al0 ?_
      refine done_seq ?_
      refine at_back ([]) (.int .i64 0) [] (by kernel_rfl) (by kernel_rfl) al0 ?_
      refine oq 1 [] [4, 7] [(8, .int .i64 0)] ([]) (fun _ => by kernel_rfl) al0 ?_
      refine ops_nil ?_
      refine done_seq ?_
      refine at_seq ?_
      refine aq [] [4, 7, 8] [(22, .bool false)] ([]) (fun _ => by kernel_rfl) al0 ?_
      refine done_seq ?_
      refine at_false (by kernel_rfl) ?_
      refine at_skip ?_
      refine done_seq ?_
      refine at_seq ?_
      refine am [(0, .go (owns 0 0 1)), (1, .go (owns 1 0 1))] [4] (fun _ => [(5, .int .i64 0)]) (fun _ L => (L.set 1 (bx (γ7 1) (#[.slice (some ⟨g52, 0, none⟩) n cq52]) 24))) (fun _ => []) (fun _ => by kernel_rfl) (fun _ => al0) (fun _ => ?_)
      refine done_seq ?_
      refine at_back (owns 1 0 1) (.tuple #[.agg #[.slice (some ⟨g52, 0, none⟩) n cq52], .int .i64 0]) [] (by kernel_rfl) (by kernel_rfl) al0 ?_
      refine om 6 [(7, .go (owns 0 0 1))] [6, 9] (fun γ175 => [(10, .pointer (some ⟨γ175 0, 0, none⟩)), (11, .int .i64 0)]) (fun γ175 L => bx (γ175 0) (#[.slice (some ⟨g52, 0, none⟩) n cq52]) 24 :: L) (fun γ175 => []) (fun _ => by kernel_rfl) (fun γ175 => al0) (fun γ175 => ?_)
      refine ops_nil ?_
      refine done_seq ?_
      refine at_seq ?_
      refine at_any (by kernel_rfl) ?_
      refine any_tk (f := 5) [2] [] [6, 9, 10] [(20, .int .i64 0)] ([]) #[false, false, true, false, false, false] (by kernel_rfl) (by kernel_rfl) al0 ?_
      refine any_cut 0 #[true, true, true, true, true, true] ([(6, .pointer (some ⟨γ4 3, 0, none⟩)), (7, .int .i64 0), (8, .int .i64 0)]) ([bx (γ175 0) (#[.slice (some ⟨g52, 0, none⟩) n cq52]) 24, bx (γ101 0) (#[.slice (some ⟨g52, 0, none⟩) n cq52]) 24, bx (γ7 1) (#[.slice (some ⟨g52, 0, none⟩) n cq52]) 24, bx (γ7 0) (#[.slice (some ⟨b166, o166, none⟩) n cap]) 24, bx (γ5 0) (#[.int .i64 0]) 3, bx (γ4 3) (#[.slice (some ⟨g52, 0, none⟩) n cq52]) 24, bx (γ4 2) (#[.func (.func 41) #[] #[.pointer (some ⟨γ2 0, 0, none⟩)]]) 75, bx (γ4 1) (#[.int .i64 k]) 3, bx (γ4 0) (#[.slice (some ⟨b166, o166, none⟩) n cap]) 24, bx (γ2 0) (#[.bool y105.pending]) 4, bx (γ1 1) (#[.slice none 0 0]) 24, bx (γ1 0) (#[.slice (some ⟨b166, o166, none⟩) n cap]) 24, bx g52 ((cs52).setIfInBounds (0 + (posB l k) * 5 + 3) (.bool false)) 40]) ?_ (fun hm => ?_)
      rotate_left
      ·
       refine any_fork [0, 1] (by kernel_rfl) (by simp) (each_cons _ rfl ?_ (each_cons _ rfl ?_ (each_nil)))
       ·
        refine oq 1 [(0, .go (owns 0 0 1))] [6, 9, 20] [(18, .agg #[.slice (some ⟨g52, 0, none⟩) n cq52])] ([]) (fun _ => by kernel_rfl) al0 ?_
        refine ops_nil ?_
        refine done_any ?_
        refine any_fork [1, 3] (by kernel_rfl) (by simp) (each_cons _ rfl ?_ (each_cons _ rfl ?_ (each_nil)))
        ·
         refine oq 1 [(1, .go (owns 4 0 1))] [6, 18, 20] [(19, .int .i64 0)] ([]) (fun _ => by kernel_rfl) al0 ?_
         refine ops_nil ?_
         refine done_any ?_
         refine any_one 3 _ (by kernel_rfl) rfl ?_
         refine om 1 [(3, .go (owns 5 0 1))] [6, 19, 20] (fun _ => []) (fun _ L => (L.set 5 (bx (γ4 3) (#[.slice (some ⟨g52, 0, none⟩) n cq52]) 24))) (fun _ => []) (fun _ => by kernel_rfl) (fun _ => al0) (fun _ => ?_)
         refine ops_nil ?_
         refine done_any ?_
         refine any_tk (f := 0) [4, 5] [] [6] [(7, .int .i64 0), (8, .int .i64 0)] ([]) #[true, true, true, true, true, true] (by kernel_rfl) (by kernel_rfl) al0 ?_
         exact any_weak hm [6, 7, 8] (by kernel_rfl) rfl rfl rfl
        ·
         refine om 1 [(3, .go (owns 5 0 1))] [6, 9, 20] (fun _ => []) (fun _ L => (L.set 5 (bx (γ4 3) (#[.slice (some ⟨g52, 0, none⟩) n cq52]) 24))) (fun _ => []) (fun _ => by kernel_rfl) (fun _ => al0) (fun _ => ?_)
         refine ops_nil ?_
         refine done_any ?_
         refine any_one 1 _ (by kernel_rfl) rfl ?_
         refine oq 1 [(1, .go (owns 4 0 1))] [6, 20] [(19, .int .i64 0)] ([]) (fun _ => by kernel_rfl) al0 ?_
         refine ops_nil ?_
         refine done_any ?_
         refine any_tk (f := 0) [4, 5] [] [6] [(7, .int .i64 0), (8, .int .i64 0)] ([]) #[true, true, true, true, true, true] (by kernel_rfl) (by kernel_rfl) al0 ?_
         exact any_weak hm [6, 7, 8] (by kernel_rfl) rfl rfl rfl
       ·
        refine oq 1 [(1, .go (owns 4 0 1))] [6, 10, 20] [(19, .int .i64 0)] ([]) (fun _ => by kernel_rfl) al0 ?_
        refine ops_nil ?_
        refine done_any ?_
        refine any_one 0 _ (by kernel_rfl) rfl ?_
        refine oq 1 [(0, .go (owns 0 0 1))] [6, 19, 20] [(18, .agg #[.slice (some ⟨g52, 0, none⟩) n cq52])] ([]) (fun _ => by kernel_rfl) al0 ?_
        refine ops_nil ?_
        refine done_any ?_
        refine any_one 3 _ (by kernel_rfl) rfl ?_
        refine om 1 [(3, .go (owns 5 0 1))] [6, 19, 20] (fun _ => []) (fun _ L => (L.set 5 (bx (γ4 3) (#[.slice (some ⟨g52, 0, none⟩) n cq52]) 24))) (fun _ => []) (fun _ => by kernel_rfl) (fun _ => al0) (fun _ => ?_)
        refine ops_nil ?_
        refine done_any ?_
        refine any_tk (f := 0) [4, 5] [] [6] [(7, .int .i64 0), (8, .int .i64 0)] ([]) #[true, true, true, true, true, true] (by kernel_rfl) (by kernel_rfl) al0 ?_
        exact any_weak hm [6, 7, 8] (by kernel_rfl) rfl rfl rfl
      refine any_nil (by kernel_rfl) ?_
      refine done_seq ?_
      refine at_back (owns 5 0 1) (.tuple #[.agg #[.slice (some ⟨g52, 0, none⟩) n cq52], .int .i64 0, .int .i64 0]) [] (by kernel_rfl) (by kernel_rfl) al0 ?_
      refine om 8 [(9, .go (owns 0 0 1))] [4, 7] (fun γ193 => [(8, .pointer (some ⟨γ193 0, 0, none⟩)), (10, .int .i64 0)]) (fun γ193 L => bx (γ193 0) (#[.slice (some ⟨g52, 0, none⟩) n cq52]) 24 :: L) (fun γ193 => []) (fun _ => by kernel_rfl) (fun γ193 => al0) (fun γ193 => ?_)
      refine ops_nil ?_
      refine done_seq ?_
      refine at_seq ?_
      refine at_any (by kernel_rfl) ?_
      refine any_tk (f := 5) [2] [] [4, 7, 8] [(21, .int .i64 0)] ([]) #[false, false, true, false, false, false] (by kernel_rfl) (by kernel_rfl) al0 ?_
      refine any_cut 0 #[true, true, true, true, true, true] ([(4, .pointer (some ⟨γ1 1, 0, none⟩)), (5, .bool y105.pending), (6, .int .i64 0)]) ([bx (γ193 0) (#[.slice (some ⟨g52, 0, none⟩) n cq52]) 24, bx (γ175 0) (#[.slice (some ⟨g52, 0, none⟩) n cq52]) 24, bx (γ101 0) (#[.slice (some ⟨g52, 0, none⟩) n cq52]) 24, bx (γ7 1) (#[.slice (some ⟨g52, 0, none⟩) n cq52]) 24, bx (γ7 0) (#[.slice (some ⟨b166, o166, none⟩) n cap]) 24, bx (γ5 0) (#[.int .i64 0]) 3, bx (γ4 3) (#[.slice (some ⟨g52, 0, none⟩) n cq52]) 24, bx (γ4 2) (#[.func (.func 41) #[] #[.pointer (some ⟨γ2 0, 0, none⟩)]]) 75, bx (γ4 1) (#[.int .i64 k]) 3, bx (γ4 0) (#[.slice (some ⟨b166, o166, none⟩) n cap]) 24, bx (γ2 0) (#[.bool y105.pending]) 4, bx (γ1 1) (#[.slice (some ⟨g52, 0, none⟩) n cq52]) 24, bx (γ1 0) (#[.slice (some ⟨b166, o166, none⟩) n cap]) 24, bx g52 ((cs52).setIfInBounds (0 + (posB l k) * 5 + 3) (.bool false)) 40]) ?_ (fun hm => ?_)
      rotate_left
      ·
       refine any_fork [0, 1] (by kernel_rfl) (by simp) (each_cons _ rfl ?_ (each_cons _ rfl ?_ (each_nil)))
       ·
        refine oq 1 [(0, .go (owns 0 0 1))] [4, 7, 21] [(19, .agg #[.slice (some ⟨g52, 0, none⟩) n cq52])] ([]) (fun _ => by kernel_rfl) al0 ?_
        refine ops_nil ?_
        refine done_any ?_
        refine any_fork [1, 3] (by kernel_rfl) (by simp) (each_cons _ rfl ?_ (each_cons _ rfl ?_ (each_nil)))
        ·
         refine oq 1 [(1, .go (owns 10 0 1))] [4, 19, 21] [(20, .bool y105.pending)] ([]) (fun _ => by kernel_rfl) al0 ?_
         refine ops_nil ?_
         refine done_any ?_
         refine any_one 3 _ (by kernel_rfl) rfl ?_
         refine om 1 [(3, .go (owns 11 0 1))] [4, 20, 21] (fun _ => []) (fun _ L => (L.set 11 (bx (γ1 1) (#[.slice (some ⟨g52, 0, none⟩) n cq52]) 24))) (fun _ => []) (fun _ => by kernel_rfl) (fun _ => al0) (fun _ => ?_)
         refine ops_nil ?_
         refine done_any ?_
         refine any_tk (f := 0) [4, 5] [] [4] [(5, .bool y105.pending), (6, .int .i64 0)] ([]) #[true, true, true, true, true, true] (by kernel_rfl) (by kernel_rfl) al0 ?_
         exact any_weak hm [4, 5, 6] (by kernel_rfl) rfl rfl rfl
        ·
         refine om 1 [(3, .go (owns 11 0 1))] [4, 7, 21] (fun _ => []) (fun _ L => (L.set 11 (bx (γ1 1) (#[.slice (some ⟨g52, 0, none⟩) n cq52]) 24))) (fun _ => []) (fun _ => by kernel_rfl) (fun _ => al0) (fun _ => ?_)
         refine ops_nil ?_
         refine done_any ?_
         refine any_one 1 _ (by kernel_rfl) rfl ?_
         refine oq 1 [(1, .go (owns 10 0 1))] [4, 21] [(20, .bool y105.pending)] ([]) (fun _ => by kernel_rfl) al0 ?_
         refine ops_nil ?_
         refine done_any ?_
         refine any_tk (f := 0) [4, 5] [] [4] [(5, .bool y105.pending), (6, .int .i64 0)] ([]) #[true, true, true, true, true, true] (by kernel_rfl) (by kernel_rfl) al0 ?_
         exact any_weak hm [4, 5, 6] (by kernel_rfl) rfl rfl rfl
       ·
        refine oq 1 [(1, .go (owns 10 0 1))] [4, 8, 21] [(20, .bool y105.pending)] ([]) (fun _ => by kernel_rfl) al0 ?_
        refine ops_nil ?_
        refine done_any ?_
        refine any_one 0 _ (by kernel_rfl) rfl ?_
        refine oq 1 [(0, .go (owns 0 0 1))] [4, 20, 21] [(19, .agg #[.slice (some ⟨g52, 0, none⟩) n cq52])] ([]) (fun _ => by kernel_rfl) al0 ?_
        refine ops_nil ?_
        refine done_any ?_
        refine any_one 3 _ (by kernel_rfl) rfl ?_
        refine om 1 [(3, .go (owns 11 0 1))] [4, 20, 21] (fun _ => []) (fun _ L => (L.set 11 (bx (γ1 1) (#[.slice (some ⟨g52, 0, none⟩) n cq52]) 24))) (fun _ => []) (fun _ => by kernel_rfl) (fun _ => al0) (fun _ => ?_)
        refine ops_nil ?_
        refine done_any ?_
        refine any_tk (f := 0) [4, 5] [] [4] [(5, .bool y105.pending), (6, .int .i64 0)] ([]) #[true, true, true, true, true, true] (by kernel_rfl) (by kernel_rfl) al0 ?_
        exact any_weak hm [4, 5, 6] (by kernel_rfl) rfl rfl rfl
      refine any_nil (by kernel_rfl) ?_
      refine done_seq ?_
      refine at_return (owns 11 0 1) (.tuple #[.agg #[.slice (some ⟨g52, 0, none⟩) n cq52], .bool y105.pending, .int .i64 0]) [] (by kernel_rfl) (by kernel_rfl) al0 ?_
      exact fun w' hw => by rw [clearV_ok q9 hg105, pos_of hg105]; exact ⟨_, _, _, _, rfl, (SlO.ofOwn (hOw52.put (x' := (⟨y105.num, y105.vcpu, y105.peer, false, y105.masked⟩ : Port)) hnq52 hy105 (f := 3) (by decide) rfl) (len_set hnq52)), hw.below, hw.tailN 13⟩
     ·
      refine calm_callD (.bool true) (by kernel_rfl) (by kernel_rfl) (by kernel_rfl) (fun args w => Try.call39 args w) (fun w hw => by have := due_d (⟨y105.num, y105.vcpu, y105.peer, false, y105.masked⟩ : Port) w; rw [show dueB (⟨y105.num, y105.vcpu, y105.peer, false, y105.masked⟩ : Port) = true from q169] at this; exact this) ?_
      refine cm 4 [(7, .go (outs b166 (o166 + (posB l y105.num) * 5) [.int .i64 y105.num, .int .i64 y105.vcpu, .int .i64 y105.peer, .bool y105.pending, .bool y105.masked]))] [4, 8, 10] [(43, .bool true), (46, .agg #[.int .i64 y105.num, .int .i64 y105.vcpu, .int .i64 y105.peer, .bool y105.pending, .bool y105.masked])] (cellsP w b166 (o166 + (posB l y105.num) * 5) [.int .i64 y105.num, .int .i64 y105.vcpu, .int .i64 y105.peer, .bool y105.pending, .bool y105.masked]) (by kernel_rfl) rfl (rd_pre (hsl.get (get_pos (ris_asc l 0 (right_ris q9)) (get_self hg105)).1) _ rfl) ?_
      rcases q212 : (y105.pending && !y105.masked) with _ | _
      ·
       refine calm_callD (.bool false) (by kernel_rfl) (by kernel_rfl) (by kernel_rfl) (fun args w => Try.call39 args w) (fun w hw => by have := due_d (⟨y105.num, y105.vcpu, y105.peer, y105.pending, y105.masked⟩ : Port) w; rw [show dueB (⟨y105.num, y105.vcpu, y105.peer, y105.pending, y105.masked⟩ : Port) = false from q212] at this; exact this) ?_
       refine cm 13 [] [4, 8] [(60, .bool true)] ([]) (by kernel_rfl) rfl al0 ?_
       refine calm_nil' ?_
       refine done_seq ?_
       refine at_true (by kernel_rfl) ?_
       refine am [(3, .go (ownps 11 (0 + (posB l k) * 5 + 1) [.int .i64 y105.vcpu])), (4, .go (owns 3 0 1))] [] (fun _ => []) (fun _ L => (L.set 3 (bx (γ5 0) (#[.int .i64 y105.vcpu]) 3))) (fun _ => acellsP ((cs52).setIfInBounds (0 + (posB l k) * 5 + 3) (.bool false)) (0 + (posB l k) * 5 + 1) [.int .i64 y105.vcpu]) (fun _ => by kernel_rfl) (fun _ => (rda_part (((hOw52.put (x' := (⟨y105.num, y105.vcpu, y105.peer, false, y105.masked⟩ : Port)) hnq52 hy105 (f := 3) (by decide) rfl).rdx (len_set hnq52) (get_set hy105))) 1 _ rfl)) (fun _ => ?_)
       refine done_seq ?_
       refine at_seq ?_
       refine aq [] [] [(6, .int .i64 0)] ([]) (fun _ => by kernel_rfl) al0 ?_
       refine done_seq ?_
       refine at_back ([]) (.int .i64 0) [] (by kernel_rfl) (by kernel_rfl) al0 ?_
       refine oq 1 [] [4, 7] [(8, .int .i64 0)] ([]) (fun _ => by kernel_rfl) al0 ?_
       refine ops_nil ?_
       refine done_seq ?_
       refine at_seq ?_
       refine aq [] [4, 7, 8] [(22, .bool false)] ([]) (fun _ => by kernel_rfl) al0 ?_
       refine done_seq ?_
       refine at_false (by kernel_rfl) ?_
       refine at_skip ?_
       refine done_seq ?_
       refine at_seq ?_
       refine am [(0, .go (owns 0 0 1)), (1, .go (owns 1 0 1))] [4] (fun _ => [(5, .int .i64 0)]) (fun _ L => (L.set 1 (bx (γ7 1) (#[.slice (some ⟨g52, 0, none⟩) n cq52]) 24))) (fun _ => []) (fun _ => by kernel_rfl) (fun _ => al0) (fun _ => ?_)
       refine done_seq ?_
       refine at_back (owns 1 0 1) (.tuple #[.agg #[.slice (some ⟨g52, 0, none⟩) n cq52], .int .i64 0]) [] (by kernel_rfl) (by kernel_rfl) al0 ?_
       refine om 6 [(7, .go (owns 0 0 1))] [6, 9] (fun γ219 => [(10, .pointer (some ⟨γ219 0, 0, none⟩)), (11, .int .i64 0)]) (fun γ219 L => bx (γ219 0) (#[.slice (some ⟨g52, 0, none⟩) n cq52]) 24 :: L) (fun γ219 => []) (fun _ => by kernel_rfl) (fun γ219 => al0) (fun γ219 => ?_)
       refine ops_nil ?_
       refine done_seq ?_
       refine at_seq ?_
       refine at_any (by kernel_rfl) ?_
       refine any_tk (f := 5) [2] [] [6, 9, 10] [(20, .int .i64 0)] ([]) #[false, false, true, false, false, false] (by kernel_rfl) (by kernel_rfl) al0 ?_
       refine any_cut 0 #[true, true, true, true, true, true] ([(6, .pointer (some ⟨γ4 3, 0, none⟩)), (7, .int .i64 y105.vcpu), (8, .int .i64 0)]) ([bx (γ219 0) (#[.slice (some ⟨g52, 0, none⟩) n cq52]) 24, bx (γ101 0) (#[.slice (some ⟨g52, 0, none⟩) n cq52]) 24, bx (γ7 1) (#[.slice (some ⟨g52, 0, none⟩) n cq52]) 24, bx (γ7 0) (#[.slice (some ⟨b166, o166, none⟩) n cap]) 24, bx (γ5 0) (#[.int .i64 y105.vcpu]) 3, bx (γ4 3) (#[.slice (some ⟨g52, 0, none⟩) n cq52]) 24, bx (γ4 2) (#[.func (.func 41) #[] #[.pointer (some ⟨γ2 0, 0, none⟩)]]) 75, bx (γ4 1) (#[.int .i64 k]) 3, bx (γ4 0) (#[.slice (some ⟨b166, o166, none⟩) n cap]) 24, bx (γ2 0) (#[.bool y105.pending]) 4, bx (γ1 1) (#[.slice none 0 0]) 24, bx (γ1 0) (#[.slice (some ⟨b166, o166, none⟩) n cap]) 24, bx g52 ((cs52).setIfInBounds (0 + (posB l k) * 5 + 3) (.bool false)) 40]) ?_ (fun hm => ?_)
       rotate_left
       ·
        refine any_fork [0, 1] (by kernel_rfl) (by simp) (each_cons _ rfl ?_ (each_cons _ rfl ?_ (each_nil)))
        ·
         refine oq 1 [(0, .go (owns 0 0 1))] [6, 9, 20] [(18, .agg #[.slice (some ⟨g52, 0, none⟩) n cq52])] ([]) (fun _ => by kernel_rfl) al0 ?_
         refine ops_nil ?_
         refine done_any ?_
         refine any_fork [1, 3] (by kernel_rfl) (by simp) (each_cons _ rfl ?_ (each_cons _ rfl ?_ (each_nil)))
         ·
          refine oq 1 [(1, .go (owns 4 0 1))] [6, 18, 20] [(19, .int .i64 y105.vcpu)] ([]) (fun _ => by kernel_rfl) al0 ?_
          refine ops_nil ?_
          refine done_any ?_
          refine any_one 3 _ (by kernel_rfl) rfl ?_
          refine om 1 [(3, .go (owns 5 0 1))] [6, 19, 20] (fun _ => []) (fun _ L => (L.set 5 (bx (γ4 3) (#[.slice (some ⟨g52, 0, none⟩) n cq52]) 24))) (fun _ => []) (fun _ => by kernel_rfl) (fun _ => al0) (fun _ => ?_)
          refine ops_nil ?_
          refine done_any ?_
          refine any_tk (f := 0) [4, 5] [] [6] [(7, .int .i64 y105.vcpu), (8, .int .i64 0)] ([]) #[true, true, true, true, true, true] (by kernel_rfl) (by kernel_rfl) al0 ?_
          exact any_weak hm [6, 7, 8] (by kernel_rfl) rfl rfl rfl
         ·
          refine om 1 [(3, .go (owns 5 0 1))] [6, 9, 20] (fun _ => []) (fun _ L => (L.set 5 (bx (γ4 3) (#[.slice (some ⟨g52, 0, none⟩) n cq52]) 24))) (fun _ => []) (fun _ => by kernel_rfl) (fun _ => al0) (fun _ => ?_)
          refine ops_nil ?_
          refine done_any ?_
          refine any_one 1 _ (by kernel_rfl) rfl ?_
          refine oq 1 [(1, .go (owns 4 0 1))] [6, 20] [(19, .int .i64 y105.vcpu)] ([]) (fun _ => by kernel_rfl) al0 ?_
          refine ops_nil ?_
          refine done_any ?_
          refine any_tk (f := 0) [4, 5] [] [6] [(7, .int .i64 y105.vcpu), (8, .int .i64 0)] ([]) #[true, true, true, true, true, true] (by kernel_rfl) (by kernel_rfl) al0 ?_
          exact any_weak hm [6, 7, 8] (by kernel_rfl) rfl rfl rfl
        ·
         refine oq 1 [(1, .go (owns 4 0 1))] [6, 10, 20] [(19, .int .i64 y105.vcpu)] ([]) (fun _ => by kernel_rfl) al0 ?_
         refine ops_nil ?_
         refine done_any ?_
         refine any_one 0 _ (by kernel_rfl) rfl ?_
         refine oq 1 [(0, .go (owns 0 0 1))] [6, 19, 20] [(18, .agg #[.slice (some ⟨g52, 0, none⟩) n cq52])] ([]) (fun _ => by kernel_rfl) al0 ?_
         refine ops_nil ?_
         refine done_any ?_
         refine any_one 3 _ (by kernel_rfl) rfl ?_
         refine om 1 [(3, .go (owns 5 0 1))] [6, 19, 20] (fun _ => []) (fun _ L => (L.set 5 (bx (γ4 3) (#[.slice (some ⟨g52, 0, none⟩) n cq52]) 24))) (fun _ => []) (fun _ => by kernel_rfl) (fun _ => al0) (fun _ => ?_)
         refine ops_nil ?_
         refine done_any ?_
         refine any_tk (f := 0) [4, 5] [] [6] [(7, .int .i64 y105.vcpu), (8, .int .i64 0)] ([]) #[true, true, true, true, true, true] (by kernel_rfl) (by kernel_rfl) al0 ?_
         exact any_weak hm [6, 7, 8] (by kernel_rfl) rfl rfl rfl
       refine any_nil (by kernel_rfl) ?_
       refine done_seq ?_
       refine at_back (owns 5 0 1) (.tuple #[.agg #[.slice (some ⟨g52, 0, none⟩) n cq52], .int .i64 y105.vcpu, .int .i64 0]) [] (by kernel_rfl) (by kernel_rfl) al0 ?_
       refine om 8 [(9, .go (owns 0 0 1))] [4, 7] (fun γ237 => [(8, .pointer (some ⟨γ237 0, 0, none⟩)), (10, .int .i64 0)]) (fun γ237 L => bx (γ237 0) (#[.slice (some ⟨g52, 0, none⟩) n cq52]) 24 :: L) (fun γ237 => []) (fun _ => by kernel_rfl) (fun γ237 => al0) (fun γ237 => ?_)
       refine ops_nil ?_
       refine done_seq ?_
       refine at_seq ?_
       refine at_any (by kernel_rfl) ?_
       refine any_tk (f := 5) [2] [] [4, 7, 8] [(21, .int .i64 0)] ([]) #[false, false, true, false, false, false] (by kernel_rfl) (by kernel_rfl) al0 ?_
       refine any_cut 0 #[true, true, true, true, true, true] ([(4, .pointer (some ⟨γ1 1, 0, none⟩)), (5, .bool y105.pending), (6, .int .i64 0)]) ([bx (γ237 0) (#[.slice (some ⟨g52, 0, none⟩) n cq52]) 24, bx (γ219 0) (#[.slice (some ⟨g52, 0, none⟩) n cq52]) 24, bx (γ101 0) (#[.slice (some ⟨g52, 0, none⟩) n cq52]) 24, bx (γ7 1) (#[.slice (some ⟨g52, 0, none⟩) n cq52]) 24, bx (γ7 0) (#[.slice (some ⟨b166, o166, none⟩) n cap]) 24, bx (γ5 0) (#[.int .i64 y105.vcpu]) 3, bx (γ4 3) (#[.slice (some ⟨g52, 0, none⟩) n cq52]) 24, bx (γ4 2) (#[.func (.func 41) #[] #[.pointer (some ⟨γ2 0, 0, none⟩)]]) 75, bx (γ4 1) (#[.int .i64 k]) 3, bx (γ4 0) (#[.slice (some ⟨b166, o166, none⟩) n cap]) 24, bx (γ2 0) (#[.bool y105.pending]) 4, bx (γ1 1) (#[.slice (some ⟨g52, 0, none⟩) n cq52]) 24, bx (γ1 0) (#[.slice (some ⟨b166, o166, none⟩) n cap]) 24, bx g52 ((cs52).setIfInBounds (0 + (posB l k) * 5 + 3) (.bool false)) 40]) ?_ (fun hm => ?_)
       rotate_left
       ·
        refine any_fork [0, 1] (by kernel_rfl) (by simp) (each_cons _ rfl ?_ (each_cons _ rfl ?_ (each_nil)))
        ·
         refine oq 1 [(0, .go (owns 0 0 1))] [4, 7, 21] [(19, .agg #[.slice (some ⟨g52, 0, none⟩) n cq52])] ([]) (fun _ => by kernel_rfl) al0 ?_
         refine ops_nil ?_
         refine done_any ?_
         refine any_fork [1, 3] (by kernel_rfl) (by simp) (each_cons _ rfl ?_ (each_cons _ rfl ?_ (each_nil)))
         ·
          refine oq 1 [(1, .go (owns 10 0 1))] [4, 19, 21] [(20, .bool y105.pending)] ([]) (fun _ => by kernel_rfl) al0 ?_
          refine ops_nil ?_
          refine done_any ?_
          refine any_one 3 _ (by kernel_rfl) rfl ?_
          refine om 1 [(3, .go (owns 11 0 1))] [4, 20, 21] (fun _ => []) (fun _ L => (L.set 11 (bx (γ1 1) (#[.slice (some ⟨g52, 0, none⟩) n cq52]) 24))) (fun _ => []) (fun _ => by kernel_rfl) (fun _ => al0) (fun _ => ?_)
          refine ops_nil ?_
          refine done_any ?_
          refine any_tk (f := 0) [4, 5] [] [4] [(5, .bool y105.pending), (6, .int .i64 0)] ([]) #[true, true, true, true, true, true] (by kernel_rfl) (by kernel_rfl) al0 ?_
          exact any_weak hm [4, 5, 6] (by kernel_rfl) rfl rfl rfl
         ·
          refine om 1 [(3, .go (owns 11 0 1))] [4, 7, 21] (fun _ => []) (fun _ L => (L.set 11 (bx (γ1 1) (#[.slice (some ⟨g52, 0, none⟩) n cq52]) 24))) (fun _ => []) (fun _ => by kernel_rfl) (fun _ => al0) (fun _ => ?_)
          refine ops_nil ?_
          refine done_any ?_
          refine any_one 1 _ (by kernel_rfl) rfl ?_
          refine oq 1 [(1, .go (owns 10 0 1))] [4, 21] [(20, .bool y105.pending)] ([]) (fun _ => by kernel_rfl) al0 ?_
          refine ops_nil ?_
          refine done_any ?_
          refine any_tk (f := 0) [4, 5] [] [4] [(5, .bool y105.pending), (6, .int .i64 0)] ([]) #[true, true, true, true, true, true] (by kernel_rfl) (by kernel_rfl) al0 ?_
          exact any_weak hm [4, 5, 6] (by kernel_rfl) rfl rfl rfl
        ·
         refine oq 1 [(1, .go (owns 10 0 1))] [4, 8, 21] [(20, .bool y105.pending)] ([]) (fun _ => by kernel_rfl) al0 ?_
         refine ops_nil ?_
         refine done_any ?_
         refine any_one 0 _ (by kernel_rfl) rfl ?_
         refine oq 1 [(0, .go (owns 0 0 1))] [4, 20, 21] [(19, .agg #[.slice (some ⟨g52, 0, none⟩) n cq52])] ([]) (fun _ => by kernel_rfl) al0 ?_
         refine ops_nil ?_
         refine done_any ?_
         refine any_one 3 _ (by kernel_rfl) rfl ?_
         refine om 1 [(3, .go (owns 11 0 1))] [4, 20, 21] (fun _ => []) (fun _ L => (L.set 11 (bx (γ1 1) (#[.slice (some ⟨g52, 0, none⟩) n cq52]) 24))) (fun _ => []) (fun _ => by kernel_rfl) (fun _ => al0) (fun _ => ?_)
         refine ops_nil ?_
         refine done_any ?_
         refine any_tk (f := 0) [4, 5] [] [4] [(5, .bool y105.pending), (6, .int .i64 0)] ([]) #[true, true, true, true, true, true] (by kernel_rfl) (by kernel_rfl) al0 ?_
         exact any_weak hm [4, 5, 6] (by kernel_rfl) rfl rfl rfl
       refine any_nil (by kernel_rfl) ?_
       refine done_seq ?_
       refine at_return (owns 11 0 1) (.tuple #[.agg #[.slice (some ⟨g52, 0, none⟩) n cq52], .bool y105.pending, .int .i64 0]) [] (by kernel_rfl) (by kernel_rfl) al0 ?_
       exact fun w' hw => by rw [clearV_ok q9 hg105, pos_of hg105]; exact ⟨_, _, _, _, rfl, (SlO.ofOwn (hOw52.put (x' := (⟨y105.num, y105.vcpu, y105.peer, false, y105.masked⟩ : Port)) hnq52 hy105 (f := 3) (by decide) rfl) (len_set hnq52)), hw.below, hw.tailN 13⟩
      ·
       refine calm_callD (.bool true) (by kernel_rfl) (by kernel_rfl) (by kernel_rfl) (fun args w => Try.call39 args w) (fun w hw => by have := due_d (⟨y105.num, y105.vcpu, y105.peer, y105.pending, y105.masked⟩ : Port) w; rw [show dueB (⟨y105.num, y105.vcpu, y105.peer, y105.pending, y105.masked⟩ : Port) = true from q212] at this; exact this) ?_
       refine cm 13 [(14, .go (outs b166 (o166 + (posB l y105.num) * 5 + 1) [.int .i64 y105.vcpu])), (18, .go (ownps 11 (0 + (posB l k) * 5 + 1) [.int .i64 y105.vcpu])), (19, .no)] [4, 8] [(60, .bool false)] (cellsP w b166 (o166 + (posB l y105.num) * 5 + 1) [.int .i64 y105.vcpu] ++ (acellsP ((cs52).setIfInBounds (0 + (posB l k) * 5 + 3) (.bool false)) (0 + (posB l k) * 5 + 1) [.int .i64 y105.vcpu] ++ ([¬ ((y105.vcpu : Int) ≠ (y105.vcpu : Int))]))) (by kernel_rfl) rfl (alA (rd_part (hsl.get (get_pos (ris_asc l 0 (right_ris q9)) (get_self hg105)).1) 1 _ rfl) (alA (rda_part (((hOw52.put (x' := (⟨y105.num, y105.vcpu, y105.peer, false, y105.masked⟩ : Port)) hnq52 hy105 (f := 3) (by decide) rfl).rdx (len_set hnq52) (get_set hy105))) 1 _ rfl) (al1 ((fun h => h rfl))))) ?_
       refine calm_nil' ?_
       refine done_seq ?_
       refine at_false (by kernel_rfl) ?_
       refine at_skip ?_
       refine done_seq ?_
       refine at_seq ?_
       refine aq [] [] [(6, .int .i64 0)] ([]) (fun _ => by kernel_rfl) al0 ?_
       refine done_seq ?_
       refine at_back ([]) (.int .i64 0) [] (by kernel_rfl) (by kernel_rfl) al0 ?_
       refine oq 1 [] [4, 7] [(8, .int .i64 0)] ([]) (fun _ => by kernel_rfl) al0 ?_
       refine ops_nil ?_
       refine done_seq ?_
       refine at_seq ?_
       refine aq [] [4, 7, 8] [(22, .bool false)] ([]) (fun _ => by kernel_rfl) al0 ?_
       refine done_seq ?_
       refine at_false (by kernel_rfl) ?_
       refine at_skip ?_
       refine done_seq ?_
       refine at_seq ?_
       refine am [(0, .go (owns 0 0 1)), (1, .go (owns 1 0 1))] [4] (fun _ => [(5, .int .i64 0)]) (fun _ L => (L.set 1 (bx (γ7 1) (#[.slice (some ⟨g52, 0, none⟩) n cq52]) 24))) (fun _ => []) (fun _ => by kernel_rfl) (fun _ => al0) (fun _ => ?_)
       refine done_seq ?_
       refine at_back (owns 1 0 1) (.tuple #[.agg #[.slice (some ⟨g52, 0, none⟩) n cq52], .int .i64 0]) [] (by kernel_rfl) (by kernel_rfl) al0 ?_
       refine om 6 [(7, .go (owns 0 0 1))] [6, 9] (fun γ260 => [(10, .pointer (some ⟨γ260 0, 0, none⟩)), (11, .int .i64 0)]) (fun γ260 L => bx (γ260 0) (#[.slice (some ⟨g52, 0, none⟩) n cq52]) 24 :: L) (fun γ260 => []) (fun _ => by kernel_rfl) (fun γ260 => al0) (fun γ260 => ?_)
       refine ops_nil ?_
       refine done_seq ?_
       refine at_seq ?_
       refine at_any (by kernel_rfl) ?_
       refine any_tk (f := 5) [2] [] [6, 9, 10] [(20, .int .i64 0)] ([]) #[false, false, true, false, false, false] (by kernel_rfl) (by kernel_rfl) al0 ?_
       refine any_cut 0 #[true, true, true, true, true, true] ([(6, .pointer (some ⟨γ4 3, 0, none⟩)), (7, .int .i64 0), (8, .int .i64 0)]) ([bx (γ260 0) (#[.slice (some ⟨g52, 0, none⟩) n cq52]) 24, bx (γ101 0) (#[.slice (some ⟨g52, 0, none⟩) n cq52]) 24, bx (γ7 1) (#[.slice (some ⟨g52, 0, none⟩) n cq52]) 24, bx (γ7 0) (#[.slice (some ⟨b166, o166, none⟩) n cap]) 24, bx (γ5 0) (#[.int .i64 0]) 3, bx (γ4 3) (#[.slice (some ⟨g52, 0, none⟩) n cq52]) 24, bx (γ4 2) (#[.func (.func 41) #[] #[.pointer (some ⟨γ2 0, 0, none⟩)]]) 75, bx (γ4 1) (#[.int .i64 k]) 3, bx (γ4 0) (#[.slice (some ⟨b166, o166, none⟩) n cap]) 24, bx (γ2 0) (#[.bool y105.pending]) 4, bx (γ1 1) (#[.slice none 0 0]) 24, bx (γ1 0) (#[.slice (some ⟨b166, o166, none⟩) n cap]) 24, bx g52 ((cs52).setIfInBounds (0 + (posB l k) * 5 + 3) (.bool false)) 40]) ?_ (fun hm => ?_)
       rotate_left
       ·
        refine any_fork [0, 1] (by kernel_rfl) (by simp) (each_cons _ rfl ?_ (each_cons _ rfl ?_ (each_nil)))
        ·
         refine oq 1 [(0, .go (owns 0 0 1))] [6, 9, 20] [(18, .agg #[.slice (some ⟨g52, 0, none⟩) n cq52])] ([]) (fun _ => by kernel_rfl) al0 ?_
         refine ops_nil ?_
         refine done_any ?_
         refine any_fork [1, 3] (by kernel_rfl) (by simp) (each_cons _ rfl ?_ (each_cons _ rfl ?_ (each_nil)))
         ·
          refine oq 1 [(1, .go (owns 4 0 1))] [6, 18, 20] [(19, .int .i64 0)] ([]) (fun _ => by kernel_rfl) al0 ?_
          refine ops_nil ?_
          refine done_any ?_
          refine any_one 3 _ (by kernel_rfl) rfl ?_
          refine om 1 [(3, .go (owns 5 0 1))] [6, 19, 20] (fun _ => []) (fun _ L => (L.set 5 (bx (γ4 3) (#[.slice (some ⟨g52, 0, none⟩) n cq52]) 24))) (fun _ => []) (fun _ => by kernel_rfl) (fun _ => al0) (fun _ => ?_)
          refine ops_nil ?_
          refine done_any ?_
          refine any_tk (f := 0) [4, 5] [] [6] [(7, .int .i64 0), (8, .int .i64 0)] ([]) #[true, true, true, true, true, true] (by kernel_rfl) (by kernel_rfl) al0 ?_
          exact any_weak hm [6, 7, 8] (by kernel_rfl) rfl rfl rfl
         ·
          refine om 1 [(3, .go (owns 5 0 1))] [6, 9, 20] (fun _ => []) (fun _ L => (L.set 5 (bx (γ4 3) (#[.slice (some ⟨g52, 0, none⟩) n cq52]) 24))) (fun _ => []) (fun _ => by kernel_rfl) (fun _ => al0) (fun _ => ?_)
          refine ops_nil ?_
          refine done_any ?_
          refine any_one 1 _ (by kernel_rfl) rfl ?_
          refine oq 1 [(1, .go (owns 4 0 1))] [6, 20] [(19, .int .i64 0)] ([]) (fun _ => by kernel_rfl) al0 ?_
          refine ops_nil ?_
          refine done_any ?_
          refine any_tk (f := 0) [4, 5] [] [6] [(7, .int .i64 0), (8, .int .i64 0)] ([]) #[true, true, true, true, true, true] (by kernel_rfl) (by kernel_rfl) al0 ?_
          exact any_weak hm [6, 7, 8] (by kernel_rfl) rfl rfl rfl
        ·
         refine oq 1 [(1, .go (owns 4 0 1))] [6, 10, 20] [(19, .int .i64 0)] ([]) (fun _ => by kernel_rfl) al0 ?_
         refine ops_nil ?_
         refine done_any ?_
         refine any_one 0 _ (by kernel_rfl) rfl ?_
         refine oq 1 [(0, .go (owns 0 0 1))] [6, 19, 20] [(18, .agg #[.slice (some ⟨g52, 0, none⟩) n cq52])] ([]) (fun _ => by kernel_rfl) al0 ?_
         refine ops_nil ?_
         refine done_any ?_
         refine any_one 3 _ (by kernel_rfl) rfl ?_
         refine om 1 [(3, .go (owns 5 0 1))] [6, 19, 20] (fun _ => []) (fun _ L => (L.set 5 (bx (γ4 3) (#[.slice (some ⟨g52, 0, none⟩) n cq52]) 24))) (fun _ => []) (fun _ => by kernel_rfl) (fun _ => al0) (fun _ => ?_)
         refine ops_nil ?_
         refine done_any ?_
         refine any_tk (f := 0) [4, 5] [] [6] [(7, .int .i64 0), (8, .int .i64 0)] ([]) #[true, true, true, true, true, true] (by kernel_rfl) (by kernel_rfl) al0 ?_
         exact any_weak hm [6, 7, 8] (by kernel_rfl) rfl rfl rfl
       refine any_nil (by kernel_rfl) ?_
       refine done_seq ?_
       refine at_back (owns 5 0 1) (.tuple #[.agg #[.slice (some ⟨g52, 0, none⟩) n cq52], .int .i64 0, .int .i64 0]) [] (by kernel_rfl) (by kernel_rfl) al0 ?_
       refine om 8 [(9, .go (owns 0 0 1))] [4, 7] (fun γ278 => [(8, .pointer (some ⟨γ278 0, 0, none⟩)), (10, .int .i64 0)]) (fun γ278 L => bx (γ278 0) (#[.slice (some ⟨g52, 0, none⟩) n cq52]) 24 :: L) (fun γ278 => []) (fun _ => by kernel_rfl) (fun γ278 => al0) (fun γ278 => ?_)
       refine ops_nil ?_
       refine done_seq ?_
       refine at_seq ?_
       refine at_any (by kernel_rfl) ?_
       refine any_tk (f := 5) [2] [] [4, 7, 8] [(21, .int .i64 0)] ([]) #[false, false, true, false, false, false] (by kernel_rfl) (by kernel_rfl) al0 ?_
       refine any_cut 0 #[true, true, true, true, true, true] ([(4, .pointer (some ⟨γ1 1, 0, none⟩)), (5, .bool y105.pending), (6, .int .i64 0)]) ([bx (γ278 0) (#[.slice (some ⟨g52, 0, none⟩) n cq52]) 24, bx (γ260 0) (#[.slice (some ⟨g52, 0, none⟩) n cq52]) 24, bx (γ101 0) (#[.slice (some ⟨g52, 0, none⟩) n cq52]) 24, bx (γ7 1) (#[.slice (some ⟨g52, 0, none⟩) n cq52]) 24, bx (γ7 0) (#[.slice (some ⟨b166, o166, none⟩) n cap]) 24, bx (γ5 0) (#[.int .i64 0]) 3, bx (γ4 3) (#[.slice (some ⟨g52, 0, none⟩) n cq52]) 24, bx (γ4 2) (#[.func (.func 41) #[] #[.pointer (some ⟨γ2 0, 0, none⟩)]]) 75, bx (γ4 1) (#[.int .i64 k]) 3, bx (γ4 0) (#[.slice (some ⟨b166, o166, none⟩) n cap]) 24, bx (γ2 0) (#[.bool y105.pending]) 4, bx (γ1 1) (#[.slice (some ⟨g52, 0, none⟩) n cq52]) 24, bx (γ1 0) (#[.slice (some ⟨b166, o166, none⟩) n cap]) 24, bx g52 ((cs52).setIfInBounds (0 + (posB l k) * 5 + 3) (.bool false)) 40]) ?_ (fun hm => ?_)
       rotate_left
       ·
        refine any_fork [0, 1] (by kernel_rfl) (by simp) (each_cons _ rfl ?_ (each_cons _ rfl ?_ (each_nil)))
        ·
         refine oq 1 [(0, .go (owns 0 0 1))] [4, 7, 21] [(19, .agg #[.slice (some ⟨g52, 0, none⟩) n cq52])] ([]) (fun _ => by kernel_rfl) al0 ?_
         refine ops_nil ?_
         refine done_any ?_
         refine any_fork [1, 3] (by kernel_rfl) (by simp) (each_cons _ rfl ?_ (each_cons _ rfl ?_ (each_nil)))
         ·
          refine oq 1 [(1, .go (owns 10 0 1))] [4, 19, 21] [(20, .bool y105.pending)] ([]) (fun _ => by kernel_rfl) al0 ?_
          refine ops_nil ?_
          refine done_any ?_
          refine any_one 3 _ (by kernel_rfl) rfl ?_
          refine om 1 [(3, .go (owns 11 0 1))] [4, 20, 21] (fun _ => []) (fun _ L => (L.set 11 (bx (γ1 1) (#[.slice (some ⟨g52, 0, none⟩) n cq52]) 24))) (fun _ => []) (fun _ => by kernel_rfl) (fun _ => al0) (fun _ => ?_)
          refine ops_nil ?_
          refine done_any ?_
          refine any_tk (f := 0) [4, 5] [] [4] [(5, .bool y105.pending), (6, .int .i64 0)] ([]) #[true, true, true, true, true, true] (by kernel_rfl) (by kernel_rfl) al0 ?_
          exact any_weak hm [4, 5, 6] (by kernel_rfl) rfl rfl rfl
         ·
          refine om 1 [(3, .go (owns 11 0 1))] [4, 7, 21] (fun _ => []) (fun _ L => (L.set 11 (bx (γ1 1) (#[.slice (some ⟨g52, 0, none⟩) n cq52]) 24))) (fun _ => []) (fun _ => by kernel_rfl) (fun _ => al0) (fun _ => ?_)
          refine ops_nil ?_
          refine done_any ?_
          refine any_one 1 _ (by kernel_rfl) rfl ?_
          refine oq 1 [(1, .go (owns 10 0 1))] [4, 21] [(20, .bool y105.pending)] ([]) (fun _ => by kernel_rfl) al0 ?_
          refine ops_nil ?_
          refine done_any ?_
          refine any_tk (f := 0) [4, 5] [] [4] [(5, .bool y105.pending), (6, .int .i64 0)] ([]) #[true, true, true, true, true, true] (by kernel_rfl) (by kernel_rfl) al0 ?_
          exact any_weak hm [4, 5, 6] (by kernel_rfl) rfl rfl rfl
        ·
         refine oq 1 [(1, .go (owns 10 0 1))] [4, 8, 21] [(20, .bool y105.pending)] ([]) (fun _ => by kernel_rfl) al0 ?_
         refine ops_nil ?_
         refine done_any ?_
         refine any_one 0 _ (by kernel_rfl) rfl ?_
         refine oq 1 [(0, .go (owns 0 0 1))] [4, 20, 21] [(19, .agg #[.slice (some ⟨g52, 0, none⟩) n cq52])] ([]) (fun _ => by kernel_rfl) al0 ?_
         refine ops_nil ?_
         refine done_any ?_
         refine any_one 3 _ (by kernel_rfl) rfl ?_
         refine om 1 [(3, .go (owns 11 0 1))] [4, 20, 21] (fun _ => []) (fun _ L => (L.set 11 (bx (γ1 1) (#[.slice (some ⟨g52, 0, none⟩) n cq52]) 24))) (fun _ => []) (fun _ => by kernel_rfl) (fun _ => al0) (fun _ => ?_)
         refine ops_nil ?_
         refine done_any ?_
         refine any_tk (f := 0) [4, 5] [] [4] [(5, .bool y105.pending), (6, .int .i64 0)] ([]) #[true, true, true, true, true, true] (by kernel_rfl) (by kernel_rfl) al0 ?_
         exact any_weak hm [4, 5, 6] (by kernel_rfl) rfl rfl rfl
       refine any_nil (by kernel_rfl) ?_
       refine done_seq ?_
       refine at_return (owns 11 0 1) (.tuple #[.agg #[.slice (some ⟨g52, 0, none⟩) n cq52], .bool y105.pending, .int .i64 0]) [] (by kernel_rfl) (by kernel_rfl) al0 ?_
       exact fun w' hw => by rw [clearV_ok q9 hg105, pos_of hg105]; exact ⟨_, _, _, _, rfl, (SlO.ofOwn (hOw52.put (x' := (⟨y105.num, y105.vcpu, y105.peer, false, y105.masked⟩ : Port)) hnq52 hy105 (f := 3) (by decide) rfl) (len_set hnq52)), hw.below, hw.tailN 13⟩
end Go.Proofs.Ytfhlmijdokfdpaa
