/- Texts of this proof, one behind the other. -/
import Derived.Test.YtfhlmijdokfdpaaZc
import Derived.Test.YtfhlmijdokfdpaaZb
import Derived.Test.YtfhlmijdokfdpaaZd
import Derived.MapKept
/-! event.Raise. -/
namespace Go.Proofs.Ytfhlmijdokfdpaa
open Go Go.RowKit

set_option maxRecDepth 100000 in
theorem raise_d (p : Option Addr) (n cap : Nat) (l : List Port) (k : Int) (w : World)
 (hsl : Sv w p l) (hn : n = l.length) (hb : n ≤ 1000)
 : Calls Try.prog 44 #[.agg #[.slice p n cap], .int .i64 k] w fun e w' => ∃ q m capq Y, e = .returned (.tuple #[.agg #[.slice q m capq], .int .i64 (turnV l k (fun x => (⟨x.num, x.vcpu, x.peer, true, x.masked⟩ : Port))).2.1, .int .i64 (turnV l k (fun x => (⟨x.num, x.vcpu, x.peer, true, x.masked⟩ : Port))).2.2]) ∧ SlO 40 Y q m capq (turnV l k (fun x => (⟨x.num, x.vcpu, x.peer, true, x.masked⟩ : Port))).1 ∧ Below w.heap.size w w' ∧ Hs w Y w' := by
 refine enter (Hs.start w) Try.func44 rfl Try.ntmps44 rfl ?_
 refine at_seq ?_
 refine am [] [1] (fun γ1 => [(2, .pointer (some ⟨γ1 0, 0, none⟩)), (4, .pointer (some ⟨γ1 1, 0, none⟩))]) (fun γ1 L => bx (γ1 1) (#[.slice none 0 0]) 24 :: bx (γ1 0) (#[.slice p n cap]) 24 :: L) (fun γ1 => []) (fun _ => by kernel_rfl) (fun γ1 => al0) (fun γ1 => ?_)
 refine done_seq ?_
 refine at_seq ?_
 refine at_ops ?_
 refine oq 2 [(0, .go (owns 1 0 1))] [4] [(7, .agg #[.slice p n cap]), (8, .int .i64 k)] ([]) (fun _ => by kernel_rfl) al0 ?_
 refine ops_inline (g := 40) (args := #[.agg #[.slice p n cap], .int .i64 k, .func (.func 67) #[] #[]]) (by kernel_rfl) (by kernel_rfl) (by kernel_rfl) (fun args w => Try.call40 args w) Try.func40 rfl Try.ntmps40 rfl ?_
 refine at_seq ?_
 refine am [] [] (fun γ3 => [(3, .pointer (some ⟨γ3 0, 0, none⟩)), (4, .pointer (some ⟨γ3 1, 0, none⟩)), (5, .pointer (some ⟨γ3 2, 0, none⟩)), (6, .pointer (some ⟨γ3 3, 0, none⟩))]) (fun γ3 L => bx (γ3 3) (#[.slice none 0 0]) 24 :: bx (γ3 2) (#[.func (.func 67) #[] #[]]) 75 :: bx (γ3 1) (#[.int .i64 k]) 3 :: bx (γ3 0) (#[.slice p n cap]) 24 :: L) (fun γ3 => []) (fun _ => by kernel_rfl) (fun γ3 => al0) (fun γ3 => ?_)
 refine done_seq ?_
 refine at_seq ?_
 refine am [(1, .go (owns 0 0 1))] [3, 4, 5, 6] (fun γ4 => [(9, .pointer (some ⟨γ4 0, 0, none⟩))]) (fun γ4 L => bx (γ4 0) (#[.int .i64 0]) 3 :: L) (fun γ4 => []) (fun _ => by kernel_rfl) (fun γ4 => al0) (fun γ4 => ?_)
 refine done_seq ?_
 refine at_seq ?_
 refine at_ops ?_
 refine oq 2 [(0, .go (owns 4 0 1))] [6, 9] [(13, .agg #[.slice p n cap]), (14, .func (.func 61) #[] #[.pointer (some ⟨γ3 1, 0, none⟩), .pointer (some ⟨γ3 2, 0, none⟩), .pointer (some ⟨γ3 0, 0, none⟩), .pointer (some ⟨γ4 0, 0, none⟩)])] ([]) (fun _ => by kernel_rfl) al0 ?_
 refine ops_inline (g := 54) (args := #[.agg #[.slice p n cap], .func (.func 61) #[] #[.pointer (some ⟨γ3 1, 0, none⟩), .pointer (some ⟨γ3 2, 0, none⟩), .pointer (some ⟨γ3 0, 0, none⟩), .pointer (some ⟨γ4 0, 0, none⟩)]]) (by kernel_rfl) (by kernel_rfl) (by kernel_rfl) (fun args w => Try.call54 args w) Try.func54 rfl Try.ntmps54 rfl ?_
 refine at_seq ?_
 refine am [] [1] (fun γ6 => [(2, .pointer (some ⟨γ6 0, 0, none⟩)), (4, .pointer (some ⟨γ6 1, 0, none⟩))]) (fun γ6 L => bx (γ6 1) (#[.slice none 0 0]) 24 :: bx (γ6 0) (#[.slice p n cap]) 24 :: L) (fun γ6 => []) (fun _ => by kernel_rfl) (fun γ6 => al0) (fun γ6 => ?_)
 refine done_seq ?_
 refine at_seq ?_
 refine at_seq ?_
 refine at_ops ?_
 refine oq 1 [(0, .go (owns 1 0 1))] [1, 2, 4] [(9, .agg #[.slice p n cap])] ([]) (fun _ => by kernel_rfl) al0 ?_
 rcases q8 : rightB l with _ | _
 ·
  refine ops_callD (.int .i64 260) (by kernel_rfl) (by kernel_rfl) (by kernel_rfl) (fun args w => Try.call16 args w) (fun w hw => by have := check_d p n cap l w (hsl.kept hw.below) hn hb; rw [q8] at this; exact this) ?_
  refine oq 1 [] [1, 2, 4] [(6, .int .i64 260)] ([]) (fun _ => by kernel_rfl) al0 ?_
  refine ops_nil ?_
  refine done_seq ?_
  refine at_seq ?_
  refine aq [] [1, 2, 4, 6] [(12, .bool true)] ([]) (fun _ => by kernel_rfl) al0 ?_
  refine done_seq ?_
  refine at_true (by kernel_rfl) ?_
  refine at_seq ?_
  refine aq [(2, .go (owns 0 0 1))] [4] [(5, .int .i64 260)] ([]) (fun _ => by kernel_rfl) al0 ?_
  refine done_seq ?_
  refine at_back (owns 0 0 1) (.tuple #[.agg #[.slice none 0 0], .int .i64 260]) [] (by kernel_rfl) (by kernel_rfl) al0 ?_
  refine om 6 [(7, .go (owns 0 0 1))] [6, 9] (fun γ12 => [(10, .pointer (some ⟨γ12 0, 0, none⟩)), (11, .int .i64 260)]) (fun γ12 L => bx (γ12 0) (#[.slice none 0 0]) 24 :: L) (fun γ12 => []) (fun _ => by kernel_rfl) (fun γ12 => al0) (fun γ12 => ?_)
  refine ops_nil ?_
  refine done_seq ?_
  refine at_seq ?_
  refine at_any (by kernel_rfl) ?_
  refine any_tk (f := 5) [2] [] [6, 9, 10] [(20, .int .i64 260)] ([]) #[false, false, true, false, false, false] (by kernel_rfl) (by kernel_rfl) al0 ?_
  refine any_cut 0 #[true, true, true, true, true, true] ([(6, .pointer (some ⟨γ3 3, 0, none⟩)), (7, .int .i64 0), (8, .int .i64 260)]) ([bx (γ12 0) (#[.slice none 0 0]) 24, bx (γ6 1) (#[.slice none 0 0]) 24, bx (γ6 0) (#[.slice p n cap]) 24, bx (γ4 0) (#[.int .i64 0]) 3, bx (γ3 3) (#[.slice none 0 0]) 24, bx (γ3 2) (#[.func (.func 67) #[] #[]]) 75, bx (γ3 1) (#[.int .i64 k]) 3, bx (γ3 0) (#[.slice p n cap]) 24, bx (γ1 1) (#[.slice none 0 0]) 24, bx (γ1 0) (#[.slice p n cap]) 24]) ?_ (fun hm => ?_)
  rotate_left
  ·
   refine any_fork [0, 1] (by kernel_rfl) (by simp) (each_cons _ rfl ?_ (each_cons _ rfl ?_ (each_nil)))
   ·
    refine oq 1 [(0, .go (owns 0 0 1))] [6, 9, 20] [(18, .agg #[.slice none 0 0])] ([]) (fun _ => by kernel_rfl) al0 ?_
    refine ops_nil ?_
    refine done_any ?_
    refine any_fork [1, 3] (by kernel_rfl) (by simp) (each_cons _ rfl ?_ (each_cons _ rfl ?_ (each_nil)))
    ·
     refine oq 1 [(1, .go (owns 3 0 1))] [6, 18, 20] [(19, .int .i64 0)] ([]) (fun _ => by kernel_rfl) al0 ?_
     refine ops_nil ?_
     refine done_any ?_
     refine any_one 3 _ (by kernel_rfl) rfl ?_
     refine oq 1 [(3, .go (owns 4 0 1))] [6, 19, 20] [] ([]) (fun _ => by kernel_rfl) al0 ?_
     refine ops_nil ?_
     refine done_any ?_
     refine any_tk (f := 0) [4, 5] [] [6] [(7, .int .i64 0), (8, .int .i64 260)] ([]) #[true, true, true, true, true, true] (by kernel_rfl) (by kernel_rfl) al0 ?_
     exact any_weak hm [6, 7, 8] (by kernel_rfl) rfl rfl rfl
    ·
     refine oq 1 [(3, .go (owns 4 0 1))] [6, 9, 20] [] ([]) (fun _ => by kernel_rfl) al0 ?_
     refine ops_nil ?_
     refine done_any ?_
     refine any_one 1 _ (by kernel_rfl) rfl ?_
     refine oq 1 [(1, .go (owns 3 0 1))] [6, 20] [(19, .int .i64 0)] ([]) (fun _ => by kernel_rfl) al0 ?_
     refine ops_nil ?_
     refine done_any ?_
     refine any_tk (f := 0) [4, 5] [] [6] [(7, .int .i64 0), (8, .int .i64 260)] ([]) #[true, true, true, true, true, true] (by kernel_rfl) (by kernel_rfl) al0 ?_
     exact any_weak hm [6, 7, 8] (by kernel_rfl) rfl rfl rfl
   ·
    refine oq 1 [(1, .go (owns 3 0 1))] [6, 10, 20] [(19, .int .i64 0)] ([]) (fun _ => by kernel_rfl) al0 ?_
    refine ops_nil ?_
    refine done_any ?_
    refine any_one 0 _ (by kernel_rfl) rfl ?_
    refine oq 1 [(0, .go (owns 0 0 1))] [6, 19, 20] [(18, .agg #[.slice none 0 0])] ([]) (fun _ => by kernel_rfl) al0 ?_
    refine ops_nil ?_
    refine done_any ?_
    refine any_one 3 _ (by kernel_rfl) rfl ?_
    refine oq 1 [(3, .go (owns 4 0 1))] [6, 19, 20] [] ([]) (fun _ => by kernel_rfl) al0 ?_
    refine ops_nil ?_
    refine done_any ?_
    refine any_tk (f := 0) [4, 5] [] [6] [(7, .int .i64 0), (8, .int .i64 260)] ([]) #[true, true, true, true, true, true] (by kernel_rfl) (by kernel_rfl) al0 ?_
    exact any_weak hm [6, 7, 8] (by kernel_rfl) rfl rfl rfl
  refine any_nil (by kernel_rfl) ?_
  refine done_seq ?_
  refine at_back (owns 4 0 1) (.tuple #[.agg #[.slice none 0 0], .int .i64 0, .int .i64 260]) [] (by kernel_rfl) (by kernel_rfl) al0 ?_
  refine oq 6 [(6, .go (owns 8 0 1))] [4] [(5, .int .i64 0), (6, .int .i64 260)] ([]) (fun _ => by kernel_rfl) al0 ?_
  refine ops_nil ?_
  refine done_seq ?_
  refine at_return (owns 8 0 1) (.tuple #[.agg #[.slice none 0 0], .int .i64 0, .int .i64 260]) [] (by kernel_rfl) (by kernel_rfl) al0 ?_
  exact fun w' hw => by rw [turnV_bad q8]; exact ⟨none, 0, 0, [], rfl, SlO.nil, hw.below, hw.sub (List.nil_sublist _)⟩
 ·
  refine ops_callD (.int .i64 0) (by kernel_rfl) (by kernel_rfl) (by kernel_rfl) (fun args w => Try.call16 args w) (fun w hw => by have := check_d p n cap l w (hsl.kept hw.below) hn hb; rw [q8] at this; exact this) ?_
  refine oq 1 [] [1, 2, 4] [(6, .int .i64 0)] ([]) (fun _ => by kernel_rfl) al0 ?_
  refine ops_nil ?_
  refine done_seq ?_
  refine at_seq ?_
  refine aq [] [1, 2, 4, 6] [(12, .bool false)] ([]) (fun _ => by kernel_rfl) al0 ?_
  refine done_seq ?_
  refine at_false (by kernel_rfl) ?_
  refine at_skip ?_
  refine done_seq ?_
  refine at_seq ?_
  refine at_ops ?_
  refine oq 2 [(1, .go (owns 1 0 1))] [1, 4] [(16, .slice p n cap)] ([]) (fun _ => by kernel_rfl) al0 ?_
  refine ops_call (fun v L' => ∃ q capq Y, v = .slice q n capq ∧ L' = List.take 9 ([bx (γ6 1) (#[.slice none 0 0]) 24, bx (γ6 0) (#[.slice p n cap]) 24, bx (γ4 0) (#[.int .i64 0]) 3, bx (γ3 3) (#[.slice none 0 0]) 24, bx (γ3 2) (#[.func (.func 67) #[] #[]]) 75, bx (γ3 1) (#[.int .i64 k]) 3, bx (γ3 0) (#[.slice p n cap]) 24, bx (γ1 1) (#[.slice none 0 0]) 24, bx (γ1 0) (#[.slice p n cap]) 24]) ++ (Y ++ List.drop 9 ([bx (γ6 1) (#[.slice none 0 0]) 24, bx (γ6 0) (#[.slice p n cap]) 24, bx (γ4 0) (#[.int .i64 0]) 3, bx (γ3 3) (#[.slice none 0 0]) 24, bx (γ3 2) (#[.func (.func 67) #[] #[]]) 75, bx (γ3 1) (#[.int .i64 k]) 3, bx (γ3 0) (#[.slice p n cap]) 24, bx (γ1 1) (#[.slice none 0 0]) 24, bx (γ1 0) (#[.slice p n cap]) 24])) ∧ SlO 40 Y q n capq l) (by kernel_rfl) (by kernel_rfl) (by kernel_rfl) (fun args w => Try.call72 args w) (fun w hw => (clone_d p n cap l w (hsl.kept hw.below) hn (by omega)).mono fun e w' ⟨q, capq, Y, he, hO, hb, hY⟩ => ⟨_, _, he, ⟨q, capq, Y, rfl, rfl, hO⟩, hw.join hb hY 9⟩) ?_
  rintro v34 L34 ⟨q34, cq34, Y34, rfl, rfl, hO34⟩
  have hnq34 := hO34.len
  rcases hO34.parts with ⟨rfl, rfl, hz34⟩ | ⟨g34, cs34, rfl, rfl, hOw34⟩
  ·
   refine om 3 [(5, .go (owns 0 0 1))] [1, 4] (fun γ35 => [(7, .pointer (some ⟨γ35 0, 0, none⟩))]) (fun γ35 L => bx (γ35 0) (#[.slice none n cq34]) 24 :: L) (fun γ35 => []) (fun _ => by kernel_rfl) (fun γ35 => al0) (fun γ35 => ?_)
   refine ops_nil ?_
   refine done_seq ?_
   refine at_seq ?_
   refine at_seq ?_
   refine at_ops ?_
   refine oq 1 [] [4, 7] [(19, .func (.func 61) #[] #[.pointer (some ⟨γ3 1, 0, none⟩), .pointer (some ⟨γ3 2, 0, none⟩), .pointer (some ⟨γ3 0, 0, none⟩), .pointer (some ⟨γ4 0, 0, none⟩)])] ([]) (fun _ => by kernel_rfl) al0 ?_
   refine ops_inline (g := 61) (args := #[.pointer (some ⟨γ35 0, 0, none⟩), .pointer (some ⟨γ3 1, 0, none⟩), .pointer (some ⟨γ3 2, 0, none⟩), .pointer (some ⟨γ3 0, 0, none⟩), .pointer (some ⟨γ4 0, 0, none⟩)]) (by kernel_rfl) (by kernel_rfl) (by kernel_rfl) (fun args w => Try.call61 args w) Try.func61 rfl Try.ntmps61 rfl ?_
   refine at_seq ?_
   refine aq [] [0, 1, 2, 3, 4] [] ([]) (fun _ => by kernel_rfl) al0 ?_
   refine done_seq ?_
   refine at_seq ?_
   refine at_calm rfl (by kernel_rfl) (by kernel_rfl) ?_
   refine cm 5 [(3, .go (owns 0 0 1)), (4, .go (owns 6 0 1))] [0, 2, 3, 4] [(14, .slice none n cq34), (15, .int .i64 k)] ([]) (by kernel_rfl) rfl al0 ?_
   rcases hg39 : getB l k with _ | y39
   ·
    refine calm_callD (.pointer none) (by kernel_rfl) (by kernel_rfl) (by kernel_rfl) (fun args w => Try.call32 args w) (fun w hw => by have := port_d none n cq34 l k w (hO34.atN (A := []) hw) hnq34 (by omega) (ris_all (right_ris q8)) (ris_asc l 0 (right_ris q8)); rw [portV_none hg39] at this; exact this) ?_
    refine cm 1 [] [0, 2, 3, 4] [(7, .pointer none)] ([]) (by kernel_rfl) rfl al0 ?_
    refine calm_nil' ?_
    refine done_seq ?_
    refine at_seq ?_
    refine at_seq ?_
    refine aq [] [0, 2, 3, 4, 7] [(18, .bool true)] ([]) (fun _ => by kernel_rfl) al0 ?_
    refine done_seq ?_
    refine at_true (by kernel_rfl) ?_
    refine at_seq ?_
    refine aq [] [] [(6, .int .i64 4)] ([]) (fun _ => by kernel_rfl) al0 ?_
    refine done_seq ?_
    refine at_back ([]) (.int .i64 4) [] (by kernel_rfl) (by kernel_rfl) al0 ?_
    refine oq 1 [] [4, 7] [(8, .int .i64 4)] ([]) (fun _ => by kernel_rfl) al0 ?_
    refine ops_nil ?_
    refine done_seq ?_
    refine at_seq ?_
    refine aq [] [4, 7, 8] [(22, .bool true)] ([]) (fun _ => by kernel_rfl) al0 ?_
    refine done_seq ?_
    refine at_true (by kernel_rfl) ?_
    refine at_seq ?_
    refine aq [(2, .go (owns 1 0 1))] [4] [(5, .int .i64 4)] ([]) (fun _ => by kernel_rfl) al0 ?_
    refine done_seq ?_
    refine at_back (owns 1 0 1) (.tuple #[.agg #[.slice none 0 0], .int .i64 4]) [] (by kernel_rfl) (by kernel_rfl) al0 ?_
    refine om 6 [(7, .go (owns 0 0 1))] [6, 9] (fun γ46 => [(10, .pointer (some ⟨γ46 0, 0, none⟩)), (11, .int .i64 4)]) (fun γ46 L => bx (γ46 0) (#[.slice none 0 0]) 24 :: L) (fun γ46 => []) (fun _ => by kernel_rfl) (fun γ46 => al0) (fun γ46 => ?_)
    refine ops_nil ?_
    refine done_seq ?_
    refine at_seq ?_
    refine at_any (by kernel_rfl) ?_
    refine any_tk (f := 5) [2] [] [6, 9, 10] [(20, .int .i64 4)] ([]) #[false, false, true, false, false, false] (by kernel_rfl) (by kernel_rfl) al0 ?_
    refine any_cut 0 #[true, true, true, true, true, true] ([(6, .pointer (some ⟨γ3 3, 0, none⟩)), (7, .int .i64 0), (8, .int .i64 4)]) ([bx (γ46 0) (#[.slice none 0 0]) 24, bx (γ35 0) (#[.slice none n cq34]) 24, bx (γ6 1) (#[.slice none 0 0]) 24, bx (γ6 0) (#[.slice p n cap]) 24, bx (γ4 0) (#[.int .i64 0]) 3, bx (γ3 3) (#[.slice none 0 0]) 24, bx (γ3 2) (#[.func (.func 67) #[] #[]]) 75, bx (γ3 1) (#[.int .i64 k]) 3, bx (γ3 0) (#[.slice p n cap]) 24, bx (γ1 1) (#[.slice none 0 0]) 24, bx (γ1 0) (#[.slice p n cap]) 24]) ?_ (fun hm => ?_)
    rotate_left
    ·
     refine any_fork [0, 1] (by kernel_rfl) (by simp) (each_cons _ rfl ?_ (each_cons _ rfl ?_ (each_nil)))
     ·
      refine oq 1 [(0, .go (owns 0 0 1))] [6, 9, 20] [(18, .agg #[.slice none 0 0])] ([]) (fun _ => by kernel_rfl) al0 ?_
      refine ops_nil ?_
      refine done_any ?_
      refine any_fork [1, 3] (by kernel_rfl) (by simp) (each_cons _ rfl ?_ (each_cons _ rfl ?_ (each_nil)))
      ·
       refine oq 1 [(1, .go (owns 4 0 1))] [6, 18, 20] [(19, .int .i64 0)] ([]) (fun _ => by kernel_rfl) al0 ?_
       refine ops_nil ?_
       refine done_any ?_
       refine any_one 3 _ (by kernel_rfl) rfl ?_
       refine oq 1 [(3, .go (owns 5 0 1))] [6, 19, 20] [] ([]) (fun _ => by kernel_rfl) al0 ?_
       refine ops_nil ?_
       refine done_any ?_
       refine any_tk (f := 0) [4, 5] [] [6] [(7, .int .i64 0), (8, .int .i64 4)] ([]) #[true, true, true, true, true, true] (by kernel_rfl) (by kernel_rfl) al0 ?_
       exact any_weak hm [6, 7, 8] (by kernel_rfl) rfl rfl rfl
      ·
       refine oq 1 [(3, .go (owns 5 0 1))] [6, 9, 20] [] ([]) (fun _ => by kernel_rfl) al0 ?_
       refine ops_nil ?_
       refine done_any ?_
       refine any_one 1 _ (by kernel_rfl) rfl ?_
       refine oq 1 [(1, .go (owns 4 0 1))] [6, 20] [(19, .int .i64 0)] ([]) (fun _ => by kernel_rfl) al0 ?_
       refine ops_nil ?_
       refine done_any ?_
       refine any_tk (f := 0) [4, 5] [] [6] [(7, .int .i64 0), (8, .int .i64 4)] ([]) #[true, true, true, true, true, true] (by kernel_rfl) (by kernel_rfl) al0 ?_
       exact any_weak hm [6, 7, 8] (by kernel_rfl) rfl rfl rfl
     ·
      refine oq 1 [(1, .go (owns 4 0 1))] [6, 10, 20] [(19, .int .i64 0)] ([]) (fun _ => by kernel_rfl) al0 ?_
      refine ops_nil ?_
      refine done_any ?_
      refine any_one 0 _ (by kernel_rfl) rfl ?_
      refine oq 1 [(0, .go (owns 0 0 1))] [6, 19, 20] [(18, .agg #[.slice none 0 0])] ([]) (fun _ => by kernel_rfl) al0 ?_
      refine ops_nil ?_
      refine done_any ?_
      refine any_one 3 _ (by kernel_rfl) rfl ?_
      refine oq 1 [(3, .go (owns 5 0 1))] [6, 19, 20] [] ([]) (fun _ => by kernel_rfl) al0 ?_
      refine ops_nil ?_
      refine done_any ?_
      refine any_tk (f := 0) [4, 5] [] [6] [(7, .int .i64 0), (8, .int .i64 4)] ([]) #[true, true, true, true, true, true] (by kernel_rfl) (by kernel_rfl) al0 ?_
      exact any_weak hm [6, 7, 8] (by kernel_rfl) rfl rfl rfl
    refine any_nil (by kernel_rfl) ?_
    refine done_seq ?_
    refine at_back (owns 5 0 1) (.tuple #[.agg #[.slice none 0 0], .int .i64 0, .int .i64 4]) [] (by kernel_rfl) (by kernel_rfl) al0 ?_
    refine oq 6 [(6, .go (owns 9 0 1))] [4] [(5, .int .i64 0), (6, .int .i64 4)] ([]) (fun _ => by kernel_rfl) al0 ?_
    refine ops_nil ?_
    refine done_seq ?_
    refine at_return (owns 9 0 1) (.tuple #[.agg #[.slice none 0 0], .int .i64 0, .int .i64 4]) [] (by kernel_rfl) (by kernel_rfl) al0 ?_
    exact fun w' hw => by rw [turnV_none q8 hg39]; exact ⟨none, 0, 0, [], rfl, SlO.nil, hw.below, hw.sub (List.nil_sublist _)⟩
   ·
    have hy39 := (get_pos (ris_asc l 0 (right_ris q8)) hg39).1
    exact absurd (List.getElem?_eq_some_iff.1 hy39).1 (by omega)
  ·
   refine om 3 [(5, .go (owns 0 0 1))] [1, 4] (fun γ66 => [(7, .pointer (some ⟨γ66 0, 0, none⟩))]) (fun γ66 L => bx (γ66 0) (#[.slice (some ⟨g34, 0, none⟩) n cq34]) 24 :: L) (fun γ66 => []) (fun _ => by kernel_rfl) (fun γ66 => al0) (fun γ66 => ?_)
   refine ops_nil ?_
   refine done_seq ?_
   refine at_seq ?_
   refine at_seq ?_
   refine at_ops ?_
   refine oq 1 [] [4, 7] [(19, .func (.func 61) #[] #[.pointer (some ⟨γ3 1, 0, none⟩), .pointer (some ⟨γ3 2, 0, none⟩), .pointer (some ⟨γ3 0, 0, none⟩), .pointer (some ⟨γ4 0, 0, none⟩)])] ([]) (fun _ => by kernel_rfl) al0 ?_
   refine ops_inline (g := 61) (args := #[.pointer (some ⟨γ66 0, 0, none⟩), .pointer (some ⟨γ3 1, 0, none⟩), .pointer (some ⟨γ3 2, 0, none⟩), .pointer (some ⟨γ3 0, 0, none⟩), .pointer (some ⟨γ4 0, 0, none⟩)]) (by kernel_rfl) (by kernel_rfl) (by kernel_rfl) (fun args w => Try.call61 args w) Try.func61 rfl Try.ntmps61 rfl ?_
   refine at_seq ?_
   refine aq [] [0, 1, 2, 3, 4] [] ([]) (fun _ => by kernel_rfl) al0 ?_
   refine done_seq ?_
   refine at_seq ?_
   refine at_calm rfl (by kernel_rfl) (by kernel_rfl) ?_
   refine cm 5 [(3, .go (owns 0 0 1)), (4, .go (owns 6 0 1))] [0, 2, 3, 4] [(14, .slice (some ⟨g34, 0, none⟩) n cq34), (15, .int .i64 k)] ([]) (by kernel_rfl) rfl al0 ?_
   rcases hg70 : getB l k with _ | y70
   ·
    refine calm_callD (.pointer none) (by kernel_rfl) (by kernel_rfl) (by kernel_rfl) (fun args w => Try.call32 args w) (fun w hw => by have := port_d (some ⟨g34, 0, none⟩) n cq34 l k w (hO34.atN (A := [_, _, _, _, _, _, _, _, _, _]) hw) hnq34 (by omega) (ris_all (right_ris q8)) (ris_asc l 0 (right_ris q8)); rw [portV_none hg70] at this; exact this) ?_
    refine cm 1 [] [0, 2, 3, 4] [(7, .pointer none)] ([]) (by kernel_rfl) rfl al0 ?_
    refine calm_nil' ?_
    refine done_seq ?_
    refine at_seq ?_
    refine at_seq ?_
    refine aq [] [0, 2, 3, 4, 7] [(18, .bool true)] ([]) (fun _ => by kernel_rfl) al0 ?_
    refine done_seq ?_
    refine at_true (by kernel_rfl) ?_
    refine at_seq ?_
    refine aq [] [] [(6, .int .i64 4)] ([]) (fun _ => by kernel_rfl) al0 ?_
    refine done_seq ?_
    refine at_back ([]) (.int .i64 4) [] (by kernel_rfl) (by kernel_rfl) al0 ?_
    refine oq 1 [] [4, 7] [(8, .int .i64 4)] ([]) (fun _ => by kernel_rfl) al0 ?_
    refine ops_nil ?_
    refine done_seq ?_
    refine at_seq ?_
    refine aq [] [4, 7, 8] [(22, .bool true)] ([]) (fun _ => by kernel_rfl) al0 ?_
    refine done_seq ?_
    refine at_true (by kernel_rfl) ?_
    refine at_seq ?_
    refine aq [(2, .go (owns 1 0 1))] [4] [(5, .int .i64 4)] ([]) (fun _ => by kernel_rfl) al0 ?_
    refine done_seq ?_
    refine at_back (owns 1 0 1) (.tuple #[.agg #[.slice none 0 0], .int .i64 4]) [] (by kernel_rfl) (by kernel_rfl) al0 ?_
    refine om 6 [(7, .go (owns 0 0 1))] [6, 9] (fun γ77 => [(10, .pointer (some ⟨γ77 0, 0, none⟩)), (11, .int .i64 4)]) (fun γ77 L => bx (γ77 0) (#[.slice none 0 0]) 24 :: L) (fun γ77 => []) (fun _ => by kernel_rfl) (fun γ77 => al0) (fun γ77 => ?_)
    refine ops_nil ?_
    refine done_seq ?_
    refine at_seq ?_
    refine at_any (by kernel_rfl) ?_
    refine any_tk (f := 5) [2] [] [6, 9, 10] [(20, .int .i64 4)] ([]) #[false, false, true, false, false, false] (by kernel_rfl) (by kernel_rfl) al0 ?_
    refine any_cut 0 #[true, true, true, true, true, true] ([(6, .pointer (some ⟨γ3 3, 0, none⟩)), (7, .int .i64 0), (8, .int .i64 4)]) ([bx (γ77 0) (#[.slice none 0 0]) 24, bx (γ66 0) (#[.slice (some ⟨g34, 0, none⟩) n cq34]) 24, bx (γ6 1) (#[.slice none 0 0]) 24, bx (γ6 0) (#[.slice p n cap]) 24, bx (γ4 0) (#[.int .i64 0]) 3, bx (γ3 3) (#[.slice none 0 0]) 24, bx (γ3 2) (#[.func (.func 67) #[] #[]]) 75, bx (γ3 1) (#[.int .i64 k]) 3, bx (γ3 0) (#[.slice p n cap]) 24, bx (γ1 1) (#[.slice none 0 0]) 24, bx (γ1 0) (#[.slice p n cap]) 24, bx g34 cs34 40]) ?_ (fun hm => ?_)
    rotate_left
    ·
     refine any_fork [0, 1] (by kernel_rfl) (by simp) (each_cons _ rfl ?_ (each_cons _ rfl ?_ (each_nil)))
     ·
      refine oq 1 [(0, .go (owns 0 0 1))] [6, 9, 20] [(18, .agg #[.slice none 0 0])] ([]) (fun _ => by kernel_rfl) al0 ?_
      refine ops_nil ?_
      refine done_any ?_
      refine any_fork [1, 3] (by kernel_rfl) (by simp) (each_cons _ rfl ?_ (each_cons _ rfl ?_ (each_nil)))
      ·
       refine oq 1 [(1, .go (owns 4 0 1))] [6, 18, 20] [(19, .int .i64 0)] ([]) (fun _ => by kernel_rfl) al0 ?_
       refine ops_nil ?_
       refine done_any ?_
       refine any_one 3 _ (by kernel_rfl) rfl ?_
       refine oq 1 [(3, .go (owns 5 0 1))] [6, 19, 20] [] ([]) (fun _ => by kernel_rfl) al0 ?_
       refine ops_nil ?_
       refine done_any ?_
       refine any_tk (f := 0) [4, 5] [] [6] [(7, .int .i64 0), (8, .int .i64 4)] ([]) #[true, true, true, true, true, true] (by kernel_rfl) (by kernel_rfl) al0 ?_
       exact any_weak hm [6, 7, 8] (by kernel_rfl) rfl rfl rfl
      ·
       refine oq 1 [(3, .go (owns 5 0 1))] [6, 9, 20] [] ([]) (fun _ => by kernel_rfl) al0 ?_
       refine ops_nil ?_
       refine done_any ?_
       refine any_one 1 _ (by kernel_rfl) rfl ?_
       refine oq 1 [(1, .go (owns 4 0 1))] [6, 20] [(19, .int .i64 0)] ([]) (fun _ => by kernel_rfl) al0 ?_
       refine ops_nil ?_
       refine done_any ?_
       refine any_tk (f := 0) [4, 5] [] [6] [(7, .int .i64 0), (8, .int .i64 4)] ([]) #[true, true, true, true, true, true] (by kernel_rfl) (by kernel_rfl) al0 ?_
       exact any_weak hm [6, 7, 8] (by kernel_rfl) rfl rfl rfl
     ·
      refine oq 1 [(1, .go (owns 4 0 1))] [6, 10, 20] [(19, .int .i64 0)] ([]) (fun _ => by kernel_rfl) al0 ?_
      refine ops_nil ?_
      refine done_any ?_
      refine any_one 0 _ (by kernel_rfl) rfl ?_
      refine oq 1 [(0, .go (owns 0 0 1))] [6, 19, 20] [(18, .agg #[.slice none 0 0])] ([]) (fun _ => by kernel_rfl) al0 ?_
      refine ops_nil ?_
      refine done_any ?_
      refine any_one 3 _ (by kernel_rfl) rfl ?_
      refine oq 1 [(3, .go (owns 5 0 1))] [6, 19, 20] [] ([]) (fun _ => by kernel_rfl) al0 ?_
      refine ops_nil ?_
      refine done_any ?_
      refine any_tk (f := 0) [4, 5] [] [6] [(7, .int .i64 0), (8, .int .i64 4)] ([]) #[true, true, true, true, true, true] (by kernel_rfl) (by kernel_rfl) al0 ?_
      exact any_weak hm [6, 7, 8] (by kernel_rfl) rfl rfl rfl
    refine any_nil (by kernel_rfl) ?_
    refine done_seq ?_
    refine at_back (owns 5 0 1) (.tuple #[.agg #[.slice none 0 0], .int .i64 0, .int .i64 4]) [] (by kernel_rfl) (by kernel_rfl) al0 ?_
    refine oq 6 [(6, .go (owns 9 0 1))] [4] [(5, .int .i64 0), (6, .int .i64 4)] ([]) (fun _ => by kernel_rfl) al0 ?_
    refine ops_nil ?_
    refine done_seq ?_
    refine at_return (owns 9 0 1) (.tuple #[.agg #[.slice none 0 0], .int .i64 0, .int .i64 4]) [] (by kernel_rfl) (by kernel_rfl) al0 ?_
    exact fun w' hw => by rw [turnV_none q8 hg70]; exact ⟨none, 0, 0, [], rfl, SlO.nil, hw.below, hw.sub (List.nil_sublist _)⟩
   ·
    have hy70 := (get_pos (ris_asc l 0 (right_ris q8)) hg70).1
    refine calm_callD (.pointer (some ⟨g34, 0 + (posB l k) * 5, none⟩)) (by kernel_rfl) (by kernel_rfl) (by kernel_rfl) (fun args w => Try.call32 args w) (fun w hw => by have := port_d (some ⟨g34, 0, none⟩) n cq34 l k w (hO34.atN (A := [_, _, _, _, _, _, _, _, _, _]) hw) hnq34 (by omega) (ris_all (right_ris q8)) (ris_asc l 0 (right_ris q8)); rw [portV_some hg70] at this; exact this) ?_
    refine cm 1 [] [0, 2, 3, 4] [(7, .pointer (some ⟨g34, 0 + (posB l k) * 5, none⟩))] ([]) (by kernel_rfl) rfl al0 ?_
    refine calm_nil' ?_
    refine done_seq ?_
    refine at_seq ?_
    refine at_seq ?_
    refine aq [] [0, 2, 3, 4, 7] [(18, .bool false)] ([]) (fun _ => by kernel_rfl) al0 ?_
    refine done_seq ?_
    refine at_false (by kernel_rfl) ?_
    refine at_skip ?_
    refine done_seq ?_
    refine at_seq ?_
    refine at_any (by kernel_rfl) ?_
    refine any_tk (f := 8) [1, 2, 3, 4] [] [2, 3, 4] [(21, .pointer (some ⟨g34, 0 + (posB l k) * 5, none⟩)), (24, .pointer (some ⟨γ66 0, 0, none⟩))] ([]) #[false, true, true, true, true, false, false, false, false, false, false, false] (by kernel_rfl) (by kernel_rfl) al0 ?_
    refine any_cut 6 #[true, true, true, true, true, true, false, false, false, false, false, false] ([(3, .pointer (some ⟨γ3 0, 0, none⟩)), (4, .pointer (some ⟨γ4 0, 0, none⟩)), (20, .func (.func 67) #[] #[]), (21, .pointer (some ⟨g34, 0 + (posB l k) * 5, none⟩)), (25, .slice (some ⟨g34, 0, none⟩) n cq34)]) ([bx (γ66 0) (#[.slice (some ⟨g34, 0, none⟩) n cq34]) 24, bx (γ6 1) (#[.slice none 0 0]) 24, bx (γ6 0) (#[.slice p n cap]) 24, bx (γ4 0) (#[.int .i64 0]) 3, bx (γ3 3) (#[.slice none 0 0]) 24, bx (γ3 2) (#[.func (.func 67) #[] #[]]) 75, bx (γ3 1) (#[.int .i64 k]) 3, bx (γ3 0) (#[.slice p n cap]) 24, bx (γ1 1) (#[.slice none 0 0]) 24, bx (γ1 0) (#[.slice p n cap]) 24, bx g34 cs34 40]) ?_ (fun hm => ?_)
    rotate_left
    ·
     refine any_fork [0, 5] (by kernel_rfl) (by simp) (each_cons _ rfl ?_ (each_cons _ rfl ?_ (each_nil)))
     ·
      refine oq 1 [(0, .go (owns 5 0 1))] [3, 4, 21, 24] [(20, .func (.func 67) #[] #[])] ([]) (fun _ => by kernel_rfl) al0 ?_
      refine ops_nil ?_
      refine done_any ?_
      refine any_one 5 _ (by kernel_rfl) rfl ?_
      refine oq 1 [(5, .go (owns 0 0 1))] [3, 4, 20, 21] [(25, .slice (some ⟨g34, 0, none⟩) n cq34)] ([]) (fun _ => by kernel_rfl) al0 ?_
      refine ops_nil ?_
      refine done_any ?_
      exact any_weak hm [3, 4, 20, 21, 25] (by kernel_rfl) rfl rfl rfl
     ·
      refine oq 1 [(5, .go (owns 0 0 1))] [2, 3, 4, 21] [(25, .slice (some ⟨g34, 0, none⟩) n cq34)] ([]) (fun _ => by kernel_rfl) al0 ?_
      refine ops_nil ?_
      refine done_any ?_
      refine any_one 0 _ (by kernel_rfl) rfl ?_
      refine oq 1 [(0, .go (owns 5 0 1))] [3, 4, 21, 25] [(20, .func (.func 67) #[] #[])] ([]) (fun _ => by kernel_rfl) al0 ?_
      refine ops_nil ?_
      refine done_any ?_
      exact any_weak hm [3, 4, 20, 21, 25] (by kernel_rfl) rfl rfl rfl
    refine any_one 6 _ (by kernel_rfl) rfl ?_
    refine ops_inline (g := 67) (args := #[.pointer (some ⟨g34, 0 + (posB l k) * 5, none⟩), .slice (some ⟨g34, 0, none⟩) n cq34]) (by kernel_rfl) (by kernel_rfl) (by kernel_rfl) (fun args w => Try.call67 args w) Try.func67 rfl Try.ntmps67 rfl ?_
    refine at_seq ?_
    refine aq [] [0] [] ([]) (fun _ => by kernel_rfl) al0 ?_
    refine done_seq ?_
    refine at_seq ?_
    refine am [(3, .go (ownps 10 (0 + (posB l k) * 5 + 3) [undef]))] [0] (fun _ => []) (fun _ L => (L.set 10 (bx g34 ((cs34).setIfInBounds (0 + (posB l k) * 5 + 3) (.bool true)) 40))) (fun _ => [0 + (posB l k) * 5 + 3 < (cs34).size]) (fun _ => by kernel_rfl) (fun _ => (al1 (hOw34.room hnq34 hy70 (f := 3) (by decide)))) (fun _ => ?_)
    refine done_seq ?_
    refine at_seq ?_
    refine aq [] [] [(4, .pointer (some ⟨g34, 0 + (posB l k) * 5, none⟩)), (5, .int .i64 0)] ([]) (fun _ => by kernel_rfl) al0 ?_
    refine done_seq ?_
    refine at_back ([]) (.tuple #[.pointer (some ⟨g34, 0 + (posB l k) * 5, none⟩), .int .i64 0]) [] (by kernel_rfl) (by kernel_rfl) al0 ?_
    refine ops_nil ?_
    refine done_any ?_
    refine any_tk (f := 0) [7, 8, 9, 10, 11] [] [3, 4] [(8, .pointer (some ⟨g34, 0 + (posB l k) * 5, none⟩)), (9, .int .i64 0)] ([]) #[true, true, true, true, true, true, true, true, true, true, true, true] (by kernel_rfl) (by kernel_rfl) al0 ?_
    refine any_nil (by kernel_rfl) ?_
    refine done_seq ?_
    refine at_seq ?_
    refine at_seq ?_
    refine aq [] [3, 4, 8, 9] [(30, .bool false)] ([]) (fun _ => by kernel_rfl) al0 ?_
    refine done_seq ?_
    refine at_false (by kernel_rfl) ?_
    refine at_skip ?_
    refine done_seq ?_
    refine at_seq ?_
    refine at_calm rfl (by kernel_rfl) (by kernel_rfl) ?_
    refine cm 6 [(1, .go (owns 7 0 1)), (5, .go (ownps 10 (0 + (posB l k) * 5) [.int .i64 y70.num]))] [4, 8] [(33, .slice p n cap), (37, .int .i64 y70.num)] (acellsP ((cs34).setIfInBounds (0 + (posB l k) * 5 + 3) (.bool true)) (0 + (posB l k) * 5) [.int .i64 y70.num]) (by kernel_rfl) rfl (rda_pre (((hOw34.put (x' := (⟨y70.num, y70.vcpu, y70.peer, true, y70.masked⟩ : Port)) hnq34 hy70 (f := 3) (by decide) rfl).rdx (len_set hnq34) (get_set hy70))) _ rfl) ?_
    skip
    ·
     obtain ⟨b114, o114, rfl⟩ := hsl.pos (i := posB l y70.num) (List.getElem?_eq_some_iff.1 (get_pos (ris_asc l 0 (right_ris q8)) (get_self hg70)).1).1
     refine calm_callD (.pointer (some ⟨b114, o114 + (posB l y70.num) * 5, none⟩)) (by kernel_rfl) (by kernel_rfl) (by kernel_rfl) (fun args w => Try.call32 args w) (fun w hw => by have := port_d (some ⟨b114, o114, none⟩) n cap l y70.num w (hsl.kept hw.below) hn (by omega) (ris_all (right_ris q8)) (ris_asc l 0 (right_ris q8)); rw [portV_some (get_self hg70)] at this; exact this) ?_
     refine cm 1 [] [4, 8] [(10, .pointer (some ⟨b114, o114 + (posB l y70.num) * 5, none⟩))] ([]) (by kernel_rfl) rfl al0 ?_
     refine calm_nil' ?_
     refine done_seq ?_
     refine at_seq ?_
     refine at_seq ?_
     refine at_calm rfl (by kernel_rfl) (by kernel_rfl) ?_
     refine cm 3 [(2, .go (ownps 10 (0 + (posB l k) * 5) [.int .i64 y70.num, .int .i64 y70.vcpu, .int .i64 y70.peer, .bool true, .bool y70.masked]))] [4, 8, 10] [(41, .agg #[.int .i64 y70.num, .int .i64 y70.vcpu, .int .i64 y70.peer, .bool true, .bool y70.masked])] (acellsP ((cs34).setIfInBounds (0 + (posB l k) * 5 + 3) (.bool true)) (0 + (posB l k) * 5) [.int .i64 y70.num, .int .i64 y70.vcpu, .int .i64 y70.peer, .bool true, .bool y70.masked]) (by kernel_rfl) rfl (rda_pre (((hOw34.put (x' := (⟨y70.num, y70.vcpu, y70.peer, true, y70.masked⟩ : Port)) hnq34 hy70 (f := 3) (by decide) rfl).rdx (len_set hnq34) (get_set hy70))) _ rfl) ?_
     rcases q117 : (true && !y70.masked) with _ | _
     ·
      refine calm_callD (.bool false) (by kernel_rfl) (by kernel_rfl) (by kernel_rfl) (fun args w => Try.call39 args w) (fun w hw => by have := due_d (⟨y70.num, y70.vcpu, y70.peer, true, y70.masked⟩ : Port) w; rw [show dueB (⟨y70.num, y70.vcpu, y70.peer, true, y70.masked⟩ : Port) = false from q117] at this; exact this) ?_
      refine cm 18 [] [4, 8] [(60, .bool false)] ([]) (by kernel_rfl) rfl al0 ?_
      refine calm_nil' ?_
      refine done_seq ?_
      refine at_false (by kernel_rfl) ?_
      refine at_skip ?_
      refine done_seq ?_
      refine at_seq ?_
      refine aq [] [] [(6, .int .i64 0)] ([]) (fun _ => by kernel_rfl) al0 ?_
      refine done_seq ?_
      refine at_back ([]) (.int .i64 0) [] (by kernel_rfl) (by kernel_rfl) al0 ?_
      refine oq 1 [] [4, 7] [(8, .int .i64 0)] ([]) (fun _ => by kernel_rfl) al0 ?_
      refine ops_nil ?_
      refine done_seq ?_
      refine at_seq ?_
      refine aq [] [4, 7, 8] [(22, .bool false)] ([]) (fun _ => by kernel_rfl) al0 ?_
      refine done_seq ?_
      refine at_false (by kernel_rfl) ?_
      refine at_skip ?_
      refine done_seq ?_
      refine at_seq ?_
      refine am [(0, .go (owns 0 0 1)), (1, .go (owns 1 0 1))] [4] (fun _ => [(5, .int .i64 0)]) (fun _ L => (L.set 1 (bx (γ6 1) (#[.slice (some ⟨g34, 0, none⟩) n cq34]) 24))) (fun _ => []) (fun _ => by kernel_rfl) (fun _ => al0) (fun _ => ?_)
      refine done_seq ?_
      refine at_back (owns 1 0 1) (.tuple #[.agg #[.slice (some ⟨g34, 0, none⟩) n cq34], .int .i64 0]) [] (by kernel_rfl) (by kernel_rfl) al0 ?_
      refine om 6 [(7, .go (owns 0 0 1))] [6, 9] (fun γ123 => [(10, .pointer (some ⟨γ123 0, 0, none⟩)), (11, .int .i64 0)]) (fun γ123 L => bx (γ123 0) (#[.slice (some ⟨g34, 0, none⟩) n cq34]) 24 :: L) (fun γ123 => []) (fun _ => by kernel_rfl) (fun γ123 => al0) (fun γ123 => ?_)
      refine ops_nil ?_
      refine done_seq ?_
      refine at_seq ?_
      refine at_any (by kernel_rfl) ?_
      refine any_tk (f := 5) [2] [] [6, 9, 10] [(20, .int .i64 0)] ([]) #[false, false, true, false, false, false] (by kernel_rfl) (by kernel_rfl) al0 ?_
      refine any_cut 0 #[true, true, true, true, true, true] ([(6, .pointer (some ⟨γ3 3, 0, none⟩)), (7, .int .i64 0), (8, .int .i64 0)]) ([bx (γ123 0) (#[.slice (some ⟨g34, 0, none⟩) n cq34]) 24, bx (γ66 0) (#[.slice (some ⟨g34, 0, none⟩) n cq34]) 24, bx (γ6 1) (#[.slice (some ⟨g34, 0, none⟩) n cq34]) 24, bx (γ6 0) (#[.slice (some ⟨b114, o114, none⟩) n cap]) 24, bx (γ4 0) (#[.int .i64 0]) 3, bx (γ3 3) (#[.slice (some ⟨g34, 0, none⟩) n cq34]) 24, bx (γ3 2) (#[.func (.func 67) #[] #[]]) 75, bx (γ3 1) (#[.int .i64 k]) 3, bx (γ3 0) (#[.slice (some ⟨b114, o114, none⟩) n cap]) 24, bx (γ1 1) (#[.slice none 0 0]) 24, bx (γ1 0) (#[.slice (some ⟨b114, o114, none⟩) n cap]) 24, bx g34 ((cs34).setIfInBounds (0 + (posB l k) * 5 + 3) (.bool true)) 40]) ?_ (fun hm => ?_)
      rotate_left
      ·
       refine any_fork [0, 1] (by kernel_rfl) (by simp) (each_cons _ rfl ?_ (each_cons _ rfl ?_ (each_nil)))
       ·
        refine oq 1 [(0, .go (owns 0 0 1))] [6, 9, 20] [(18, .agg #[.slice (some ⟨g34, 0, none⟩) n cq34])] ([]) (fun _ => by kernel_rfl) al0 ?_
        refine ops_nil ?_
        refine done_any ?_
        refine any_fork [1, 3] (by kernel_rfl) (by simp) (each_cons _ rfl ?_ (each_cons _ rfl ?_ (each_nil)))
        ·
         refine oq 1 [(1, .go (owns 4 0 1))] [6, 18, 20] [(19, .int .i64 0)] ([]) (fun _ => by kernel_rfl) al0 ?_
         refine ops_nil ?_
         refine done_any ?_
         refine any_one 3 _ (by kernel_rfl) rfl ?_
         refine om 1 [(3, .go (owns 5 0 1))] [6, 19, 20] (fun _ => []) (fun _ L => (L.set 5 (bx (γ3 3) (#[.slice (some ⟨g34, 0, none⟩) n cq34]) 24))) (fun _ => []) (fun _ => by kernel_rfl) (fun _ => al0) (fun _ => ?_)
         refine ops_nil ?_
         refine done_any ?_
         refine any_tk (f := 0) [4, 5] [] [6] [(7, .int .i64 0), (8, .int .i64 0)] ([]) #[true, true, true, true, true, true] (by kernel_rfl) (by kernel_rfl) al0 ?_
         exact any_weak hm [6, 7, 8] (by kernel_rfl) rfl rfl rfl
        ·
         refine om 1 [(3, .go (owns 5 0 1))] [6, 9, 20] (fun _ => []) (fun _ L => (L.set 5 (bx (γ3 3) (#[.slice (some ⟨g34, 0, none⟩) n cq34]) 24))) (fun _ => []) (fun _ => by kernel_rfl) (fun _ => al0) (fun _ => ?_)
         refine ops_nil ?_
         refine done_any ?_
         refine any_one 1 _ (by kernel_rfl) rfl ?_
         refine oq 1 [(1, .go (owns 4 0 1))] [6, 20] [(19, .int .i64 0)] ([]) (fun _ => by kernel_rfl) al0 ?_
         refine ops_nil ?_
         refine done_any ?_
         refine any_tk (f := 0) [4, 5] [] [6] [(7, .int .i64 0), (8, .int .i64 0)] ([]) #[true, true, true, true, true, true] (by kernel_rfl) (by kernel_rfl) al0 ?_
         exact any_weak hm [6, 7, 8] (by kernel_rfl) rfl rfl rfl
       ·
        refine oq 1 [(1, .go (owns 4 0 1))] [6, 10, 20] [(19, .int .i64 0)] ([]) (fun _ => by kernel_rfl) al0 ?_
        refine ops_nil ?_
        refine done_any ?_
        refine any_one 0 _ (by kernel_rfl) rfl ?_
        refine oq 1 [(0, .go (owns 0 0 1))] [6, 19, 20] [(18, .agg #[.slice (some ⟨g34, 0, none⟩) n cq34])] ([]) (fun _ => by kernel_rfl) al0 ?_
        refine ops_nil ?_
        refine done_any ?_
        refine any_one 3 _ (by kernel_rfl) rfl ?_
        refine om 1 [(3, .go (owns 5 0 1))] [6, 19, 20] (fun _ => []) (fun _ L => (L.set 5 (bx (γ3 3) (#[.slice (some ⟨g34, 0, none⟩) n cq34]) 24))) (fun _ => []) (fun _ => by kernel_rfl) (fun _ => al0) (fun _ => ?_)
        refine ops_nil ?_
        refine done_any ?_
        refine any_tk (f := 0) [4, 5] [] [6] [(7, .int .i64 0), (8, .int .i64 0)] ([]) #[true, true, true, true, true, true] (by kernel_rfl) (by kernel_rfl) al0 ?_
        exact any_weak hm [6, 7, 8] (by kernel_rfl) rfl rfl rfl
      refine any_nil (by kernel_rfl) ?_
      refine done_seq ?_
      refine at_back (owns 5 0 1) (.tuple #[.agg #[.slice (some ⟨g34, 0, none⟩) n cq34], .int .i64 0, .int .i64 0]) [] (by kernel_rfl) (by kernel_rfl) al0 ?_
      refine om 6 [(6, .go (owns 9 0 1))] [4] (fun _ => [(5, .int .i64 0), (6, .int .i64 0)]) (fun _ L => (L.set 9 (bx (γ1 1) (#[.slice (some ⟨g34, 0, none⟩) n cq34]) 24))) (fun _ => []) (fun _ => by kernel_rfl) (fun _ => al0) (fun _ => ?_)
      refine ops_nil ?_
      refine done_seq ?_
      refine at_return (owns 9 0 1) (.tuple #[.agg #[.slice (some ⟨g34, 0, none⟩) n cq34], .int .i64 0, .int .i64 0]) [] (by kernel_rfl) (by kernel_rfl) al0 ?_
      exact fun w' hw => by rw [turnV_ok q8 hg70, turnP_no (y := y70) (z := (⟨y70.num, y70.vcpu, y70.peer, true, y70.masked⟩ : Port)) (fun ⟨a, _⟩ => absurd (a.symm.trans q117) (by decide)), pos_of hg70]; exact ⟨_, _, _, _, rfl, (SlO.ofOwn (hOw34.put (x' := (⟨y70.num, y70.vcpu, y70.peer, true, y70.masked⟩ : Port)) hnq34 hy70 (f := 3) (by decide) rfl) (len_set hnq34)), hw.below, hw.tailN 11⟩
     ·
      refine calm_callD (.bool true) (by kernel_rfl) (by kernel_rfl) (by kernel_rfl) (fun args w => Try.call39 args w) (fun w hw => by have := due_d (⟨y70.num, y70.vcpu, y70.peer, true, y70.masked⟩ : Port) w; rw [show dueB (⟨y70.num, y70.vcpu, y70.peer, true, y70.masked⟩ : Port) = true from q117] at this; exact this) ?_
      refine cm 4 [(7, .go (outs b114 (o114 + (posB l y70.num) * 5) [.int .i64 y70.num, .int .i64 y70.vcpu, .int .i64 y70.peer, .bool y70.pending, .bool y70.masked]))] [4, 8, 10] [(43, .bool true), (46, .agg #[.int .i64 y70.num, .int .i64 y70.vcpu, .int .i64 y70.peer, .bool y70.pending, .bool y70.masked])] (cellsP w b114 (o114 + (posB l y70.num) * 5) [.int .i64 y70.num, .int .i64 y70.vcpu, .int .i64 y70.peer, .bool y70.pending, .bool y70.masked]) (by kernel_rfl) rfl (rd_pre (hsl.get (get_pos (ris_asc l 0 (right_ris q8)) (get_self hg70)).1) _ rfl) ?_
      rcases q143 : (y70.pending && !y70.masked) with _ | _
      ·
       refine calm_callD (.bool false) (by kernel_rfl) (by kernel_rfl) (by kernel_rfl) (fun args w => Try.call39 args w) (fun w hw => by have := due_d (⟨y70.num, y70.vcpu, y70.peer, y70.pending, y70.masked⟩ : Port) w; rw [show dueB (⟨y70.num, y70.vcpu, y70.peer, y70.pending, y70.masked⟩ : Port) = false from q143] at this; exact this) ?_
       refine cm 13 [] [4, 8] [(60, .bool true)] ([]) (by kernel_rfl) rfl al0 ?_
       refine calm_nil' ?_
       refine done_seq ?_
       refine at_true (by kernel_rfl) ?_
       refine am [(3, .go (ownps 10 (0 + (posB l k) * 5 + 1) [.int .i64 y70.vcpu])), (4, .go (owns 3 0 1))] [] (fun _ => []) (fun _ L => (L.set 3 (bx (γ4 0) (#[.int .i64 y70.vcpu]) 3))) (fun _ => acellsP ((cs34).setIfInBounds (0 + (posB l k) * 5 + 3) (.bool true)) (0 + (posB l k) * 5 + 1) [.int .i64 y70.vcpu]) (fun _ => by kernel_rfl) (fun _ => (rda_part (((hOw34.put (x' := (⟨y70.num, y70.vcpu, y70.peer, true, y70.masked⟩ : Port)) hnq34 hy70 (f := 3) (by decide) rfl).rdx (len_set hnq34) (get_set hy70))) 1 _ rfl)) (fun _ => ?_)
       refine done_seq ?_
       refine at_seq ?_
       refine aq [] [] [(6, .int .i64 0)] ([]) (fun _ => by kernel_rfl) al0 ?_
       refine done_seq ?_
       refine at_back ([]) (.int .i64 0) [] (by kernel_rfl) (by kernel_rfl) al0 ?_
       refine oq 1 [] [4, 7] [(8, .int .i64 0)] ([]) (fun _ => by kernel_rfl) al0 ?_
       refine ops_nil ?_
       refine done_seq ?_
       refine at_seq ?_
       refine aq [] [4, 7, 8] [(22, .bool false)] ([]) (fun _ => by kernel_rfl) al0 ?_
       refine done_seq ?_
       refine at_false (by kernel_rfl) ?_
       refine at_skip ?_
       refine done_seq ?_
       refine at_seq ?_
       refine am [(0, .go (owns 0 0 1)), (1, .go (owns 1 0 1))] [4] (fun _ => [(5, .int .i64 0)]) (fun _ L => (L.set 1 (bx (γ6 1) (#[.slice (some ⟨g34, 0, none⟩) n cq34]) 24))) (fun _ => []) (fun _ => by kernel_rfl) (fun _ => al0) (fun _ => ?_)
       refine done_seq ?_
       refine at_back (owns 1 0 1) (.tuple #[.agg #[.slice (some ⟨g34, 0, none⟩) n cq34], .int .i64 0]) [] (by kernel_rfl) (by kernel_rfl) al0 ?_
       refine om 6 [(7, .go (owns 0 0 1))] [6, 9] (fun γ150 => [(10, .pointer (some ⟨γ150 0, 0, none⟩)), (11, .int .i64 0)]) (fun γ150 L => bx (γ150 0) (#[.slice (some ⟨g34, 0, none⟩) n cq34]) 24 :: L) (fun γ150 => []) (fun _ => by kernel_rfl) (fun γ150 => al0) (fun γ150 => ?_)
       refine ops_nil ?_
       refine done_seq ?_
       refine at_seq ?_
       refine at_any (by kernel_rfl) ?_
       refine any_tk (f := 5) [2] [] [6, 9, 10] [(20, .int .i64 0)] ([]) #[false, false, true, false, false, false] (by kernel_rfl) (by kernel_rfl) al0 ?_
       refine any_cut 0 #[true, true, true, true, true, true] ([(6, .pointer (some ⟨γ3 3, 0, none⟩)), (7, .int .i64 y70.vcpu), (8, .int .i64 0)]) ([bx (γ150 0) (#[.slice (some ⟨g34, 0, none⟩) n cq34]) 24, bx (γ66 0) (#[.slice (some ⟨g34, 0, none⟩) n cq34]) 24, bx (γ6 1) (#[.slice (some ⟨g34, 0, none⟩) n cq34]) 24, bx (γ6 0) (#[.slice (some ⟨b114, o114, none⟩) n cap]) 24, bx (γ4 0) (#[.int .i64 y70.vcpu]) 3, bx (γ3 3) (#[.slice (some ⟨g34, 0, none⟩) n cq34]) 24, bx (γ3 2) (#[.func (.func 67) #[] #[]]) 75, bx (γ3 1) (#[.int .i64 k]) 3, bx (γ3 0) (#[.slice (some ⟨b114, o114, none⟩) n cap]) 24, bx (γ1 1) (#[.slice none 0 0]) 24, bx (γ1 0) (#[.slice (some ⟨b114, o114, none⟩) n cap]) 24, bx g34 ((cs34).setIfInBounds (0 + (posB l k) * 5 + 3) (.bool true)) 40]) ?_ (fun hm => ?_)
       rotate_left
       ·
        refine any_fork [0, 1] (by kernel_rfl) (by simp) (each_cons _ rfl ?_ (each_cons _ rfl ?_ (each_nil)))
        ·
         refine oq 1 [(0, .go (owns 0 0 1))] [6, 9, 20] [(18, .agg #[.slice (some ⟨g34, 0, none⟩) n cq34])] ([]) (fun _ => by kernel_rfl) al0 ?_
         refine ops_nil ?_
         refine done_any ?_
         refine any_fork [1, 3] (by kernel_rfl) (by simp) (each_cons _ rfl ?_ (each_cons _ rfl ?_ (each_nil)))
         ·
          refine oq 1 [(1, .go (owns 4 0 1))] [6, 18, 20] [(19, .int .i64 y70.vcpu)] ([]) (fun _ => by kernel_rfl) al0 ?_
          refine ops_nil ?_
          refine done_any ?_
          refine any_one 3 _ (by kernel_rfl) rfl ?_
          refine om 1 [(3, .go (owns 5 0 1))] [6, 19, 20] (fun _ => []) (fun _ L => (L.set 5 (bx (γ3 3) (#[.slice (some ⟨g34, 0, none⟩) n cq34]) 24))) (fun _ => []) (fun _ => by kernel_rfl) (fun _ => al0) (fun _ => ?_)
          refine ops_nil ?_
          refine done_any ?_
          refine any_tk (f := 0) [4, 5] [] [6] [(7, .int .i64 y70.vcpu), (8, .int .i64 0)] ([]) #[true, true, true, true, true, true] (by kernel_rfl) (by kernel_rfl) al0 ?_
          exact any_weak hm [6, 7, 8] (by kernel_rfl) rfl rfl rfl
         ·
          refine om 1 [(3, .go (owns 5 0 1))] [6, 9, 20] (fun _ => []) (fun _ L => (L.set 5 (bx (γ3 3) (#[.slice (some ⟨g34, 0, none⟩) n cq34]) 24))) (fun _ => []) (fun _ => by kernel_rfl) (fun _ => al0) (fun _ => ?_)
          refine ops_nil ?_
          refine done_any ?_
          refine any_one 1 _ (by kernel_rfl) rfl ?_
          refine oq 1 [(1, .go (owns 4 0 1))] [6, 20] [(19, .int .i64 y70.vcpu)] ([]) (fun _ => by kernel_rfl) al0 ?_
          refine ops_nil ?_
          refine done_any ?_
          refine any_tk (f := 0) [4, 5] [] [6] [(7, .int .i64 y70.vcpu), (8, .int .i64 0)] ([]) #[true, true, true, true, true, true] (by kernel_rfl) (by kernel_rfl) al0 ?_
          exact any_weak hm [6, 7, 8] (by kernel_rfl) rfl rfl rfl
        ·
         refine oq 1 [(1, .go (owns 4 0 1))] [6, 10, 20] [(19, .int .i64 y70.vcpu)] ([]) (fun _ => by kernel_rfl) al0 ?_
         refine ops_nil ?_
         refine done_any ?_
         refine any_one 0 _ (by kernel_rfl) rfl ?_
         refine oq 1 [(0, .go (owns 0 0 1))] [6, 19, 20] [(18, .agg #[.slice (some ⟨g34, 0, none⟩) n cq34])] ([]) (fun _ => by kernel_rfl) al0 ?_
         refine ops_nil ?_
         refine done_any ?_
         refine any_one 3 _ (by kernel_rfl) rfl ?_
         refine om 1 [(3, .go (owns 5 0 1))] [6, 19, 20] (fun _ => []) (fun _ L => (L.set 5 (bx (γ3 3) (#[.slice (some ⟨g34, 0, none⟩) n cq34]) 24))) (fun _ => []) (fun _ => by kernel_rfl) (fun _ => al0) (fun _ => ?_)
         refine ops_nil ?_
         refine done_any ?_
         refine any_tk (f := 0) [4, 5] [] [6] [(7, .int .i64 y70.vcpu), (8, .int .i64 0)] ([]) #[true, true, true, true, true, true] (by kernel_rfl) (by kernel_rfl) al0 ?_
         exact any_weak hm [6, 7, 8] (by kernel_rfl) rfl rfl rfl
       refine any_nil (by kernel_rfl) ?_
       refine done_seq ?_
       refine at_back (owns 5 0 1) (.tuple #[.agg #[.slice (some ⟨g34, 0, none⟩) n cq34], .int .i64 y70.vcpu, .int .i64 0]) [] (by kernel_rfl) (by kernel_rfl) al0 ?_
       refine om 6 [(6, .go (owns 9 0 1))] [4] (fun _ => [(5, .int .i64 y70.vcpu), (6, .int .i64 0)]) (fun _ L => (L.set 9 (bx (γ1 1) (#[.slice (some ⟨g34, 0, none⟩) n cq34]) 24))) (fun _ => []) (fun _ => by kernel_rfl) (fun _ => al0) (fun _ => ?_)
       refine ops_nil ?_
       refine done_seq ?_
       refine at_return (owns 9 0 1) (.tuple #[.agg #[.slice (some ⟨g34, 0, none⟩) n cq34], .int .i64 y70.vcpu, .int .i64 0]) [] (by kernel_rfl) (by kernel_rfl) al0 ?_
       exact fun w' hw => by rw [turnV_ok q8 hg70, turnP_yes (y := y70) (z := (⟨y70.num, y70.vcpu, y70.peer, true, y70.masked⟩ : Port)) q117 (.inl q143), pos_of hg70]; exact ⟨_, _, _, _, rfl, (SlO.ofOwn (hOw34.put (x' := (⟨y70.num, y70.vcpu, y70.peer, true, y70.masked⟩ : Port)) hnq34 hy70 (f := 3) (by decide) rfl) (len_set hnq34)), hw.below, hw.tailN 11⟩
      ·
       refine calm_callD (.bool true) (by kernel_rfl) (by kernel_rfl) (by kernel_rfl) (fun args w => Try.call39 args w) (fun w hw => by have := due_d (⟨y70.num, y70.vcpu, y70.peer, y70.pending, y70.masked⟩ : Port) w; rw [show dueB (⟨y70.num, y70.vcpu, y70.peer, y70.pending, y70.masked⟩ : Port) = true from q143] at this; exact this) ?_
       refine cm 13 [(14, .go (outs b114 (o114 + (posB l y70.num) * 5 + 1) [.int .i64 y70.vcpu])), (18, .go (ownps 10 (0 + (posB l k) * 5 + 1) [.int .i64 y70.vcpu])), (19, .no)] [4, 8] [(60, .bool false)] (cellsP w b114 (o114 + (posB l y70.num) * 5 + 1) [.int .i64 y70.vcpu] ++ (acellsP ((cs34).setIfInBounds (0 + (posB l k) * 5 + 3) (.bool true)) (0 + (posB l k) * 5 + 1) [.int .i64 y70.vcpu] ++ ([¬ ((y70.vcpu : Int) ≠ (y70.vcpu : Int))]))) (by kernel_rfl) rfl (alA (rd_part (hsl.get (get_pos (ris_asc l 0 (right_ris q8)) (get_self hg70)).1) 1 _ rfl) (alA (rda_part (((hOw34.put (x' := (⟨y70.num, y70.vcpu, y70.peer, true, y70.masked⟩ : Port)) hnq34 hy70 (f := 3) (by decide) rfl).rdx (len_set hnq34) (get_set hy70))) 1 _ rfl) (al1 ((fun h => h rfl))))) ?_
       refine calm_nil' ?_
       refine done_seq ?_
       refine at_false (by kernel_rfl) ?_
       refine at_skip ?_
       refine done_seq ?_
       refine at_seq ?_
       refine aq [] [] [(6, .int .i64 0)] ([]) (fun _ => by kernel_rfl) al0 ?_
       refine done_seq ?_
       refine at_back ([]) (.int .i64 0) [] (by kernel_rfl) (by kernel_rfl) al0 ?_
       refine oq 1 [] [4, 7] [(8, .int .i64 0)] ([]) (fun _ => by kernel_rfl) al0 ?_
       refine ops_nil ?_
       refine done_seq ?_
       refine at_seq ?_
       refine aq [] [4, 7, 8] [(22, .bool false)] ([]) (fun _ => by kernel_rfl) al0 ?_
       refine done_seq ?_
       refine at_false (by kernel_rfl) ?_
       refine at_skip ?_
       refine done_seq ?_
       refine at_seq ?_
       refine am [(0, .go (owns 0 0 1)), (1, .go (owns 1 0 1))] [4] (fun _ => [(5, .int .i64 0)]) (fun _ L => (L.set 1 (bx (γ6 1) (#[.slice (some ⟨g34, 0, none⟩) n cq34]) 24))) (fun _ => []) (fun _ => by kernel_rfl) (fun _ => al0) (fun _ => ?_)
       refine done_seq ?_
       refine at_back (owns 1 0 1) (.tuple #[.agg #[.slice (some ⟨g34, 0, none⟩) n cq34], .int .i64 0]) [] (by kernel_rfl) (by kernel_rfl) al0 ?_
       refine om 6 [(7, .go (owns 0 0 1))] [6, 9] (fun γ174 => [(10, .pointer (some ⟨γ174 0, 0, none⟩)), (11, .int .i64 0)]) (fun γ174 L => bx (γ174 0) (#[.slice (some ⟨g34, 0, none⟩) n cq34]) 24 :: L) (fun γ174 => []) (fun _ => by kernel_rfl) (fun γ174 => al0) (fun γ174 => ?_)
       refine ops_nil ?_
       refine done_seq ?_
       refine at_seq ?_
       refine at_any (by kernel_rfl) ?_
       refine any_tk (f := 5) [2] [] [6, 9, 10] [(20, .int .i64 0)] ([]) #[false, false, true, false, false, false] (by kernel_rfl) (by kernel_rfl) al0 ?_
       refine any_cut 0 #[true, true, true, true, true, true] ([(6, .pointer (some ⟨γ3 3, 0, none⟩)), (7, .int .i64 0), (8, .int .i64 0)]) ([bx (γ174 0) (#[.slice (some ⟨g34, 0, none⟩) n cq34]) 24, bx (γ66 0) (#[.slice (some ⟨g34, 0, none⟩) n cq34]) 24, bx (γ6 1) (#[.slice (some ⟨g34, 0, none⟩) n cq34]) 24, bx (γ6 0) (#[.slice (some ⟨b114, o114, none⟩) n cap]) 24, bx (γ4 0) (#[.int .i64 0]) 3, bx (γ3 3) (#[.slice (some ⟨g34, 0, none⟩) n cq34]) 24, bx (γ3 2) (#[.func (.func 67) #[] #[]]) 75, bx (γ3 1) (#[.int .i64 k]) 3, bx (γ3 0) (#[.slice (some ⟨b114, o114, none⟩) n cap]) 24, bx (γ1 1) (#[.slice none 0 0]) 24, bx (γ1 0) (#[.slice (some ⟨b114, o114, none⟩) n cap]) 24, bx g34 ((cs34).setIfInBounds (0 + (posB l k) * 5 + 3) (.bool true)) 40]) ?_ (fun hm => ?_)
       rotate_left
       ·
        refine any_fork [0, 1] (by kernel_rfl) (by simp) (each_cons _ rfl ?_ (each_cons _ rfl ?_ (each_nil)))
        ·
         refine oq 1 [(0, .go (owns 0 0 1))] [6, 9, 20] [(18, .agg #[.slice (some ⟨g34, 0, none⟩) n cq34])] ([]) (fun _ => by kernel_rfl) al0 ?_
         refine ops_nil ?_
         refine done_any ?_
         refine any_fork [1, 3] (by kernel_rfl) (by simp) (each_cons _ rfl ?_ (each_cons _ rfl ?_ (each_nil)))
         ·
          refine oq 1 [(1, .go (owns 4 0 1))] [6, 18, 20] [(19, .int .i64 0)] ([]) (fun _ => by kernel_rfl) al0 ?_
          refine ops_nil ?_
          refine done_any ?_
          refine any_one 3 _ (by kernel_rfl) rfl ?_
          refine om 1 [(3, .go (owns 5 0 1))] [6, 19, 20] (fun _ => []) (fun _ L => (L.set 5 (bx (γ3 3) (#[.slice (some ⟨g34, 0, none⟩) n cq34]) 24))) (fun _ => []) (fun _ => by kernel_rfl) (fun _ => al0) (fun _ => ?_)
          refine ops_nil ?_
          refine done_any ?_
          refine any_tk (f := 0) [4, 5] [] [6] [(7, .int .i64 0), (8, .int .i64 0)] ([]) #[true, true, true, true, true, true] (by kernel_rfl) (by kernel_rfl) al0 ?_
          exact any_weak hm [6, 7, 8] (by kernel_rfl) rfl rfl rfl
         ·
          refine om 1 [(3, .go (owns 5 0 1))] [6, 9, 20] (fun _ => []) (fun _ L => (L.set 5 (bx (γ3 3) (#[.slice (some ⟨g34, 0, none⟩) n cq34]) 24))) (fun _ => []) (fun _ => by kernel_rfl) (fun _ => al0) (fun _ => ?_)
          refine ops_nil ?_
          refine done_any ?_
          refine any_one 1 _ (by kernel_rfl) rfl ?_
          refine oq 1 [(1, .go (owns 4 0 1))] [6, 20] [(19, .int .i64 0)] ([]) (fun _ => by kernel_rfl) al0 ?_
          refine ops_nil ?_
          refine done_any ?_
          refine any_tk (f := 0) [4, 5] [] [6] [(7, .int .i64 0), (8, .int .i64 0)] ([]) #[true, true, true, true, true, true] (by kernel_rfl) (by kernel_rfl) al0 ?_
          exact any_weak hm [6, 7, 8] (by kernel_rfl) rfl rfl rfl
        ·
         refine oq 1 [(1, .go (owns 4 0 1))] [6, 10, 20] [(19, .int .i64 0)] ([]) (fun _ => by kernel_rfl) al0 ?_
         refine ops_nil ?_
         refine done_any ?_
         refine any_one 0 _ (by kernel_rfl) rfl ?_
         refine oq 1 [(0, .go (owns 0 0 1))] [6, 19, 20] [(18, .agg #[.slice (some ⟨g34, 0, none⟩) n cq34])] ([]) (fun _ => by kernel_rfl) al0 ?_
         refine ops_nil ?_
         refine done_any ?_
         refine any_one 3 _ (by kernel_rfl) rfl ?_
         refine om 1 [(3, .go (owns 5 0 1))] [6, 19, 20] (fun _ => []) (fun _ L => (L.set 5 (bx (γ3 3) (#[.slice (some ⟨g34, 0, none⟩) n cq34]) 24))) (fun _ => []) (fun _ => by kernel_rfl) (fun _ => al0) (fun _ => ?_)
         refine ops_nil ?_
         refine done_any ?_
         refine any_tk (f := 0) [4, 5] [] [6] [(7, .int .i64 0), (8, .int .i64 0)] ([]) #[true, true, true, true, true, true] (by kernel_rfl) (by kernel_rfl) al0 ?_
         exact any_weak hm [6, 7, 8] (by kernel_rfl) rfl rfl rfl
       refine any_nil (by kernel_rfl) ?_
       refine done_seq ?_
       refine at_back (owns 5 0 1) (.tuple #[.agg #[.slice (some ⟨g34, 0, none⟩) n cq34], .int .i64 0, .int .i64 0]) [] (by kernel_rfl) (by kernel_rfl) al0 ?_
       refine om 6 [(6, .go (owns 9 0 1))] [4] (fun _ => [(5, .int .i64 0), (6, .int .i64 0)]) (fun _ L => (L.set 9 (bx (γ1 1) (#[.slice (some ⟨g34, 0, none⟩) n cq34]) 24))) (fun _ => []) (fun _ => by kernel_rfl) (fun _ => al0) (fun _ => ?_)
       refine ops_nil ?_
       refine done_seq ?_
       refine at_return (owns 9 0 1) (.tuple #[.agg #[.slice (some ⟨g34, 0, none⟩) n cq34], .int .i64 0, .int .i64 0]) [] (by kernel_rfl) (by kernel_rfl) al0 ?_
       exact fun w' hw => by rw [turnV_ok q8 hg70, turnP_no (y := y70) (z := (⟨y70.num, y70.vcpu, y70.peer, true, y70.masked⟩ : Port)) (fun ⟨_, b⟩ => b.elim (fun e => absurd (e.symm.trans q143) (by decide)) (fun e => e rfl)), pos_of hg70]; exact ⟨_, _, _, _, rfl, (SlO.ofOwn (hOw34.put (x' := (⟨y70.num, y70.vcpu, y70.peer, true, y70.masked⟩ : Port)) hnq34 hy70 (f := 3) (by decide) rfl) (len_set hnq34)), hw.below, hw.tailN 11⟩
end Go.Proofs.Ytfhlmijdokfdpaa

/-! event.Mask. -/
namespace Go.Proofs.Ytfhlmijdokfdpaa
open Go Go.RowKit

set_option maxRecDepth 100000 in
theorem mask_d (p : Option Addr) (n cap : Nat) (l : List Port) (k : Int) (b : Bool) (w : World)
 (hsl : Sv w p l) (hn : n = l.length) (hb : n ≤ 1000)
 : Calls Try.prog 45 #[.agg #[.slice p n cap], .int .i64 k, .bool b] w fun e w' => ∃ q m capq Y, e = .returned (.tuple #[.agg #[.slice q m capq], .int .i64 (turnV l k (fun x => (⟨x.num, x.vcpu, x.peer, x.pending, b⟩ : Port))).2.1, .int .i64 (turnV l k (fun x => (⟨x.num, x.vcpu, x.peer, x.pending, b⟩ : Port))).2.2]) ∧ SlO 40 Y q m capq (turnV l k (fun x => (⟨x.num, x.vcpu, x.peer, x.pending, b⟩ : Port))).1 ∧ Below w.heap.size w w' ∧ Hs w Y w' := by
 refine enter (Hs.start w) Try.func45 rfl Try.ntmps45 rfl ?_
 refine at_seq ?_
 refine am [] [1] (fun γ1 => [(3, .pointer (some ⟨γ1 0, 0, none⟩)), (5, .pointer (some ⟨γ1 1, 0, none⟩)), (6, .pointer (some ⟨γ1 2, 0, none⟩))]) (fun γ1 L => bx (γ1 2) (#[.slice none 0 0]) 24 :: bx (γ1 1) (#[.bool b]) 4 :: bx (γ1 0) (#[.slice p n cap]) 24 :: L) (fun γ1 => []) (fun _ => by kernel_rfl) (fun γ1 => al0) (fun γ1 => ?_)
 refine done_seq ?_
 refine at_seq ?_
 refine at_ops ?_
 refine oq 3 [(0, .go (owns 2 0 1))] [6] [(9, .agg #[.slice p n cap]), (10, .int .i64 k), (11, .func (.func 68) #[] #[.pointer (some ⟨γ1 1, 0, none⟩)])] ([]) (fun _ => by kernel_rfl) al0 ?_
 refine ops_inline (g := 40) (args := #[.agg #[.slice p n cap], .int .i64 k, .func (.func 68) #[] #[.pointer (some ⟨γ1 1, 0, none⟩)]]) (by kernel_rfl) (by kernel_rfl) (by kernel_rfl) (fun args w => Try.call40 args w) Try.func40 rfl Try.ntmps40 rfl ?_
 refine at_seq ?_
 refine am [] [] (fun γ3 => [(3, .pointer (some ⟨γ3 0, 0, none⟩)), (4, .pointer (some ⟨γ3 1, 0, none⟩)), (5, .pointer (some ⟨γ3 2, 0, none⟩)), (6, .pointer (some ⟨γ3 3, 0, none⟩))]) (fun γ3 L => bx (γ3 3) (#[.slice none 0 0]) 24 :: bx (γ3 2) (#[.func (.func 68) #[] #[.pointer (some ⟨γ1 1, 0, none⟩)]]) 75 :: bx (γ3 1) (#[.int .i64 k]) 3 :: bx (γ3 0) (#[.slice p n cap]) 24 :: L) (fun γ3 => []) (fun _ => by kernel_rfl) (fun γ3 => al0) (fun γ3 => ?_)
 refine done_seq ?_
 refine at_seq ?_
 refine am [(1, .go (owns 0 0 1))] [3, 4, 5, 6] (fun γ4 => [(9, .pointer (some ⟨γ4 0, 0, none⟩))]) (fun γ4 L => bx (γ4 0) (#[.int .i64 0]) 3 :: L) (fun γ4 => []) (fun _ => by kernel_rfl) (fun γ4 => al0) (fun γ4 => ?_)
 refine done_seq ?_
 refine at_seq ?_
 refine at_ops ?_
 refine oq 2 [(0, .go (owns 4 0 1))] [6, 9] [(13, .agg #[.slice p n cap]), (14, .func (.func 61) #[] #[.pointer (some ⟨γ3 1, 0, none⟩), .pointer (some ⟨γ3 2, 0, none⟩), .pointer (some ⟨γ3 0, 0, none⟩), .pointer (some ⟨γ4 0, 0, none⟩)])] ([]) (fun _ => by kernel_rfl) al0 ?_
 refine ops_inline (g := 54) (args := #[.agg #[.slice p n cap], .func (.func 61) #[] #[.pointer (some ⟨γ3 1, 0, none⟩), .pointer (some ⟨γ3 2, 0, none⟩), .pointer (some ⟨γ3 0, 0, none⟩), .pointer (some ⟨γ4 0, 0, none⟩)]]) (by kernel_rfl) (by kernel_rfl) (by kernel_rfl) (fun args w => Try.call54 args w) Try.func54 rfl Try.ntmps54 rfl ?_
 refine at_seq ?_
 refine am [] [1] (fun γ6 => [(2, .pointer (some ⟨γ6 0, 0, none⟩)), (4, .pointer (some ⟨γ6 1, 0, none⟩))]) (fun γ6 L => bx (γ6 1) (#[.slice none 0 0]) 24 :: bx (γ6 0) (#[.slice p n cap]) 24 :: L) (fun γ6 => []) (fun _ => by kernel_rfl) (fun γ6 => al0) (fun γ6 => ?_)
 refine done_seq ?_
 refine at_seq ?_
 refine at_seq ?_
 refine at_ops ?_
 refine oq 1 [(0, .go (owns 1 0 1))] [1, 2, 4] [(9, .agg #[.slice p n cap])] ([]) (fun _ => by kernel_rfl) al0 ?_
 rcases q8 : rightB l with _ | _
 ·
  refine ops_callD (.int .i64 260) (by kernel_rfl) (by kernel_rfl) (by kernel_rfl) (fun args w => Try.call16 args w) (fun w hw => by have := check_d p n cap l w (hsl.kept hw.below) hn hb; rw [q8] at this; exact this) ?_
  refine oq 1 [] [1, 2, 4] [(6, .int .i64 260)] ([]) (fun _ => by kernel_rfl) al0 ?_
  refine ops_nil ?_
  refine done_seq ?_
  refine at_seq ?_
  refine aq [] [1, 2, 4, 6] [(12, .bool true)] ([]) (fun _ => by kernel_rfl) al0 ?_
  refine done_seq ?_
  refine at_true (by kernel_rfl) ?_
  refine at_seq ?_
  refine aq [(2, .go (owns 0 0 1))] [4] [(5, .int .i64 260)] ([]) (fun _ => by kernel_rfl) al0 ?_
  refine done_seq ?_
  refine at_back (owns 0 0 1) (.tuple #[.agg #[.slice none 0 0], .int .i64 260]) [] (by kernel_rfl) (by kernel_rfl) al0 ?_
  refine om 6 [(7, .go (owns 0 0 1))] [6, 9] (fun γ12 => [(10, .pointer (some ⟨γ12 0, 0, none⟩)), (11, .int .i64 260)]) (fun γ12 L => bx (γ12 0) (#[.slice none 0 0]) 24 :: L) (fun γ12 => []) (fun _ => by kernel_rfl) (fun γ12 => al0) (fun γ12 => ?_)
  refine ops_nil ?_
  refine done_seq ?_
  refine at_seq ?_
  refine at_any (by kernel_rfl) ?_
  refine any_tk (f := 5) [2] [] [6, 9, 10] [(20, .int .i64 260)] ([]) #[false, false, true, false, false, false] (by kernel_rfl) (by kernel_rfl) al0 ?_
  refine any_cut 0 #[true, true, true, true, true, true] ([(6, .pointer (some ⟨γ3 3, 0, none⟩)), (7, .int .i64 0), (8, .int .i64 260)]) ([bx (γ12 0) (#[.slice none 0 0]) 24, bx (γ6 1) (#[.slice none 0 0]) 24, bx (γ6 0) (#[.slice p n cap]) 24, bx (γ4 0) (#[.int .i64 0]) 3, bx (γ3 3) (#[.slice none 0 0]) 24, bx (γ3 2) (#[.func (.func 68) #[] #[.pointer (some ⟨γ1 1, 0, none⟩)]]) 75, bx (γ3 1) (#[.int .i64 k]) 3, bx (γ3 0) (#[.slice p n cap]) 24, bx (γ1 2) (#[.slice none 0 0]) 24, bx (γ1 1) (#[.bool b]) 4, bx (γ1 0) (#[.slice p n cap]) 24]) ?_ (fun hm => ?_)
  rotate_left
  ·
   refine any_fork [0, 1] (by kernel_rfl) (by simp) (each_cons _ rfl ?_ (each_cons _ rfl ?_ (each_nil)))
   ·
    refine oq 1 [(0, .go (owns 0 0 1))] [6, 9, 20] [(18, .agg #[.slice none 0 0])] ([]) (fun _ => by kernel_rfl) al0 ?_
    refine ops_nil ?_
    refine done_any ?_
    refine any_fork [1, 3] (by kernel_rfl) (by simp) (each_cons _ rfl ?_ (each_cons _ rfl ?_ (each_nil)))
    ·
     refine oq 1 [(1, .go (owns 3 0 1))] [6, 18, 20] [(19, .int .i64 0)] ([]) (fun _ => by kernel_rfl) al0 ?_
     refine ops_nil ?_
     refine done_any ?_
     refine any_one 3 _ (by kernel_rfl) rfl ?_
     refine oq 1 [(3, .go (owns 4 0 1))] [6, 19, 20] [] ([]) (fun _ => by kernel_rfl) al0 ?_
     refine ops_nil ?_
     refine done_any ?_
     refine any_tk (f := 0) [4, 5] [] [6] [(7, .int .i64 0), (8, .int .i64 260)] ([]) #[true, true, true, true, true, true] (by kernel_rfl) (by kernel_rfl) al0 ?_
     exact any_weak hm [6, 7, 8] (by kernel_rfl) rfl rfl rfl
    ·
     refine oq 1 [(3, .go (owns 4 0 1))] [6, 9, 20] [] ([]) (fun _ => by kernel_rfl) al0 ?_
     refine ops_nil ?_
     refine done_any ?_
     refine any_one 1 _ (by kernel_rfl) rfl ?_
     refine oq 1 [(1, .go (owns 3 0 1))] [6, 20] [(19, .int .i64 0)] ([]) (fun _ => by kernel_rfl) al0 ?_
     refine ops_nil ?_
     refine done_any ?_
     refine any_tk (f := 0) [4, 5] [] [6] [(7, .int .i64 0), (8, .int .i64 260)] ([]) #[true, true, true, true, true, true] (by kernel_rfl) (by kernel_rfl) al0 ?_
     exact any_weak hm [6, 7, 8] (by kernel_rfl) rfl rfl rfl
   ·
    refine oq 1 [(1, .go (owns 3 0 1))] [6, 10, 20] [(19, .int .i64 0)] ([]) (fun _ => by kernel_rfl) al0 ?_
    refine ops_nil ?_
    refine done_any ?_
    refine any_one 0 _ (by kernel_rfl) rfl ?_
    refine oq 1 [(0, .go (owns 0 0 1))] [6, 19, 20] [(18, .agg #[.slice none 0 0])] ([]) (fun _ => by kernel_rfl) al0 ?_
    refine ops_nil ?_
    refine done_any ?_
    refine any_one 3 _ (by kernel_rfl) rfl ?_
    refine oq 1 [(3, .go (owns 4 0 1))] [6, 19, 20] [] ([]) (fun _ => by kernel_rfl) al0 ?_
    refine ops_nil ?_
    refine done_any ?_
    refine any_tk (f := 0) [4, 5] [] [6] [(7, .int .i64 0), (8, .int .i64 260)] ([]) #[true, true, true, true, true, true] (by kernel_rfl) (by kernel_rfl) al0 ?_
    exact any_weak hm [6, 7, 8] (by kernel_rfl) rfl rfl rfl
  refine any_nil (by kernel_rfl) ?_
  refine done_seq ?_
  refine at_back (owns 4 0 1) (.tuple #[.agg #[.slice none 0 0], .int .i64 0, .int .i64 260]) [] (by kernel_rfl) (by kernel_rfl) al0 ?_
  refine oq 6 [(7, .go (owns 8 0 1))] [6] [(7, .int .i64 0), (8, .int .i64 260)] ([]) (fun _ => by kernel_rfl) al0 ?_
  refine ops_nil ?_
  refine done_seq ?_
  refine at_return (owns 8 0 1) (.tuple #[.agg #[.slice none 0 0], .int .i64 0, .int .i64 260]) [] (by kernel_rfl) (by kernel_rfl) al0 ?_
  exact fun w' hw => by rw [turnV_bad q8]; exact ⟨none, 0, 0, [], rfl, SlO.nil, hw.below, hw.sub (List.nil_sublist _)⟩
 ·
  refine ops_callD (.int .i64 0) (by kernel_rfl) (by kernel_rfl) (by kernel_rfl) (fun args w => Try.call16 args w) (fun w hw => by have := check_d p n cap l w (hsl.kept hw.below) hn hb; rw [q8] at this; exact this) ?_
  refine oq 1 [] [1, 2, 4] [(6, .int .i64 0)] ([]) (fun _ => by kernel_rfl) al0 ?_
  refine ops_nil ?_
  refine done_seq ?_
  refine at_seq ?_
  refine aq [] [1, 2, 4, 6] [(12, .bool false)] ([]) (fun _ => by kernel_rfl) al0 ?_
  refine done_seq ?_
  refine at_false (by kernel_rfl) ?_
  refine at_skip ?_
  refine done_seq ?_
  refine at_seq ?_
  refine at_ops ?_
  refine oq 2 [(1, .go (owns 1 0 1))] [1, 4] [(16, .slice p n cap)] ([]) (fun _ => by kernel_rfl) al0 ?_
  refine ops_call (fun v L' => ∃ q capq Y, v = .slice q n capq ∧ L' = List.take 10 ([bx (γ6 1) (#[.slice none 0 0]) 24, bx (γ6 0) (#[.slice p n cap]) 24, bx (γ4 0) (#[.int .i64 0]) 3, bx (γ3 3) (#[.slice none 0 0]) 24, bx (γ3 2) (#[.func (.func 68) #[] #[.pointer (some ⟨γ1 1, 0, none⟩)]]) 75, bx (γ3 1) (#[.int .i64 k]) 3, bx (γ3 0) (#[.slice p n cap]) 24, bx (γ1 2) (#[.slice none 0 0]) 24, bx (γ1 1) (#[.bool b]) 4, bx (γ1 0) (#[.slice p n cap]) 24]) ++ (Y ++ List.drop 10 ([bx (γ6 1) (#[.slice none 0 0]) 24, bx (γ6 0) (#[.slice p n cap]) 24, bx (γ4 0) (#[.int .i64 0]) 3, bx (γ3 3) (#[.slice none 0 0]) 24, bx (γ3 2) (#[.func (.func 68) #[] #[.pointer (some ⟨γ1 1, 0, none⟩)]]) 75, bx (γ3 1) (#[.int .i64 k]) 3, bx (γ3 0) (#[.slice p n cap]) 24, bx (γ1 2) (#[.slice none 0 0]) 24, bx (γ1 1) (#[.bool b]) 4, bx (γ1 0) (#[.slice p n cap]) 24])) ∧ SlO 40 Y q n capq l) (by kernel_rfl) (by kernel_rfl) (by kernel_rfl) (fun args w => Try.call72 args w) (fun w hw => (clone_d p n cap l w (hsl.kept hw.below) hn (by omega)).mono fun e w' ⟨q, capq, Y, he, hO, hb, hY⟩ => ⟨_, _, he, ⟨q, capq, Y, rfl, rfl, hO⟩, hw.join hb hY 10⟩) ?_
  rintro v34 L34 ⟨q34, cq34, Y34, rfl, rfl, hO34⟩
  have hnq34 := hO34.len
  rcases hO34.parts with ⟨rfl, rfl, hz34⟩ | ⟨g34, cs34, rfl, rfl, hOw34⟩
  ·
   refine om 3 [(5, .go (owns 0 0 1))] [1, 4] (fun γ35 => [(7, .pointer (some ⟨γ35 0, 0, none⟩))]) (fun γ35 L => bx (γ35 0) (#[.slice none n cq34]) 24 :: L) (fun γ35 => []) (fun _ => by kernel_rfl) (fun γ35 => al0) (fun γ35 => ?_)
   refine ops_nil ?_
   refine done_seq ?_
   refine at_seq ?_
   refine at_seq ?_
   refine at_ops ?_
   refine oq 1 [] [4, 7] [(19, .func (.func 61) #[] #[.pointer (some ⟨γ3 1, 0, none⟩), .pointer (some ⟨γ3 2, 0, none⟩), .pointer (some ⟨γ3 0, 0, none⟩), .pointer (some ⟨γ4 0, 0, none⟩)])] ([]) (fun _ => by kernel_rfl) al0 ?_
   refine ops_inline (g := 61) (args := #[.pointer (some ⟨γ35 0, 0, none⟩), .pointer (some ⟨γ3 1, 0, none⟩), .pointer (some ⟨γ3 2, 0, none⟩), .pointer (some ⟨γ3 0, 0, none⟩), .pointer (some ⟨γ4 0, 0, none⟩)]) (by kernel_rfl) (by kernel_rfl) (by kernel_rfl) (fun args w => Try.call61 args w) Try.func61 rfl Try.ntmps61 rfl ?_
   refine at_seq ?_
   refine aq [] [0, 1, 2, 3, 4] [] ([]) (fun _ => by kernel_rfl) al0 ?_
   refine done_seq ?_
   refine at_seq ?_
   refine at_calm rfl (by kernel_rfl) (by kernel_rfl) ?_
   refine cm 5 [(3, .go (owns 0 0 1)), (4, .go (owns 6 0 1))] [0, 2, 3, 4] [(14, .slice none n cq34), (15, .int .i64 k)] ([]) (by kernel_rfl) rfl al0 ?_
   rcases hg39 : getB l k with _ | y39
   ·
    refine calm_callD (.pointer none) (by kernel_rfl) (by kernel_rfl) (by kernel_rfl) (fun args w => Try.call32 args w) (fun w hw => by have := port_d none n cq34 l k w (hO34.atN (A := []) hw) hnq34 (by omega) (ris_all (right_ris q8)) (ris_asc l 0 (right_ris q8)); rw [portV_none hg39] at this; exact this) ?_
    refine cm 1 [] [0, 2, 3, 4] [(7, .pointer none)] ([]) (by kernel_rfl) rfl al0 ?_
    refine calm_nil' ?_
    refine done_seq ?_
    refine at_seq ?_
    refine at_seq ?_
    refine aq [] [0, 2, 3, 4, 7] [(18, .bool true)] ([]) (fun _ => by kernel_rfl) al0 ?_
    refine done_seq ?_
    refine at_true (by kernel_rfl) ?_
    refine at_seq ?_
    refine aq [] [] [(6, .int .i64 4)] ([]) (fun _ => by kernel_rfl) al0 ?_
    refine done_seq ?_
    refine at_back ([]) (.int .i64 4) [] (by kernel_rfl) (by kernel_rfl) al0 ?_
    refine oq 1 [] [4, 7] [(8, .int .i64 4)] ([]) (fun _ => by kernel_rfl) al0 ?_
    refine ops_nil ?_
    refine done_seq ?_
    refine at_seq ?_
    refine aq [] [4, 7, 8] [(22, .bool true)] ([]) (fun _ => by kernel_rfl) al0 ?_
    refine done_seq ?_
    refine at_true (by kernel_rfl) ?_
    refine at_seq ?_
    refine aq [(2, .go (owns 1 0 1))] [4] [(5, .int .i64 4)] ([]) (fun _ => by kernel_rfl) al0 ?_
    refine done_seq ?_
    refine at_back (owns 1 0 1) (.tuple #[.agg #[.slice none 0 0], .int .i64 4]) [] (by kernel_rfl) (by kernel_rfl) al0 ?_
    refine om 6 [(7, .go (owns 0 0 1))] [6, 9] (fun γ46 => [(10, .pointer (some ⟨γ46 0, 0, none⟩)), (11, .int .i64 4)]) (fun γ46 L => bx (γ46 0) (#[.slice none 0 0]) 24 :: L) (fun γ46 => []) (fun _ => by kernel_rfl) (fun γ46 => al0) (fun γ46 => ?_)
    refine ops_nil ?_
    refine done_seq ?_
    refine at_seq ?_
    refine at_any (by kernel_rfl) ?_
    refine any_tk (f := 5) [2] [] [6, 9, 10] [(20, .int .i64 4)] ([]) #[false, false, true, false, false, false] (by kernel_rfl) (by kernel_rfl) al0 ?_
    refine any_cut 0 #[true, true, true, true, true, true] ([(6, .pointer (some ⟨γ3 3, 0, none⟩)), (7, .int .i64 0), (8, .int .i64 4)]) ([bx (γ46 0) (#[.slice none 0 0]) 24, bx (γ35 0) (#[.slice none n cq34]) 24, bx (γ6 1) (#[.slice none 0 0]) 24, bx (γ6 0) (#[.slice p n cap]) 24, bx (γ4 0) (#[.int .i64 0]) 3, bx (γ3 3) (#[.slice none 0 0]) 24, bx (γ3 2) (#[.func (.func 68) #[] #[.pointer (some ⟨γ1 1, 0, none⟩)]]) 75, bx (γ3 1) (#[.int .i64 k]) 3, bx (γ3 0) (#[.slice p n cap]) 24, bx (γ1 2) (#[.slice none 0 0]) 24, bx (γ1 1) (#[.bool b]) 4, bx (γ1 0) (#[.slice p n cap]) 24]) ?_ (fun hm => ?_)
    rotate_left
    ·
     refine any_fork [0, 1] (by kernel_rfl) (by simp) (each_cons _ rfl ?_ (each_cons _ rfl ?_ (each_nil)))
     ·
      refine oq 1 [(0, .go (owns 0 0 1))] [6, 9, 20] [(18, .agg #[.slice none 0 0])] ([]) (fun _ => by kernel_rfl) al0 ?_
      refine ops_nil ?_
      refine done_any ?_
      refine any_fork [1, 3] (by kernel_rfl) (by simp) (each_cons _ rfl ?_ (each_cons _ rfl ?_ (each_nil)))
      ·
       refine oq 1 [(1, .go (owns 4 0 1))] [6, 18, 20] [(19, .int .i64 0)] ([]) (fun _ => by kernel_rfl) al0 ?_
       refine ops_nil ?_
       refine done_any ?_
       refine any_one 3 _ (by kernel_rfl) rfl ?_
       refine oq 1 [(3, .go (owns 5 0 1))] [6, 19, 20] [] ([]) (fun _ => by kernel_rfl) al0 ?_
       refine ops_nil ?_
       refine done_any ?_
       refine any_tk (f := 0) [4, 5] [] [6] [(7, .int .i64 0), (8, .int .i64 4)] ([]) #[true, true, true, true, true, true] (by kernel_rfl) (by kernel_rfl) al0 ?_
       exact any_weak hm [6, 7, 8] (by kernel_rfl) rfl rfl rfl
      ·
       refine oq 1 [(3, .go (owns 5 0 1))] [6, 9, 20] [] ([]) (fun _ => by kernel_rfl) al0 ?_
       refine ops_nil ?_
       refine done_any ?_
       refine any_one 1 _ (by kernel_rfl) rfl ?_
       refine oq 1 [(1, .go (owns 4 0 1))] [6, 20] [(19, .int .i64 0)] ([]) (fun _ => by kernel_rfl) al0 ?_
       refine ops_nil ?_
       refine done_any ?_
       refine any_tk (f := 0) [4, 5] [] [6] [(7, .int .i64 0), (8, .int .i64 4)] ([]) #[true, true, true, true, true, true] (by kernel_rfl) (by kernel_rfl) al0 ?_
       exact any_weak hm [6, 7, 8] (by kernel_rfl) rfl rfl rfl
     ·
      refine oq 1 [(1, .go (owns 4 0 1))] [6, 10, 20] [(19, .int .i64 0)] ([]) (fun _ => by kernel_rfl) al0 ?_
      refine ops_nil ?_
      refine done_any ?_
      refine any_one 0 _ (by kernel_rfl) rfl ?_
      refine oq 1 [(0, .go (owns 0 0 1))] [6, 19, 20] [(18, .agg #[.slice none 0 0])] ([]) (fun _ => by kernel_rfl) al0 ?_
      refine ops_nil ?_
      refine done_any ?_
      refine any_one 3 _ (by kernel_rfl) rfl ?_
      refine oq 1 [(3, .go (owns 5 0 1))] [6, 19, 20] [] ([]) (fun _ => by kernel_rfl) al0 ?_
      refine ops_nil ?_
      refine done_any ?_
      refine any_tk (f := 0) [4, 5] [] [6] [(7, .int .i64 0), (8, .int .i64 4)] ([]) #[true, true, true, true, true, true] (by kernel_rfl) (by kernel_rfl) al0 ?_
      exact any_weak hm [6, 7, 8] (by kernel_rfl) rfl rfl rfl
    refine any_nil (by kernel_rfl) ?_
    refine done_seq ?_
    refine at_back (owns 5 0 1) (.tuple #[.agg #[.slice none 0 0], .int .i64 0, .int .i64 4]) [] (by kernel_rfl) (by kernel_rfl) al0 ?_
    refine oq 6 [(7, .go (owns 9 0 1))] [6] [(7, .int .i64 0), (8, .int .i64 4)] ([]) (fun _ => by kernel_rfl) al0 ?_
    refine ops_nil ?_
    refine done_seq ?_
    refine at_return (owns 9 0 1) (.tuple #[.agg #[.slice none 0 0], .int .i64 0, .int .i64 4]) [] (by kernel_rfl) (by kernel_rfl) al0 ?_
    exact fun w' hw => by rw [turnV_none q8 hg39]; exact ⟨none, 0, 0, [], rfl, SlO.nil, hw.below, hw.sub (List.nil_sublist _)⟩
   ·
    have hy39 := (get_pos (ris_asc l 0 (right_ris q8)) hg39).1
    exact absurd (List.getElem?_eq_some_iff.1 hy39).1 (by omega)
  ·
   refine om 3 [(5, .go (owns 0 0 1))] [1, 4] (fun γ66 => [(7, .pointer (some ⟨γ66 0, 0, none⟩))]) (fun γ66 L => bx (γ66 0) (#[.slice (some ⟨g34, 0, none⟩) n cq34]) 24 :: L) (fun γ66 => []) (fun _ => by kernel_rfl) (fun γ66 => al0) (fun γ66 => ?_)
   refine ops_nil ?_
   refine done_seq ?_
   refine at_seq ?_
   refine at_seq ?_
   refine at_ops ?_
   refine oq 1 [] [4, 7] [(19, .func (.func 61) #[] #[.pointer (some ⟨γ3 1, 0, none⟩), .pointer (some ⟨γ3 2, 0, none⟩), .pointer (some ⟨γ3 0, 0, none⟩), .pointer (some ⟨γ4 0, 0, none⟩)])] ([]) (fun _ => by kernel_rfl) al0 ?_
   refine ops_inline (g := 61) (args := #[.pointer (some ⟨γ66 0, 0, none⟩), .pointer (some ⟨γ3 1, 0, none⟩), .pointer (some ⟨γ3 2, 0, none⟩), .pointer (some ⟨γ3 0, 0, none⟩), .pointer (some ⟨γ4 0, 0, none⟩)]) (by kernel_rfl) (by kernel_rfl) (by kernel_rfl) (fun args w => Try.call61 args w) Try.func61 rfl Try.ntmps61 rfl ?_
   refine at_seq ?_
   refine aq [] [0, 1, 2, 3, 4] [] ([]) (fun _ => by kernel_rfl) al0 ?_
   refine done_seq ?_
   refine at_seq ?_
   refine at_calm rfl (by kernel_rfl) (by kernel_rfl) ?_
   refine cm 5 [(3, .go (owns 0 0 1)), (4, .go (owns 6 0 1))] [0, 2, 3, 4] [(14, .slice (some ⟨g34, 0, none⟩) n cq34), (15, .int .i64 k)] ([]) (by kernel_rfl) rfl al0 ?_
   rcases hg70 : getB l k with _ | y70
   ·
    refine calm_callD (.pointer none) (by kernel_rfl) (by kernel_rfl) (by kernel_rfl) (fun args w => Try.call32 args w) (fun w hw => by have := port_d (some ⟨g34, 0, none⟩) n cq34 l k w (hO34.atN (A := [_, _, _, _, _, _, _, _, _, _, _]) hw) hnq34 (by omega) (ris_all (right_ris q8)) (ris_asc l 0 (right_ris q8)); rw [portV_none hg70] at this; exact this) ?_
    refine cm 1 [] [0, 2, 3, 4] [(7, .pointer none)] ([]) (by kernel_rfl) rfl al0 ?_
    refine calm_nil' ?_
    refine done_seq ?_
    refine at_seq ?_
    refine at_seq ?_
    refine aq [] [0, 2, 3, 4, 7] [(18, .bool true)] ([]) (fun _ => by kernel_rfl) al0 ?_
    refine done_seq ?_
    refine at_true (by kernel_rfl) ?_
    refine at_seq ?_
    refine aq [] [] [(6, .int .i64 4)] ([]) (fun _ => by kernel_rfl) al0 ?_
    refine done_seq ?_
    refine at_back ([]) (.int .i64 4) [] (by kernel_rfl) (by kernel_rfl) al0 ?_
    refine oq 1 [] [4, 7] [(8, .int .i64 4)] ([]) (fun _ => by kernel_rfl) al0 ?_
    refine ops_nil ?_
    refine done_seq ?_
    refine at_seq ?_
    refine aq [] [4, 7, 8] [(22, .bool true)] ([]) (fun _ => by kernel_rfl) al0 ?_
    refine done_seq ?_
    refine at_true (by kernel_rfl) ?_
    refine at_seq ?_
    refine aq [(2, .go (owns 1 0 1))] [4] [(5, .int .i64 4)] ([]) (fun _ => by kernel_rfl) al0 ?_
    refine done_seq ?_
    refine at_back (owns 1 0 1) (.tuple #[.agg #[.slice none 0 0], .int .i64 4]) [] (by kernel_rfl) (by kernel_rfl) al0 ?_
    refine om 6 [(7, .go (owns 0 0 1))] [6, 9] (fun γ77 => [(10, .pointer (some ⟨γ77 0, 0, none⟩)), (11, .int .i64 4)]) (fun γ77 L => bx (γ77 0) (#[.slice none 0 0]) 24 :: L) (fun γ77 => []) (fun _ => by kernel_rfl) (fun γ77 => al0) (fun γ77 => ?_)
    refine ops_nil ?_
    refine done_seq ?_
    refine at_seq ?_
    refine at_any (by kernel_rfl) ?_
    refine any_tk (f := 5) [2] [] [6, 9, 10] [(20, .int .i64 4)] ([]) #[false, false, true, false, false, false] (by kernel_rfl) (by kernel_rfl) al0 ?_
    refine any_cut 0 #[true, true, true, true, true, true] ([(6, .pointer (some ⟨γ3 3, 0, none⟩)), (7, .int .i64 0), (8, .int .i64 4)]) ([bx (γ77 0) (#[.slice none 0 0]) 24, bx (γ66 0) (#[.slice (some ⟨g34, 0, none⟩) n cq34]) 24, bx (γ6 1) (#[.slice none 0 0]) 24, bx (γ6 0) (#[.slice p n cap]) 24, bx (γ4 0) (#[.int .i64 0]) 3, bx (γ3 3) (#[.slice none 0 0]) 24, bx (γ3 2) (#[.func (.func 68) #[] #[.pointer (some ⟨γ1 1, 0, none⟩)]]) 75, bx (γ3 1) (#[.int .i64 k]) 3, bx (γ3 0) (#[.slice p n cap]) 24, bx (γ1 2) (#[.slice none 0 0]) 24, bx (γ1 1) (#[.bool b]) 4, bx (γ1 0) (#[.slice p n cap]) 24, bx g34 cs34 40]) ?_ (fun hm => ?_)
    rotate_left
    ·
     refine any_fork [0, 1] (by kernel_rfl) (by simp) (each_cons _ rfl ?_ (each_cons _ rfl ?_ (each_nil)))
     ·
      refine oq 1 [(0, .go (owns 0 0 1))] [6, 9, 20] [(18, .agg #[.slice none 0 0])] ([]) (fun _ => by kernel_rfl) al0 ?_
      refine ops_nil ?_
      refine done_any ?_
      refine any_fork [1, 3] (by kernel_rfl) (by simp) (each_cons _ rfl ?_ (each_cons _ rfl ?_ (each_nil)))
      ·
       refine oq 1 [(1, .go (owns 4 0 1))] [6, 18, 20] [(19, .int .i64 0)] ([]) (fun _ => by kernel_rfl) al0 ?_
       refine ops_nil ?_
       refine done_any ?_
       refine any_one 3 _ (by kernel_rfl) rfl ?_
       refine oq 1 [(3, .go (owns 5 0 1))] [6, 19, 20] [] ([]) (fun _ => by kernel_rfl) al0 ?_
       refine ops_nil ?_
       refine done_any ?_
       refine any_tk (f := 0) [4, 5] [] [6] [(7, .int .i64 0), (8, .int .i64 4)] ([]) #[true, true, true, true, true, true] (by kernel_rfl) (by kernel_rfl) al0 ?_
       exact any_weak hm [6, 7, 8] (by kernel_rfl) rfl rfl rfl
      ·
       refine oq 1 [(3, .go (owns 5 0 1))] [6, 9, 20] [] ([]) (fun _ => by kernel_rfl) al0 ?_
       refine ops_nil ?_
       refine done_any ?_
       refine any_one 1 _ (by kernel_rfl) rfl ?_
       refine oq 1 [(1, .go (owns 4 0 1))] [6, 20] [(19, .int .i64 0)] ([]) (fun _ => by kernel_rfl) al0 ?_
       refine ops_nil ?_
       refine done_any ?_
       refine any_tk (f := 0) [4, 5] [] [6] [(7, .int .i64 0), (8, .int .i64 4)] ([]) #[true, true, true, true, true, true] (by kernel_rfl) (by kernel_rfl) al0 ?_
       exact any_weak hm [6, 7, 8] (by kernel_rfl) rfl rfl rfl
     ·
      refine oq 1 [(1, .go (owns 4 0 1))] [6, 10, 20] [(19, .int .i64 0)] ([]) (fun _ => by kernel_rfl) al0 ?_
      refine ops_nil ?_
      refine done_any ?_
      refine any_one 0 _ (by kernel_rfl) rfl ?_
      refine oq 1 [(0, .go (owns 0 0 1))] [6, 19, 20] [(18, .agg #[.slice none 0 0])] ([]) (fun _ => by kernel_rfl) al0 ?_
      refine ops_nil ?_
      refine done_any ?_
      refine any_one 3 _ (by kernel_rfl) rfl ?_
      refine oq 1 [(3, .go (owns 5 0 1))] [6, 19, 20] [] ([]) (fun _ => by kernel_rfl) al0 ?_
      refine ops_nil ?_
      refine done_any ?_
      refine any_tk (f := 0) [4, 5] [] [6] [(7, .int .i64 0), (8, .int .i64 4)] ([]) #[true, true, true, true, true, true] (by kernel_rfl) (by kernel_rfl) al0 ?_
      exact any_weak hm [6, 7, 8] (by kernel_rfl) rfl rfl rfl
    refine any_nil (by kernel_rfl) ?_
    refine done_seq ?_
    refine at_back (owns 5 0 1) (.tuple #[.agg #[.slice none 0 0], .int .i64 0, .int .i64 4]) [] (by kernel_rfl) (by kernel_rfl) al0 ?_
    refine oq 6 [(7, .go (owns 9 0 1))] [6] [(7, .int .i64 0), (8, .int .i64 4)] ([]) (fun _ => by kernel_rfl) al0 ?_
    refine ops_nil ?_
    refine done_seq ?_
    refine at_return (owns 9 0 1) (.tuple #[.agg #[.slice none 0 0], .int .i64 0, .int .i64 4]) [] (by kernel_rfl) (by kernel_rfl) al0 ?_
    exact fun w' hw => by rw [turnV_none q8 hg70]; exact ⟨none, 0, 0, [], rfl, SlO.nil, hw.below, hw.sub (List.nil_sublist _)⟩
   ·
    have hy70 := (get_pos (ris_asc l 0 (right_ris q8)) hg70).1
    refine calm_callD (.pointer (some ⟨g34, 0 + (posB l k) * 5, none⟩)) (by kernel_rfl) (by kernel_rfl) (by kernel_rfl) (fun args w => Try.call32 args w) (fun w hw => by have := port_d (some ⟨g34, 0, none⟩) n cq34 l k w (hO34.atN (A := [_, _, _, _, _, _, _, _, _, _, _]) hw) hnq34 (by omega) (ris_all (right_ris q8)) (ris_asc l 0 (right_ris q8)); rw [portV_some hg70] at this; exact this) ?_
    refine cm 1 [] [0, 2, 3, 4] [(7, .pointer (some ⟨g34, 0 + (posB l k) * 5, none⟩))] ([]) (by kernel_rfl) rfl al0 ?_
    refine calm_nil' ?_
    refine done_seq ?_
    refine at_seq ?_
    refine at_seq ?_
    refine aq [] [0, 2, 3, 4, 7] [(18, .bool false)] ([]) (fun _ => by kernel_rfl) al0 ?_
    refine done_seq ?_
    refine at_false (by kernel_rfl) ?_
    refine at_skip ?_
    refine done_seq ?_
    refine at_seq ?_
    refine at_any (by kernel_rfl) ?_
    refine any_tk (f := 8) [1, 2, 3, 4] [] [2, 3, 4] [(21, .pointer (some ⟨g34, 0 + (posB l k) * 5, none⟩)), (24, .pointer (some ⟨γ66 0, 0, none⟩))] ([]) #[false, true, true, true, true, false, false, false, false, false, false, false] (by kernel_rfl) (by kernel_rfl) al0 ?_
    refine any_cut 6 #[true, true, true, true, true, true, false, false, false, false, false, false] ([(3, .pointer (some ⟨γ3 0, 0, none⟩)), (4, .pointer (some ⟨γ4 0, 0, none⟩)), (20, .func (.func 68) #[] #[.pointer (some ⟨γ1 1, 0, none⟩)]), (21, .pointer (some ⟨g34, 0 + (posB l k) * 5, none⟩)), (25, .slice (some ⟨g34, 0, none⟩) n cq34)]) ([bx (γ66 0) (#[.slice (some ⟨g34, 0, none⟩) n cq34]) 24, bx (γ6 1) (#[.slice none 0 0]) 24, bx (γ6 0) (#[.slice p n cap]) 24, bx (γ4 0) (#[.int .i64 0]) 3, bx (γ3 3) (#[.slice none 0 0]) 24, bx (γ3 2) (#[.func (.func 68) #[] #[.pointer (some ⟨γ1 1, 0, none⟩)]]) 75, bx (γ3 1) (#[.int .i64 k]) 3, bx (γ3 0) (#[.slice p n cap]) 24, bx (γ1 2) (#[.slice none 0 0]) 24, bx (γ1 1) (#[.bool b]) 4, bx (γ1 0) (#[.slice p n cap]) 24, bx g34 cs34 40]) ?_ (fun hm => ?_)
    rotate_left
    ·
     refine any_fork [0, 5] (by kernel_rfl) (by simp) (each_cons _ rfl ?_ (each_cons _ rfl ?_ (each_nil)))
     ·
      refine oq 1 [(0, .go (owns 5 0 1))] [3, 4, 21, 24] [(20, .func (.func 68) #[] #[.pointer (some ⟨γ1 1, 0, none⟩)])] ([]) (fun _ => by kernel_rfl) al0 ?_
      refine ops_nil ?_
      refine done_any ?_
      refine any_one 5 _ (by kernel_rfl) rfl ?_
      refine oq 1 [(5, .go (owns 0 0 1))] [3, 4, 20, 21] [(25, .slice (some ⟨g34, 0, none⟩) n cq34)] ([]) (fun _ => by kernel_rfl) al0 ?_
      refine ops_nil ?_
      refine done_any ?_
      exact any_weak hm [3, 4, 20, 21, 25] (by kernel_rfl) rfl rfl rfl
     ·
      refine oq 1 [(5, .go (owns 0 0 1))] [2, 3, 4, 21] [(25, .slice (some ⟨g34, 0, none⟩) n cq34)] ([]) (fun _ => by kernel_rfl) al0 ?_
      refine ops_nil ?_
      refine done_any ?_
      refine any_one 0 _ (by kernel_rfl) rfl ?_
      refine oq 1 [(0, .go (owns 5 0 1))] [3, 4, 21, 25] [(20, .func (.func 68) #[] #[.pointer (some ⟨γ1 1, 0, none⟩)])] ([]) (fun _ => by kernel_rfl) al0 ?_
      refine ops_nil ?_
      refine done_any ?_
      exact any_weak hm [3, 4, 20, 21, 25] (by kernel_rfl) rfl rfl rfl
    refine any_one 6 _ (by kernel_rfl) rfl ?_
    refine ops_inline (g := 68) (args := #[.pointer (some ⟨g34, 0 + (posB l k) * 5, none⟩), .slice (some ⟨g34, 0, none⟩) n cq34, .pointer (some ⟨γ1 1, 0, none⟩)]) (by kernel_rfl) (by kernel_rfl) (by kernel_rfl) (fun args w => Try.call68 args w) Try.func68 rfl Try.ntmps68 rfl ?_
    refine at_seq ?_
    refine aq [] [0, 2] [] ([]) (fun _ => by kernel_rfl) al0 ?_
    refine done_seq ?_
    refine at_seq ?_
    refine am [(1, .go (owns 9 0 1)), (4, .go (ownps 11 (0 + (posB l k) * 5 + 4) [undef]))] [0] (fun _ => []) (fun _ L => (L.set 11 (bx g34 ((cs34).setIfInBounds (0 + (posB l k) * 5 + 4) (.bool b)) 40))) (fun _ => [0 + (posB l k) * 5 + 4 < (cs34).size]) (fun _ => by kernel_rfl) (fun _ => (al1 (hOw34.room hnq34 hy70 (f := 4) (by decide)))) (fun _ => ?_)
    refine done_seq ?_
    refine at_seq ?_
    refine aq [] [] [(5, .pointer (some ⟨g34, 0 + (posB l k) * 5, none⟩)), (6, .int .i64 0)] ([]) (fun _ => by kernel_rfl) al0 ?_
    refine done_seq ?_
    refine at_back ([]) (.tuple #[.pointer (some ⟨g34, 0 + (posB l k) * 5, none⟩), .int .i64 0]) [] (by kernel_rfl) (by kernel_rfl) al0 ?_
    refine ops_nil ?_
    refine done_any ?_
    refine any_tk (f := 0) [7, 8, 9, 10, 11] [] [3, 4] [(8, .pointer (some ⟨g34, 0 + (posB l k) * 5, none⟩)), (9, .int .i64 0)] ([]) #[true, true, true, true, true, true, true, true, true, true, true, true] (by kernel_rfl) (by kernel_rfl) al0 ?_
    refine any_nil (by kernel_rfl) ?_
    refine done_seq ?_
    refine at_seq ?_
    refine at_seq ?_
    refine aq [] [3, 4, 8, 9] [(30, .bool false)] ([]) (fun _ => by kernel_rfl) al0 ?_
    refine done_seq ?_
    refine at_false (by kernel_rfl) ?_
    refine at_skip ?_
    refine done_seq ?_
    refine at_seq ?_
    refine at_calm rfl (by kernel_rfl) (by kernel_rfl) ?_
    refine cm 6 [(1, .go (owns 7 0 1)), (5, .go (ownps 11 (0 + (posB l k) * 5) [.int .i64 y70.num]))] [4, 8] [(33, .slice p n cap), (37, .int .i64 y70.num)] (acellsP ((cs34).setIfInBounds (0 + (posB l k) * 5 + 4) (.bool b)) (0 + (posB l k) * 5) [.int .i64 y70.num]) (by kernel_rfl) rfl (rda_pre (((hOw34.put (x' := (⟨y70.num, y70.vcpu, y70.peer, y70.pending, b⟩ : Port)) hnq34 hy70 (f := 4) (by decide) rfl).rdx (len_set hnq34) (get_set hy70))) _ rfl) ?_
    skip
    ·
     obtain ⟨b114, o114, rfl⟩ := hsl.pos (i := posB l y70.num) (List.getElem?_eq_some_iff.1 (get_pos (ris_asc l 0 (right_ris q8)) (get_self hg70)).1).1
     refine calm_callD (.pointer (some ⟨b114, o114 + (posB l y70.num) * 5, none⟩)) (by kernel_rfl) (by kernel_rfl) (by kernel_rfl) (fun args w => Try.call32 args w) (fun w hw => by have := port_d (some ⟨b114, o114, none⟩) n cap l y70.num w (hsl.kept hw.below) hn (by omega) (ris_all (right_ris q8)) (ris_asc l 0 (right_ris q8)); rw [portV_some (get_self hg70)] at this; exact this) ?_
     refine cm 1 [] [4, 8] [(10, .pointer (some ⟨b114, o114 + (posB l y70.num) * 5, none⟩))] ([]) (by kernel_rfl) rfl al0 ?_
     refine calm_nil' ?_
     refine done_seq ?_
     refine at_seq ?_
     refine at_seq ?_
     refine at_calm rfl (by kernel_rfl) (by kernel_rfl) ?_
     refine cm 3 [(2, .go (ownps 11 (0 + (posB l k) * 5) [.int .i64 y70.num, .int .i64 y70.vcpu, .int .i64 y70.peer, .bool y70.pending, .bool b]))] [4, 8, 10] [(41, .agg #[.int .i64 y70.num, .int .i64 y70.vcpu, .int .i64 y70.peer, .bool y70.pending, .bool b])] (acellsP ((cs34).setIfInBounds (0 + (posB l k) * 5 + 4) (.bool b)) (0 + (posB l k) * 5) [.int .i64 y70.num, .int .i64 y70.vcpu, .int .i64 y70.peer, .bool y70.pending, .bool b]) (by kernel_rfl) rfl (rda_pre (((hOw34.put (x' := (⟨y70.num, y70.vcpu, y70.peer, y70.pending, b⟩ : Port)) hnq34 hy70 (f := 4) (by decide) rfl).rdx (len_set hnq34) (get_set hy70))) _ rfl) ?_
     rcases q117 : (y70.pending && !b) with _ | _
     ·
      refine calm_callD (.bool false) (by kernel_rfl) (by kernel_rfl) (by kernel_rfl) (fun args w => Try.call39 args w) (fun w hw => by have := due_d (⟨y70.num, y70.vcpu, y70.peer, y70.pending, b⟩ : Port) w; rw [show dueB (⟨y70.num, y70.vcpu, y70.peer, y70.pending, b⟩ : Port) = false from q117] at this; exact this) ?_
      refine cm 18 [] [4, 8] [(60, .bool false)] ([]) (by kernel_rfl) rfl al0 ?_
      refine calm_nil' ?_
      refine done_seq ?_
      refine at_false (by kernel_rfl) ?_
      refine at_skip ?_
      refine done_seq ?_
      refine at_seq ?_
      refine aq [] [] [(6, .int .i64 0)] ([]) (fun _ => by kernel_rfl) al0 ?_
      refine done_seq ?_
      refine at_back ([]) (.int .i64 0) [] (by kernel_rfl) (by kernel_rfl) al0 ?_
      refine oq 1 [] [4, 7] [(8, .int .i64 0)] ([]) (fun _ => by kernel_rfl) al0 ?_
      refine ops_nil ?_
      refine done_seq ?_
      refine at_seq ?_
      refine aq [] [4, 7, 8] [(22, .bool false)] ([]) (fun _ => by kernel_rfl) al0 ?_
      refine done_seq ?_
      refine at_false (by kernel_rfl) ?_
      refine at_skip ?_
      refine done_seq ?_
      refine at_seq ?_
      refine am [(0, .go (owns 0 0 1)), (1, .go (owns 1 0 1))] [4] (fun _ => [(5, .int .i64 0)]) (fun _ L => (L.set 1 (bx (γ6 1) (#[.slice (some ⟨g34, 0, none⟩) n cq34]) 24))) (fun _ => []) (fun _ => by kernel_rfl) (fun _ => al0) (fun _ => ?_)
      refine done_seq ?_
      refine at_back (owns 1 0 1) (.tuple #[.agg #[.slice (some ⟨g34, 0, none⟩) n cq34], .int .i64 0]) [] (by kernel_rfl) (by kernel_rfl) al0 ?_
      refine om 6 [(7, .go (owns 0 0 1))] [6, 9] (fun γ123 => [(10, .pointer (some ⟨γ123 0, 0, none⟩)), (11, .int .i64 0)]) (fun γ123 L => bx (γ123 0) (#[.slice (some ⟨g34, 0, none⟩) n cq34]) 24 :: L) (fun γ123 => []) (fun _ => by kernel_rfl) (fun γ123 => al0) (fun γ123 => ?_)
      refine ops_nil ?_
      refine done_seq ?_
      refine at_seq ?_
      refine at_any (by kernel_rfl) ?_
      refine any_tk (f := 5) [2] [] [6, 9, 10] [(20, .int .i64 0)] ([]) #[false, false, true, false, false, false] (by kernel_rfl) (by kernel_rfl) al0 ?_
      refine any_cut 0 #[true, true, true, true, true, true] ([(6, .pointer (some ⟨γ3 3, 0, none⟩)), (7, .int .i64 0), (8, .int .i64 0)]) ([bx (γ123 0) (#[.slice (some ⟨g34, 0, none⟩) n cq34]) 24, bx (γ66 0) (#[.slice (some ⟨g34, 0, none⟩) n cq34]) 24, bx (γ6 1) (#[.slice (some ⟨g34, 0, none⟩) n cq34]) 24, bx (γ6 0) (#[.slice (some ⟨b114, o114, none⟩) n cap]) 24, bx (γ4 0) (#[.int .i64 0]) 3, bx (γ3 3) (#[.slice (some ⟨g34, 0, none⟩) n cq34]) 24, bx (γ3 2) (#[.func (.func 68) #[] #[.pointer (some ⟨γ1 1, 0, none⟩)]]) 75, bx (γ3 1) (#[.int .i64 k]) 3, bx (γ3 0) (#[.slice (some ⟨b114, o114, none⟩) n cap]) 24, bx (γ1 2) (#[.slice none 0 0]) 24, bx (γ1 1) (#[.bool b]) 4, bx (γ1 0) (#[.slice (some ⟨b114, o114, none⟩) n cap]) 24, bx g34 ((cs34).setIfInBounds (0 + (posB l k) * 5 + 4) (.bool b)) 40]) ?_ (fun hm => ?_)
      rotate_left
      ·
       refine any_fork [0, 1] (by kernel_rfl) (by simp) (each_cons _ rfl ?_ (each_cons _ rfl ?_ (each_nil)))
       ·
        refine oq 1 [(0, .go (owns 0 0 1))] [6, 9, 20] [(18, .agg #[.slice (some ⟨g34, 0, none⟩) n cq34])] ([]) (fun _ => by kernel_rfl) al0 ?_
        refine ops_nil ?_
        refine done_any ?_
        refine any_fork [1, 3] (by kernel_rfl) (by simp) (each_cons _ rfl ?_ (each_cons _ rfl ?_ (each_nil)))
        ·
         refine oq 1 [(1, .go (owns 4 0 1))] [6, 18, 20] [(19, .int .i64 0)] ([]) (fun _ => by kernel_rfl) al0 ?_
         refine ops_nil ?_
         refine done_any ?_
         refine any_one 3 _ (by kernel_rfl) rfl ?_
         refine om 1 [(3, .go (owns 5 0 1))] [6, 19, 20] (fun _ => []) (fun _ L => (L.set 5 (bx (γ3 3) (#[.slice (some ⟨g34, 0, none⟩) n cq34]) 24))) (fun _ => []) (fun _ => by kernel_rfl) (fun _ => al0) (fun _ => ?_)
         refine ops_nil ?_
         refine done_any ?_
         refine any_tk (f := 0) [4, 5] [] [6] [(7, .int .i64 0), (8, .int .i64 0)] ([]) #[true, true, true, true, true, true] (by kernel_rfl) (by kernel_rfl) al0 ?_
         exact any_weak hm [6, 7, 8] (by kernel_rfl) rfl rfl rfl
        ·
         refine om 1 [(3, .go (owns 5 0 1))] [6, 9, 20] (fun _ => []) (fun _ L => (L.set 5 (bx (γ3 3) (#[.slice (some ⟨g34, 0, none⟩) n cq34]) 24))) (fun _ => []) (fun _ => by kernel_rfl) (fun _ => al0) (fun _ => ?_)
         refine ops_nil ?_
         refine done_any ?_
         refine any_one 1 _ (by kernel_rfl) rfl ?_
         refine oq 1 [(1, .go (owns 4 0 1))] [6, 20] [(19, .int .i64 0)] ([]) (fun _ => by kernel_rfl) al0 ?_
         refine ops_nil ?_
         refine done_any ?_
         refine any_tk (f := 0) [4, 5] [] [6] [(7, .int .i64 0), (8, .int .i64 0)] ([]) #[true, true, true, true, true, true] (by kernel_rfl) (by kernel_rfl) al0 ?_
         exact any_weak hm [6, 7, 8] (by kernel_rfl) rfl rfl rfl
       ·
        refine oq 1 [(1, .go (owns 4 0 1))] [6, 10, 20] [(19, .int .i64 0)] ([]) (fun _ => by kernel_rfl) al0 ?_
        refine ops_nil ?_
        refine done_any ?_
        refine any_one 0 _ (by kernel_rfl) rfl ?_
        refine oq 1 [(0, .go (owns 0 0 1))] [6, 19, 20] [(18, .agg #[.slice (some ⟨g34, 0, none⟩) n cq34])] ([]) (fun _ => by kernel_rfl) al0 ?_
        refine ops_nil ?_
        refine done_any ?_
        refine any_one 3 _ (by kernel_rfl) rfl ?_
        refine om 1 [(3, .go (owns 5 0 1))] [6, 19, 20] (fun _ => []) (fun _ L => (L.set 5 (bx (γ3 3) (#[.slice (some ⟨g34, 0, none⟩) n cq34]) 24))) (fun _ => []) (fun _ => by kernel_rfl) (fun _ => al0) (fun _ => ?_)
        refine ops_nil ?_
        refine done_any ?_
        refine any_tk (f := 0) [4, 5] [] [6] [(7, .int .i64 0), (8, .int .i64 0)] ([]) #[true, true, true, true, true, true] (by kernel_rfl) (by kernel_rfl) al0 ?_
        exact any_weak hm [6, 7, 8] (by kernel_rfl) rfl rfl rfl
      refine any_nil (by kernel_rfl) ?_
      refine done_seq ?_
      refine at_back (owns 5 0 1) (.tuple #[.agg #[.slice (some ⟨g34, 0, none⟩) n cq34], .int .i64 0, .int .i64 0]) [] (by kernel_rfl) (by kernel_rfl) al0 ?_
      refine om 6 [(7, .go (owns 9 0 1))] [6] (fun _ => [(7, .int .i64 0), (8, .int .i64 0)]) (fun _ L => (L.set 9 (bx (γ1 2) (#[.slice (some ⟨g34, 0, none⟩) n cq34]) 24))) (fun _ => []) (fun _ => by kernel_rfl) (fun _ => al0) (fun _ => ?_)
      refine ops_nil ?_
      refine done_seq ?_
      refine at_return (owns 9 0 1) (.tuple #[.agg #[.slice (some ⟨g34, 0, none⟩) n cq34], .int .i64 0, .int .i64 0]) [] (by kernel_rfl) (by kernel_rfl) al0 ?_
      exact fun w' hw => by rw [turnV_ok q8 hg70, turnP_no (y := y70) (z := (⟨y70.num, y70.vcpu, y70.peer, y70.pending, b⟩ : Port)) (fun ⟨a, _⟩ => absurd (a.symm.trans q117) (by decide)), pos_of hg70]; exact ⟨_, _, _, _, rfl, (SlO.ofOwn (hOw34.put (x' := (⟨y70.num, y70.vcpu, y70.peer, y70.pending, b⟩ : Port)) hnq34 hy70 (f := 4) (by decide) rfl) (len_set hnq34)), hw.below, hw.tailN 12⟩
     ·
      refine calm_callD (.bool true) (by kernel_rfl) (by kernel_rfl) (by kernel_rfl) (fun args w => Try.call39 args w) (fun w hw => by have := due_d (⟨y70.num, y70.vcpu, y70.peer, y70.pending, b⟩ : Port) w; rw [show dueB (⟨y70.num, y70.vcpu, y70.peer, y70.pending, b⟩ : Port) = true from q117] at this; exact this) ?_
      refine cm 4 [(7, .go (outs b114 (o114 + (posB l y70.num) * 5) [.int .i64 y70.num, .int .i64 y70.vcpu, .int .i64 y70.peer, .bool y70.pending, .bool y70.masked]))] [4, 8, 10] [(43, .bool true), (46, .agg #[.int .i64 y70.num, .int .i64 y70.vcpu, .int .i64 y70.peer, .bool y70.pending, .bool y70.masked])] (cellsP w b114 (o114 + (posB l y70.num) * 5) [.int .i64 y70.num, .int .i64 y70.vcpu, .int .i64 y70.peer, .bool y70.pending, .bool y70.masked]) (by kernel_rfl) rfl (rd_pre (hsl.get (get_pos (ris_asc l 0 (right_ris q8)) (get_self hg70)).1) _ rfl) ?_
      rcases q143 : (y70.pending && !y70.masked) with _ | _
      ·
       refine calm_callD (.bool false) (by kernel_rfl) (by kernel_rfl) (by kernel_rfl) (fun args w => Try.call39 args w) (fun w hw => by have := due_d (⟨y70.num, y70.vcpu, y70.peer, y70.pending, y70.masked⟩ : Port) w; rw [show dueB (⟨y70.num, y70.vcpu, y70.peer, y70.pending, y70.masked⟩ : Port) = false from q143] at this; exact this) ?_
       refine cm 13 [] [4, 8] [(60, .bool true)] ([]) (by kernel_rfl) rfl al0 ?_
       refine calm_nil' ?_
       refine done_seq ?_
       refine at_true (by kernel_rfl) ?_
       refine am [(3, .go (ownps 11 (0 + (posB l k) * 5 + 1) [.int .i64 y70.vcpu])), (4, .go (owns 3 0 1))] [] (fun _ => []) (fun _ L => (L.set 3 (bx (γ4 0) (#[.int .i64 y70.vcpu]) 3))) (fun _ => acellsP ((cs34).setIfInBounds (0 + (posB l k) * 5 + 4) (.bool b)) (0 + (posB l k) * 5 + 1) [.int .i64 y70.vcpu]) (fun _ => by kernel_rfl) (fun _ => (rda_part (((hOw34.put (x' := (⟨y70.num, y70.vcpu, y70.peer, y70.pending, b⟩ : Port)) hnq34 hy70 (f := 4) (by decide) rfl).rdx (len_set hnq34) (get_set hy70))) 1 _ rfl)) (fun _ => ?_)
       refine done_seq ?_
       refine at_seq ?_
       refine aq [] [] [(6, .int .i64 0)] ([]) (fun _ => by kernel_rfl) al0 ?_
       refine done_seq ?_
       refine at_back ([]) (.int .i64 0) [] (by kernel_rfl) (by kernel_rfl) al0 ?_
       refine oq 1 [] [4, 7] [(8, .int .i64 0)] ([]) (fun _ => by kernel_rfl) al0 ?_
       refine ops_nil ?_
       refine done_seq ?_
       refine at_seq ?_
       refine aq [] [4, 7, 8] [(22, .bool false)] ([]) (fun _ => by kernel_rfl) al0 ?_
       refine done_seq ?_
       refine at_false (by kernel_rfl) ?_
       refine at_skip ?_
       refine done_seq ?_
       refine at_seq ?_
       refine am [(0, .go (owns 0 0 1)), (1, .go (owns 1 0 1))] [4] (fun _ => [(5, .int .i64 0)]) (fun _ L => (L.set 1 (bx (γ6 1) (#[.slice (some ⟨g34, 0, none⟩) n cq34]) 24))) (fun _ => []) (fun _ => by kernel_rfl) (fun _ => al0) (fun _ => ?_)
       refine done_seq ?_
       refine at_back (owns 1 0 1) (.tuple #[.agg #[.slice (some ⟨g34, 0, none⟩) n cq34], .int .i64 0]) [] (by kernel_rfl) (by kernel_rfl) al0 ?_
       refine om 6 [(7, .go (owns 0 0 1))] [6, 9] (fun γ150 => [(10, .pointer (some ⟨γ150 0, 0, none⟩)), (11, .int .i64 0)]) (fun γ150 L => bx (γ150 0) (#[.slice (some ⟨g34, 0, none⟩) n cq34]) 24 :: L) (fun γ150 => []) (fun _ => by kernel_rfl) (fun γ150 => al0) (fun γ150 => ?_)
       refine ops_nil ?_
       refine done_seq ?_
       refine at_seq ?_
       refine at_any (by kernel_rfl) ?_
       refine any_tk (f := 5) [2] [] [6, 9, 10] [(20, .int .i64 0)] ([]) #[false, false, true, false, false, false] (by kernel_rfl) (by kernel_rfl) al0 ?_
       refine any_cut 0 #[true, true, true, true, true, true] ([(6, .pointer (some ⟨γ3 3, 0, none⟩)), (7, .int .i64 y70.vcpu), (8, .int .i64 0)]) ([bx (γ150 0) (#[.slice (some ⟨g34, 0, none⟩) n cq34]) 24, bx (γ66 0) (#[.slice (some ⟨g34, 0, none⟩) n cq34]) 24, bx (γ6 1) (#[.slice (some ⟨g34, 0, none⟩) n cq34]) 24, bx (γ6 0) (#[.slice (some ⟨b114, o114, none⟩) n cap]) 24, bx (γ4 0) (#[.int .i64 y70.vcpu]) 3, bx (γ3 3) (#[.slice (some ⟨g34, 0, none⟩) n cq34]) 24, bx (γ3 2) (#[.func (.func 68) #[] #[.pointer (some ⟨γ1 1, 0, none⟩)]]) 75, bx (γ3 1) (#[.int .i64 k]) 3, bx (γ3 0) (#[.slice (some ⟨b114, o114, none⟩) n cap]) 24, bx (γ1 2) (#[.slice none 0 0]) 24, bx (γ1 1) (#[.bool b]) 4, bx (γ1 0) (#[.slice (some ⟨b114, o114, none⟩) n cap]) 24, bx g34 ((cs34).setIfInBounds (0 + (posB l k) * 5 + 4) (.bool b)) 40]) ?_ (fun hm => ?_)
       rotate_left
       ·
        refine any_fork [0, 1] (by kernel_rfl) (by simp) (each_cons _ rfl ?_ (each_cons _ rfl ?_ (each_nil)))
        ·
         refine oq 1 [(0, .go (owns 0 0 1))] [6, 9, 20] [(18, .agg #[.slice (some ⟨g34, 0, none⟩) n cq34])] ([]) (fun _ => by kernel_rfl) al0 ?_
         refine ops_nil ?_
         refine done_any ?_
         refine any_fork [1, 3] (by kernel_rfl) (by simp) (each_cons _ rfl ?_ (each_cons _ rfl ?_ (each_nil)))
         ·
          refine oq 1 [(1, .go (owns 4 0 1))] [6, 18, 20] [(19, .int .i64 y70.vcpu)] ([]) (fun _ => by kernel_rfl) al0 ?_
          refine ops_nil ?_
          refine done_any ?_
          refine any_one 3 _ (by kernel_rfl) rfl ?_
          refine om 1 [(3, .go (owns 5 0 1))] [6, 19, 20] (fun _ => []) (fun _ L => (L.set 5 (bx (γ3 3) (#[.slice (some ⟨g34, 0, none⟩) n cq34]) 24))) (fun _ => []) (fun _ => by kernel_rfl) (fun _ => al0) (fun _ => ?_)
          refine ops_nil ?_
          refine done_any ?_
          refine any_tk (f := 0) [4, 5] [] [6] [(7, .int .i64 y70.vcpu), (8, .int .i64 0)] ([]) #[true, true, true, true, true, true] (by kernel_rfl) (by kernel_rfl) al0 ?_
          exact any_weak hm [6, 7, 8] (by kernel_rfl) rfl rfl rfl
         ·
          refine om 1 [(3, .go (owns 5 0 1))] [6, 9, 20] (fun _ => []) (fun _ L => (L.set 5 (bx (γ3 3) (#[.slice (some ⟨g34, 0, none⟩) n cq34]) 24))) (fun _ => []) (fun _ => by kernel_rfl) (fun _ => al0) (fun _ => ?_)
          refine ops_nil ?_
          refine done_any ?_
          refine any_one 1 _ (by kernel_rfl) rfl ?_
          refine oq 1 [(1, .go (owns 4 0 1))] [6, 20] [(19, .int .i64 y70.vcpu)] ([]) (fun _ => by kernel_rfl) al0 ?_
          refine ops_nil ?_
          refine done_any ?_
          refine any_tk (f := 0) [4, 5] [] [6] [(7, .int .i64 y70.vcpu), (8, .int .i64 0)] ([]) #[true, true, true, true, true, true] (by kernel_rfl) (by kernel_rfl) al0 ?_
          exact any_weak hm [6, 7, 8] (by kernel_rfl) rfl rfl rfl
        ·
         refine oq 1 [(1, .go (owns 4 0 1))] [6, 10, 20] [(19, .int .i64 y70.vcpu)] ([]) (fun _ => by kernel_rfl) al0 ?_
         refine ops_nil ?_
         refine done_any ?_
         refine any_one 0 _ (by kernel_rfl) rfl ?_
         refine oq 1 [(0, .go (owns 0 0 1))] [6, 19, 20] [(18, .agg #[.slice (some ⟨g34, 0, none⟩) n cq34])] ([]) (fun _ => by kernel_rfl) al0 ?_
         refine ops_nil ?_
         refine done_any ?_
         refine any_one 3 _ (by kernel_rfl) rfl ?_
         refine om 1 [(3, .go (owns 5 0 1))] [6, 19, 20] (fun _ => []) (fun _ L => (L.set 5 (bx (γ3 3) (#[.slice (some ⟨g34, 0, none⟩) n cq34]) 24))) (fun _ => []) (fun _ => by kernel_rfl) (fun _ => al0) (fun _ => ?_)
         refine ops_nil ?_
         refine done_any ?_
         refine any_tk (f := 0) [4, 5] [] [6] [(7, .int .i64 y70.vcpu), (8, .int .i64 0)] ([]) #[true, true, true, true, true, true] (by kernel_rfl) (by kernel_rfl) al0 ?_
         exact any_weak hm [6, 7, 8] (by kernel_rfl) rfl rfl rfl
       refine any_nil (by kernel_rfl) ?_
       refine done_seq ?_
       refine at_back (owns 5 0 1) (.tuple #[.agg #[.slice (some ⟨g34, 0, none⟩) n cq34], .int .i64 y70.vcpu, .int .i64 0]) [] (by kernel_rfl) (by kernel_rfl) al0 ?_
       refine om 6 [(7, .go (owns 9 0 1))] [6] (fun _ => [(7, .int .i64 y70.vcpu), (8, .int .i64 0)]) (fun _ L => (L.set 9 (bx (γ1 2) (#[.slice (some ⟨g34, 0, none⟩) n cq34]) 24))) (fun _ => []) (fun _ => by kernel_rfl) (fun _ => al0) (fun _ => ?_)
       refine ops_nil ?_
       refine done_seq ?_
       refine at_return (owns 9 0 1) (.tuple #[.agg #[.slice (some ⟨g34, 0, none⟩) n cq34], .int .i64 y70.vcpu, .int .i64 0]) [] (by kernel_rfl) (by kernel_rfl) al0 ?_
       exact fun w' hw => by rw [turnV_ok q8 hg70, turnP_yes (y := y70) (z := (⟨y70.num, y70.vcpu, y70.peer, y70.pending, b⟩ : Port)) q117 (.inl q143), pos_of hg70]; exact ⟨_, _, _, _, rfl, (SlO.ofOwn (hOw34.put (x' := (⟨y70.num, y70.vcpu, y70.peer, y70.pending, b⟩ : Port)) hnq34 hy70 (f := 4) (by decide) rfl) (len_set hnq34)), hw.below, hw.tailN 12⟩
      ·
       refine calm_callD (.bool true) (by kernel_rfl) (by kernel_rfl) (by kernel_rfl) (fun args w => Try.call39 args w) (fun w hw => by have := due_d (⟨y70.num, y70.vcpu, y70.peer, y70.pending, y70.masked⟩ : Port) w; rw [show dueB (⟨y70.num, y70.vcpu, y70.peer, y70.pending, y70.masked⟩ : Port) = true from q143] at this; exact this) ?_
       refine cm 13 [(14, .go (outs b114 (o114 + (posB l y70.num) * 5 + 1) [.int .i64 y70.vcpu])), (18, .go (ownps 11 (0 + (posB l k) * 5 + 1) [.int .i64 y70.vcpu])), (19, .no)] [4, 8] [(60, .bool false)] (cellsP w b114 (o114 + (posB l y70.num) * 5 + 1) [.int .i64 y70.vcpu] ++ (acellsP ((cs34).setIfInBounds (0 + (posB l k) * 5 + 4) (.bool b)) (0 + (posB l k) * 5 + 1) [.int .i64 y70.vcpu] ++ ([¬ ((y70.vcpu : Int) ≠ (y70.vcpu : Int))]))) (by kernel_rfl) rfl (alA (rd_part (hsl.get (get_pos (ris_asc l 0 (right_ris q8)) (get_self hg70)).1) 1 _ rfl) (alA (rda_part (((hOw34.put (x' := (⟨y70.num, y70.vcpu, y70.peer, y70.pending, b⟩ : Port)) hnq34 hy70 (f := 4) (by decide) rfl).rdx (len_set hnq34) (get_set hy70))) 1 _ rfl) (al1 ((fun h => h rfl))))) ?_
       refine calm_nil' ?_
       refine done_seq ?_
       refine at_false (by kernel_rfl) ?_
       refine at_skip ?_
       refine done_seq ?_
       refine at_seq ?_
       refine aq [] [] [(6, .int .i64 0)] ([]) (fun _ => by kernel_rfl) al0 ?_
       refine done_seq ?_
       refine at_back ([]) (.int .i64 0) [] (by kernel_rfl) (by kernel_rfl) al0 ?_
       refine oq 1 [] [4, 7] [(8, .int .i64 0)] ([]) (fun _ => by kernel_rfl) al0 ?_
       refine ops_nil ?_
       refine done_seq ?_
       refine at_seq ?_
       refine aq [] [4, 7, 8] [(22, .bool false)] ([]) (fun _ => by kernel_rfl) al0 ?_
       refine done_seq ?_
       refine at_false (by kernel_rfl) ?_
       refine at_skip ?_
       refine done_seq ?_
       refine at_seq ?_
       refine am [(0, .go (owns 0 0 1)), (1, .go (owns 1 0 1))] [4] (fun _ => [(5, .int .i64 0)]) (fun _ L => (L.set 1 (bx (γ6 1) (#[.slice (some ⟨g34, 0, none⟩) n cq34]) 24))) (fun _ => []) (fun _ => by kernel_rfl) (fun _ => al0) (fun _ => ?_)
       refine done_seq ?_
       refine at_back (owns 1 0 1) (.tuple #[.agg #[.slice (some ⟨g34, 0, none⟩) n cq34], .int .i64 0]) [] (by kernel_rfl) (by kernel_rfl) al0 ?_
       refine om 6 [(7, .go (owns 0 0 1))] [6, 9] (fun γ174 => [(10, .pointer (some ⟨γ174 0, 0, none⟩)), (11, .int .i64 0)]) (fun γ174 L => bx (γ174 0) (#[.slice (some ⟨g34, 0, none⟩) n cq34]) 24 :: L) (fun γ174 => []) (fun _ => by kernel_rfl) (fun γ174 => al0) (fun γ174 => ?_)
       refine ops_nil ?_
       refine done_seq ?_
       refine at_seq ?_
       refine at_any (by kernel_rfl) ?_
       refine any_tk (f := 5) [2] [] [6, 9, 10] [(20, .int .i64 0)] ([]) #[false, false, true, false, false, false] (by kernel_rfl) (by kernel_rfl) al0 ?_
       refine any_cut 0 #[true, true, true, true, true, true] ([(6, .pointer (some ⟨γ3 3, 0, none⟩)), (7, .int .i64 0), (8, .int .i64 0)]) ([bx (γ174 0) (#[.slice (some ⟨g34, 0, none⟩) n cq34]) 24, bx (γ66 0) (#[.slice (some ⟨g34, 0, none⟩) n cq34]) 24, bx (γ6 1) (#[.slice (some ⟨g34, 0, none⟩) n cq34]) 24, bx (γ6 0) (#[.slice (some ⟨b114, o114, none⟩) n cap]) 24, bx (γ4 0) (#[.int .i64 0]) 3, bx (γ3 3) (#[.slice (some ⟨g34, 0, none⟩) n cq34]) 24, bx (γ3 2) (#[.func (.func 68) #[] #[.pointer (some ⟨γ1 1, 0, none⟩)]]) 75, bx (γ3 1) (#[.int .i64 k]) 3, bx (γ3 0) (#[.slice (some ⟨b114, o114, none⟩) n cap]) 24, bx (γ1 2) (#[.slice none 0 0]) 24, bx (γ1 1) (#[.bool b]) 4, bx (γ1 0) (#[.slice (some ⟨b114, o114, none⟩) n cap]) 24, bx g34 ((cs34).setIfInBounds (0 + (posB l k) * 5 + 4) (.bool b)) 40]) ?_ (fun hm => ?_)
       rotate_left
       ·
        refine any_fork [0, 1] (by kernel_rfl) (by simp) (each_cons _ rfl ?_ (each_cons _ rfl ?_ (each_nil)))
        ·
         refine oq 1 [(0, .go (owns 0 0 1))] [6, 9, 20] [(18, .agg #[.slice (some ⟨g34, 0, none⟩) n cq34])] ([]) (fun _ => by kernel_rfl) al0 ?_
         refine ops_nil ?_
         refine done_any ?_
         refine any_fork [1, 3] (by kernel_rfl) (by simp) (each_cons _ rfl ?_ (each_cons _ rfl ?_ (each_nil)))
         ·
          refine oq 1 [(1, .go (owns 4 0 1))] [6, 18, 20] [(19, .int .i64 0)] ([]) (fun _ => by kernel_rfl) al0 ?_
          refine ops_nil ?_
          refine done_any ?_
          refine any_one 3 _ (by kernel_rfl) rfl ?_
          refine om 1 [(3, .go (owns 5 0 1))] [6, 19, 20] (fun _ => []) (fun _ L => (L.set 5 (bx (γ3 3) (#[.slice (some ⟨g34, 0, none⟩) n cq34]) 24))) (fun _ => []) (fun _ => by kernel_rfl) (fun _ => al0) (fun _ => ?_)
          refine ops_nil ?_
          refine done_any ?_
          refine any_tk (f := 0) [4, 5] [] [6] [(7, .int .i64 0), (8, .int .i64 0)] ([]) #[true, true, true, true, true, true] (by kernel_rfl) (by kernel_rfl) al0 ?_
          exact any_weak hm [6, 7, 8] (by kernel_rfl) rfl rfl rfl
         ·
          refine om 1 [(3, .go (owns 5 0 1))] [6, 9, 20] (fun _ => []) (fun _ L => (L.set 5 (bx (γ3 3) (#[.slice (some ⟨g34, 0, none⟩) n cq34]) 24))) (fun _ => []) (fun _ => by kernel_rfl) (fun _ => al0) (fun _ => ?_)
          refine ops_nil ?_
          refine done_any ?_
          refine any_one 1 _ (by kernel_rfl) rfl ?_
          refine oq 1 [(1, .go (owns 4 0 1))] [6, 20] [(19, .int .i64 0)] ([]) (fun _ => by kernel_rfl) al0 ?_
          refine ops_nil ?_
          refine done_any ?_
          refine any_tk (f := 0) [4, 5] [] [6] [(7, .int .i64 0), (8, .int .i64 0)] ([]) #[true, true, true, true, true, true] (by kernel_rfl) (by kernel_rfl) al0 ?_
          exact any_weak hm [6, 7, 8] (by kernel_rfl) rfl rfl rfl
        ·
         refine oq 1 [(1, .go (owns 4 0 1))] [6, 10, 20] [(19, .int .i64 0)] ([]) (fun _ => by kernel_rfl) al0 ?_
         refine ops_nil ?_
         refine done_any ?_
         refine any_one 0 _ (by kernel_rfl) rfl ?_
         refine oq 1 [(0, .go (owns 0 0 1))] [6, 19, 20] [(18, .agg #[.slice (some ⟨g34, 0, none⟩) n cq34])] ([]) (fun _ => by kernel_rfl) al0 ?_
         refine ops_nil ?_
         refine done_any ?_
         refine any_one 3 _ (by kernel_rfl) rfl ?_
         refine om 1 [(3, .go (owns 5 0 1))] [6, 19, 20] (fun _ => []) (fun _ L => (L.set 5 (bx (γ3 3) (#[.slice (some ⟨g34, 0, none⟩) n cq34]) 24))) (fun _ => []) (fun _ => by kernel_rfl) (fun _ => al0) (fun _ => ?_)
         refine ops_nil ?_
         refine done_any ?_
         refine any_tk (f := 0) [4, 5] [] [6] [(7, .int .i64 0), (8, .int .i64 0)] ([]) #[true, true, true, true, true, true] (by kernel_rfl) (by kernel_rfl) al0 ?_
         exact any_weak hm [6, 7, 8] (by kernel_rfl) rfl rfl rfl
       refine any_nil (by kernel_rfl) ?_
       refine done_seq ?_
       refine at_back (owns 5 0 1) (.tuple #[.agg #[.slice (some ⟨g34, 0, none⟩) n cq34], .int .i64 0, .int .i64 0]) [] (by kernel_rfl) (by kernel_rfl) al0 ?_
       refine om 6 [(7, .go (owns 9 0 1))] [6] (fun _ => [(7, .int .i64 0), (8, .int .i64 0)]) (fun _ L => (L.set 9 (bx (γ1 2) (#[.slice (some ⟨g34, 0, none⟩) n cq34]) 24))) (fun _ => []) (fun _ => by kernel_rfl) (fun _ => al0) (fun _ => ?_)
       refine ops_nil ?_
       refine done_seq ?_
       refine at_return (owns 9 0 1) (.tuple #[.agg #[.slice (some ⟨g34, 0, none⟩) n cq34], .int .i64 0, .int .i64 0]) [] (by kernel_rfl) (by kernel_rfl) al0 ?_
       exact fun w' hw => by rw [turnV_ok q8 hg70, turnP_no (y := y70) (z := (⟨y70.num, y70.vcpu, y70.peer, y70.pending, b⟩ : Port)) (fun ⟨_, b⟩ => b.elim (fun e => absurd (e.symm.trans q143) (by decide)) (fun e => e rfl)), pos_of hg70]; exact ⟨_, _, _, _, rfl, (SlO.ofOwn (hOw34.put (x' := (⟨y70.num, y70.vcpu, y70.peer, y70.pending, b⟩ : Port)) hnq34 hy70 (f := 4) (by decide) rfl) (len_set hnq34)), hw.below, hw.tailN 12⟩
end Go.Proofs.Ytfhlmijdokfdpaa

/-! event.Bind. -/
namespace Go.Proofs.Ytfhlmijdokfdpaa
open Go Go.RowKit

set_option maxRecDepth 100000 in
theorem bind_d (p : Option Addr) (n cap : Nat) (l : List Port) (k own : Int) (w : World)
 (hsl : Sv w p l) (hn : n = l.length) (hb : n ≤ 1000)
 : Calls Try.prog 46 #[.agg #[.slice p n cap], .int .i64 k, .int .i64 own] w fun e w' => ∃ q m capq Y, e = .returned (.tuple #[.agg #[.slice q m capq], .int .i64 (bindV l k own).2.1, .int .i64 (bindV l k own).2.2]) ∧ SlO 40 Y q m capq (bindV l k own).1 ∧ Below w.heap.size w w' ∧ Hs w Y w' := by
 refine enter (Hs.start w) Try.func46 rfl Try.ntmps46 rfl ?_
 refine at_seq ?_
 refine am [] [1] (fun γ1 => [(3, .pointer (some ⟨γ1 0, 0, none⟩)), (5, .pointer (some ⟨γ1 1, 0, none⟩)), (6, .pointer (some ⟨γ1 2, 0, none⟩))]) (fun γ1 L => bx (γ1 2) (#[.slice none 0 0]) 24 :: bx (γ1 1) (#[.int .i64 own]) 3 :: bx (γ1 0) (#[.slice p n cap]) 24 :: L) (fun γ1 => []) (fun _ => by kernel_rfl) (fun γ1 => al0) (fun γ1 => ?_)
 refine done_seq ?_
 refine at_seq ?_
 refine at_seq ?_
 refine at_ops ?_
 refine oq 1 [(0, .go (owns 2 0 1))] [1, 3, 5, 6] [(10, .agg #[.slice p n cap])] ([]) (fun _ => by kernel_rfl) al0 ?_
 rcases q3 : rightB l with _ | _
 ·
  refine ops_callD (.int .i64 260) (by kernel_rfl) (by kernel_rfl) (by kernel_rfl) (fun args w => Try.call16 args w) (fun w hw => by have := check_d p n cap l w (hsl.kept hw.below) hn hb; rw [q3] at this; exact this) ?_
  refine oq 1 [] [1, 3, 5, 6] [(9, .int .i64 260)] ([]) (fun _ => by kernel_rfl) al0 ?_
  refine ops_nil ?_
  refine done_seq ?_
  refine at_seq ?_
  refine aq [] [1, 3, 5, 6] [(18, .bool false)] ([]) (fun _ => by kernel_rfl) al0 ?_
  refine done_seq ?_
  refine at_false (by kernel_rfl) ?_
  refine at_skip ?_
  refine done_seq ?_
  refine at_seq ?_
  refine at_ops ?_
  refine oq 3 [(0, .go (owns 2 0 1))] [6] [(20, .agg #[.slice p n cap]), (21, .int .i64 k), (22, .func (.func 69) #[] #[.pointer (some ⟨γ1 1, 0, none⟩)])] ([]) (fun _ => by kernel_rfl) al0 ?_
  refine ops_inline (g := 40) (args := #[.agg #[.slice p n cap], .int .i64 k, .func (.func 69) #[] #[.pointer (some ⟨γ1 1, 0, none⟩)]]) (by kernel_rfl) (by kernel_rfl) (by kernel_rfl) (fun args w => Try.call40 args w) Try.func40 rfl Try.ntmps40 rfl ?_
  refine at_seq ?_
  refine am [] [] (fun γ7 => [(3, .pointer (some ⟨γ7 0, 0, none⟩)), (4, .pointer (some ⟨γ7 1, 0, none⟩)), (5, .pointer (some ⟨γ7 2, 0, none⟩)), (6, .pointer (some ⟨γ7 3, 0, none⟩))]) (fun γ7 L => bx (γ7 3) (#[.slice none 0 0]) 24 :: bx (γ7 2) (#[.func (.func 69) #[] #[.pointer (some ⟨γ1 1, 0, none⟩)]]) 75 :: bx (γ7 1) (#[.int .i64 k]) 3 :: bx (γ7 0) (#[.slice p n cap]) 24 :: L) (fun γ7 => []) (fun _ => by kernel_rfl) (fun γ7 => al0) (fun γ7 => ?_)
  refine done_seq ?_
  refine at_seq ?_
  refine am [(1, .go (owns 0 0 1))] [3, 4, 5, 6] (fun γ8 => [(9, .pointer (some ⟨γ8 0, 0, none⟩))]) (fun γ8 L => bx (γ8 0) (#[.int .i64 0]) 3 :: L) (fun γ8 => []) (fun _ => by kernel_rfl) (fun γ8 => al0) (fun γ8 => ?_)
  refine done_seq ?_
  refine at_seq ?_
  refine at_ops ?_
  refine oq 2 [(0, .go (owns 4 0 1))] [6, 9] [(13, .agg #[.slice p n cap]), (14, .func (.func 61) #[] #[.pointer (some ⟨γ7 1, 0, none⟩), .pointer (some ⟨γ7 2, 0, none⟩), .pointer (some ⟨γ7 0, 0, none⟩), .pointer (some ⟨γ8 0, 0, none⟩)])] ([]) (fun _ => by kernel_rfl) al0 ?_
  refine ops_inline (g := 54) (args := #[.agg #[.slice p n cap], .func (.func 61) #[] #[.pointer (some ⟨γ7 1, 0, none⟩), .pointer (some ⟨γ7 2, 0, none⟩), .pointer (some ⟨γ7 0, 0, none⟩), .pointer (some ⟨γ8 0, 0, none⟩)]]) (by kernel_rfl) (by kernel_rfl) (by kernel_rfl) (fun args w => Try.call54 args w) Try.func54 rfl Try.ntmps54 rfl ?_
  refine at_seq ?_
  refine am [] [1] (fun γ10 => [(2, .pointer (some ⟨γ10 0, 0, none⟩)), (4, .pointer (some ⟨γ10 1, 0, none⟩))]) (fun γ10 L => bx (γ10 1) (#[.slice none 0 0]) 24 :: bx (γ10 0) (#[.slice p n cap]) 24 :: L) (fun γ10 => []) (fun _ => by kernel_rfl) (fun γ10 => al0) (fun γ10 => ?_)
  refine done_seq ?_
  refine at_seq ?_
  refine at_seq ?_
  refine at_ops ?_
  refine oq 1 [(0, .go (owns 1 0 1))] [1, 2, 4] [(9, .agg #[.slice p n cap])] ([]) (fun _ => by kernel_rfl) al0 ?_
  refine ops_callD (.int .i64 260) (by kernel_rfl) (by kernel_rfl) (by kernel_rfl) (fun args w => Try.call16 args w) (fun w hw => by have := check_d p n cap l w (hsl.kept hw.below) hn hb; rw [q3] at this; exact this) ?_
  refine oq 1 [] [1, 2, 4] [(6, .int .i64 260)] ([]) (fun _ => by kernel_rfl) al0 ?_
  refine ops_nil ?_
  refine done_seq ?_
  refine at_seq ?_
  refine aq [] [1, 2, 4, 6] [(12, .bool true)] ([]) (fun _ => by kernel_rfl) al0 ?_
  refine done_seq ?_
  refine at_true (by kernel_rfl) ?_
  refine at_seq ?_
  refine aq [(2, .go (owns 0 0 1))] [4] [(5, .int .i64 260)] ([]) (fun _ => by kernel_rfl) al0 ?_
  refine done_seq ?_
  refine at_back (owns 0 0 1) (.tuple #[.agg #[.slice none 0 0], .int .i64 260]) [] (by kernel_rfl) (by kernel_rfl) al0 ?_
  refine om 6 [(7, .go (owns 0 0 1))] [6, 9] (fun γ15 => [(10, .pointer (some ⟨γ15 0, 0, none⟩)), (11, .int .i64 260)]) (fun γ15 L => bx (γ15 0) (#[.slice none 0 0]) 24 :: L) (fun γ15 => []) (fun _ => by kernel_rfl) (fun γ15 => al0) (fun γ15 => ?_)
  refine ops_nil ?_
  refine done_seq ?_
  refine at_seq ?_
  refine at_any (by kernel_rfl) ?_
  refine any_tk (f := 5) [2] [] [6, 9, 10] [(20, .int .i64 260)] ([]) #[false, false, true, false, false, false] (by kernel_rfl) (by kernel_rfl) al0 ?_
  refine any_cut 0 #[true, true, true, true, true, true] ([(6, .pointer (some ⟨γ7 3, 0, none⟩)), (7, .int .i64 0), (8, .int .i64 260)]) ([bx (γ15 0) (#[.slice none 0 0]) 24, bx (γ10 1) (#[.slice none 0 0]) 24, bx (γ10 0) (#[.slice p n cap]) 24, bx (γ8 0) (#[.int .i64 0]) 3, bx (γ7 3) (#[.slice none 0 0]) 24, bx (γ7 2) (#[.func (.func 69) #[] #[.pointer (some ⟨γ1 1, 0, none⟩)]]) 75, bx (γ7 1) (#[.int .i64 k]) 3, bx (γ7 0) (#[.slice p n cap]) 24, bx (γ1 2) (#[.slice none 0 0]) 24, bx (γ1 1) (#[.int .i64 own]) 3, bx (γ1 0) (#[.slice p n cap]) 24]) ?_ (fun hm => ?_)
  rotate_left
  ·
   refine any_fork [0, 1] (by kernel_rfl) (by simp) (each_cons _ rfl ?_ (each_cons _ rfl ?_ (each_nil)))
   ·
    refine oq 1 [(0, .go (owns 0 0 1))] [6, 9, 20] [(18, .agg #[.slice none 0 0])] ([]) (fun _ => by kernel_rfl) al0 ?_
    refine ops_nil ?_
    refine done_any ?_
    refine any_fork [1, 3] (by kernel_rfl) (by simp) (each_cons _ rfl ?_ (each_cons _ rfl ?_ (each_nil)))
    ·
     refine oq 1 [(1, .go (owns 3 0 1))] [6, 18, 20] [(19, .int .i64 0)] ([]) (fun _ => by kernel_rfl) al0 ?_
     refine ops_nil ?_
     refine done_any ?_
     refine any_one 3 _ (by kernel_rfl) rfl ?_
     refine oq 1 [(3, .go (owns 4 0 1))] [6, 19, 20] [] ([]) (fun _ => by kernel_rfl) al0 ?_
     refine ops_nil ?_
     refine done_any ?_
     refine any_tk (f := 0) [4, 5] [] [6] [(7, .int .i64 0), (8, .int .i64 260)] ([]) #[true, true, true, true, true, true] (by kernel_rfl) (by kernel_rfl) al0 ?_
     exact any_weak hm [6, 7, 8] (by kernel_rfl) rfl rfl rfl
    ·
     refine oq 1 [(3, .go (owns 4 0 1))] [6, 9, 20] [] ([]) (fun _ => by kernel_rfl) al0 ?_
     refine ops_nil ?_
     refine done_any ?_
     refine any_one 1 _ (by kernel_rfl) rfl ?_
     refine oq 1 [(1, .go (owns 3 0 1))] [6, 20] [(19, .int .i64 0)] ([]) (fun _ => by kernel_rfl) al0 ?_
     refine ops_nil ?_
     refine done_any ?_
     refine any_tk (f := 0) [4, 5] [] [6] [(7, .int .i64 0), (8, .int .i64 260)] ([]) #[true, true, true, true, true, true] (by kernel_rfl) (by kernel_rfl) al0 ?_
     exact any_weak hm [6, 7, 8] (by kernel_rfl) rfl rfl rfl
   ·
    refine oq 1 [(1, .go (owns 3 0 1))] [6, 10, 20] [(19, .int .i64 0)] ([]) (fun _ => by kernel_rfl) al0 ?_
    refine ops_nil ?_
    refine done_any ?_
    refine any_one 0 _ (by kernel_rfl) rfl ?_
    refine oq 1 [(0, .go (owns 0 0 1))] [6, 19, 20] [(18, .agg #[.slice none 0 0])] ([]) (fun _ => by kernel_rfl) al0 ?_
    refine ops_nil ?_
    refine done_any ?_
    refine any_one 3 _ (by kernel_rfl) rfl ?_
    refine oq 1 [(3, .go (owns 4 0 1))] [6, 19, 20] [] ([]) (fun _ => by kernel_rfl) al0 ?_
    refine ops_nil ?_
    refine done_any ?_
    refine any_tk (f := 0) [4, 5] [] [6] [(7, .int .i64 0), (8, .int .i64 260)] ([]) #[true, true, true, true, true, true] (by kernel_rfl) (by kernel_rfl) al0 ?_
    exact any_weak hm [6, 7, 8] (by kernel_rfl) rfl rfl rfl
  refine any_nil (by kernel_rfl) ?_
  refine done_seq ?_
  refine at_back (owns 4 0 1) (.tuple #[.agg #[.slice none 0 0], .int .i64 0, .int .i64 260]) [] (by kernel_rfl) (by kernel_rfl) al0 ?_
  refine oq 6 [(7, .go (owns 8 0 1))] [6] [(7, .int .i64 0), (8, .int .i64 260)] ([]) (fun _ => by kernel_rfl) al0 ?_
  refine ops_nil ?_
  refine done_seq ?_
  refine at_return (owns 8 0 1) (.tuple #[.agg #[.slice none 0 0], .int .i64 0, .int .i64 260]) [] (by kernel_rfl) (by kernel_rfl) al0 ?_
  exact fun w' hw => by rw [bindV_bad q3]; exact ⟨none, 0, 0, [], rfl, SlO.nil, hw.below, hw.sub (List.nil_sublist _)⟩
 ·
  refine ops_callD (.int .i64 0) (by kernel_rfl) (by kernel_rfl) (by kernel_rfl) (fun args w => Try.call16 args w) (fun w hw => by have := check_d p n cap l w (hsl.kept hw.below) hn hb; rw [q3] at this; exact this) ?_
  refine oq 1 [] [1, 3, 5, 6] [(9, .int .i64 0)] ([]) (fun _ => by kernel_rfl) al0 ?_
  refine ops_nil ?_
  refine done_seq ?_
  refine at_seq ?_
  refine at_ops ?_
  refine oq 4 [(3, .go (owns 1 0 1))] [1, 3, 5, 6] [(14, .bool true), (15, .int .i64 own)] ([]) (fun _ => by kernel_rfl) al0 ?_
  rcases q36 : vcpuB own with _ | _
  ·
   refine ops_callD (.bool false) (by kernel_rfl) (by kernel_rfl) (by kernel_rfl) (fun args w => Try.call31 args w) (fun w hw => by have := vcpu_d own w; rw [q36] at this; exact this) ?_
   refine oq 2 [] [1, 3, 5, 6] [(18, .bool true)] ([]) (fun _ => by kernel_rfl) al0 ?_
   refine ops_nil ?_
   refine done_seq ?_
   refine at_true (by kernel_rfl) ?_
   refine at_seq ?_
   refine aq [(1, .go (owns 0 0 1))] [6] [(7, .int .i64 0), (8, .int .i64 2)] ([]) (fun _ => by kernel_rfl) al0 ?_
   refine done_seq ?_
   refine at_return (owns 0 0 1) (.tuple #[.agg #[.slice none 0 0], .int .i64 0, .int .i64 2]) [] (by kernel_rfl) (by kernel_rfl) al0 ?_
   exact fun w' hw => by rw [bindV_arg q3 q36]; exact ⟨none, 0, 0, [], rfl, SlO.nil, hw.below, hw.sub (List.nil_sublist _)⟩
  ·
   refine ops_callD (.bool true) (by kernel_rfl) (by kernel_rfl) (by kernel_rfl) (fun args w => Try.call31 args w) (fun w hw => by have := vcpu_d own w; rw [q36] at this; exact this) ?_
   refine oq 2 [] [1, 3, 5, 6] [(18, .bool false)] ([]) (fun _ => by kernel_rfl) al0 ?_
   refine ops_nil ?_
   refine done_seq ?_
   refine at_false (by kernel_rfl) ?_
   refine at_skip ?_
   refine done_seq ?_
   refine at_seq ?_
   refine at_ops ?_
   refine oq 3 [(0, .go (owns 2 0 1))] [6] [(20, .agg #[.slice p n cap]), (21, .int .i64 k), (22, .func (.func 69) #[] #[.pointer (some ⟨γ1 1, 0, none⟩)])] ([]) (fun _ => by kernel_rfl) al0 ?_
   refine ops_inline (g := 40) (args := #[.agg #[.slice p n cap], .int .i64 k, .func (.func 69) #[] #[.pointer (some ⟨γ1 1, 0, none⟩)]]) (by kernel_rfl) (by kernel_rfl) (by kernel_rfl) (fun args w => Try.call40 args w) Try.func40 rfl Try.ntmps40 rfl ?_
   refine at_seq ?_
   refine am [] [] (fun γ41 => [(3, .pointer (some ⟨γ41 0, 0, none⟩)), (4, .pointer (some ⟨γ41 1, 0, none⟩)), (5, .pointer (some ⟨γ41 2, 0, none⟩)), (6, .pointer (some ⟨γ41 3, 0, none⟩))]) (fun γ41 L => bx (γ41 3) (#[.slice none 0 0]) 24 :: bx (γ41 2) (#[.func (.func 69) #[] #[.pointer (some ⟨γ1 1, 0, none⟩)]]) 75 :: bx (γ41 1) (#[.int .i64 k]) 3 :: bx (γ41 0) (#[.slice p n cap]) 24 :: L) (fun γ41 => []) (fun _ => by kernel_rfl) (fun γ41 => al0) (fun γ41 => ?_)
   refine done_seq ?_
   refine at_seq ?_
   refine am [(1, .go (owns 0 0 1))] [3, 4, 5, 6] (fun γ42 => [(9, .pointer (some ⟨γ42 0, 0, none⟩))]) (fun γ42 L => bx (γ42 0) (#[.int .i64 0]) 3 :: L) (fun γ42 => []) (fun _ => by kernel_rfl) (fun γ42 => al0) (fun γ42 => ?_)
   refine done_seq ?_
   refine at_seq ?_
   refine at_ops ?_
   refine oq 2 [(0, .go (owns 4 0 1))] [6, 9] [(13, .agg #[.slice p n cap]), (14, .func (.func 61) #[] #[.pointer (some ⟨γ41 1, 0, none⟩), .pointer (some ⟨γ41 2, 0, none⟩), .pointer (some ⟨γ41 0, 0, none⟩), .pointer (some ⟨γ42 0, 0, none⟩)])] ([]) (fun _ => by kernel_rfl) al0 ?_
   refine ops_inline (g := 54) (args := #[.agg #[.slice p n cap], .func (.func 61) #[] #[.pointer (some ⟨γ41 1, 0, none⟩), .pointer (some ⟨γ41 2, 0, none⟩), .pointer (some ⟨γ41 0, 0, none⟩), .pointer (some ⟨γ42 0, 0, none⟩)]]) (by kernel_rfl) (by kernel_rfl) (by kernel_rfl) (fun args w => Try.call54 args w) Try.func54 rfl Try.ntmps54 rfl ?_
   refine at_seq ?_
   refine am [] [1] (fun γ44 => [(2, .pointer (some ⟨γ44 0, 0, none⟩)), (4, .pointer (some ⟨γ44 1, 0, none⟩))]) (fun γ44 L => bx (γ44 1) (#[.slice none 0 0]) 24 :: bx (γ44 0) (#[.slice p n cap]) 24 :: L) (fun γ44 => []) (fun _ => by kernel_rfl) (fun γ44 => al0) (fun γ44 => ?_)
   refine done_seq ?_
   refine at_seq ?_
   refine at_seq ?_
   refine at_ops ?_
   refine oq 1 [(0, .go (owns 1 0 1))] [1, 2, 4] [(9, .agg #[.slice p n cap])] ([]) (fun _ => by kernel_rfl) al0 ?_
   refine ops_callD (.int .i64 0) (by kernel_rfl) (by kernel_rfl) (by kernel_rfl) (fun args w => Try.call16 args w) (fun w hw => by have := check_d p n cap l w (hsl.kept hw.below) hn hb; rw [q3] at this; exact this) ?_
   refine oq 1 [] [1, 2, 4] [(6, .int .i64 0)] ([]) (fun _ => by kernel_rfl) al0 ?_
   refine ops_nil ?_
   refine done_seq ?_
   refine at_seq ?_
   refine aq [] [1, 2, 4, 6] [(12, .bool false)] ([]) (fun _ => by kernel_rfl) al0 ?_
   refine done_seq ?_
   refine at_false (by kernel_rfl) ?_
   refine at_skip ?_
   refine done_seq ?_
   refine at_seq ?_
   refine at_ops ?_
   refine oq 2 [(1, .go (owns 1 0 1))] [1, 4] [(16, .slice p n cap)] ([]) (fun _ => by kernel_rfl) al0 ?_
   refine ops_call (fun v L' => ∃ q capq Y, v = .slice q n capq ∧ L' = List.take 10 ([bx (γ44 1) (#[.slice none 0 0]) 24, bx (γ44 0) (#[.slice p n cap]) 24, bx (γ42 0) (#[.int .i64 0]) 3, bx (γ41 3) (#[.slice none 0 0]) 24, bx (γ41 2) (#[.func (.func 69) #[] #[.pointer (some ⟨γ1 1, 0, none⟩)]]) 75, bx (γ41 1) (#[.int .i64 k]) 3, bx (γ41 0) (#[.slice p n cap]) 24, bx (γ1 2) (#[.slice none 0 0]) 24, bx (γ1 1) (#[.int .i64 own]) 3, bx (γ1 0) (#[.slice p n cap]) 24]) ++ (Y ++ List.drop 10 ([bx (γ44 1) (#[.slice none 0 0]) 24, bx (γ44 0) (#[.slice p n cap]) 24, bx (γ42 0) (#[.int .i64 0]) 3, bx (γ41 3) (#[.slice none 0 0]) 24, bx (γ41 2) (#[.func (.func 69) #[] #[.pointer (some ⟨γ1 1, 0, none⟩)]]) 75, bx (γ41 1) (#[.int .i64 k]) 3, bx (γ41 0) (#[.slice p n cap]) 24, bx (γ1 2) (#[.slice none 0 0]) 24, bx (γ1 1) (#[.int .i64 own]) 3, bx (γ1 0) (#[.slice p n cap]) 24])) ∧ SlO 40 Y q n capq l) (by kernel_rfl) (by kernel_rfl) (by kernel_rfl) (fun args w => Try.call72 args w) (fun w hw => (clone_d p n cap l w (hsl.kept hw.below) hn (by omega)).mono fun e w' ⟨q, capq, Y, he, hO, hb, hY⟩ => ⟨_, _, he, ⟨q, capq, Y, rfl, rfl, hO⟩, hw.join hb hY 10⟩) ?_
   rintro v49 L49 ⟨q49, cq49, Y49, rfl, rfl, hO49⟩
   have hnq49 := hO49.len
   rcases hO49.parts with ⟨rfl, rfl, hz49⟩ | ⟨g49, cs49, rfl, rfl, hOw49⟩
   ·
    refine om 3 [(5, .go (owns 0 0 1))] [1, 4] (fun γ50 => [(7, .pointer (some ⟨γ50 0, 0, none⟩))]) (fun γ50 L => bx (γ50 0) (#[.slice none n cq49]) 24 :: L) (fun γ50 => []) (fun _ => by kernel_rfl) (fun γ50 => al0) (fun γ50 => ?_)
    refine ops_nil ?_
    refine done_seq ?_
    refine at_seq ?_
    refine at_seq ?_
    refine at_ops ?_
    refine oq 1 [] [4, 7] [(19, .func (.func 61) #[] #[.pointer (some ⟨γ41 1, 0, none⟩), .pointer (some ⟨γ41 2, 0, none⟩), .pointer (some ⟨γ41 0, 0, none⟩), .pointer (some ⟨γ42 0, 0, none⟩)])] ([]) (fun _ => by kernel_rfl) al0 ?_
    refine ops_inline (g := 61) (args := #[.pointer (some ⟨γ50 0, 0, none⟩), .pointer (some ⟨γ41 1, 0, none⟩), .pointer (some ⟨γ41 2, 0, none⟩), .pointer (some ⟨γ41 0, 0, none⟩), .pointer (some ⟨γ42 0, 0, none⟩)]) (by kernel_rfl) (by kernel_rfl) (by kernel_rfl) (fun args w => Try.call61 args w) Try.func61 rfl Try.ntmps61 rfl ?_
    refine at_seq ?_
    refine aq [] [0, 1, 2, 3, 4] [] ([]) (fun _ => by kernel_rfl) al0 ?_
    refine done_seq ?_
    refine at_seq ?_
    refine at_calm rfl (by kernel_rfl) (by kernel_rfl) ?_
    refine cm 5 [(3, .go (owns 0 0 1)), (4, .go (owns 6 0 1))] [0, 2, 3, 4] [(14, .slice none n cq49), (15, .int .i64 k)] ([]) (by kernel_rfl) rfl al0 ?_
    rcases hg54 : getB l k with _ | y54
    ·
     refine calm_callD (.pointer none) (by kernel_rfl) (by kernel_rfl) (by kernel_rfl) (fun args w => Try.call32 args w) (fun w hw => by have := port_d none n cq49 l k w (hO49.atN (A := []) hw) hnq49 (by omega) (ris_all (right_ris q3)) (ris_asc l 0 (right_ris q3)); rw [portV_none hg54] at this; exact this) ?_
     refine cm 1 [] [0, 2, 3, 4] [(7, .pointer none)] ([]) (by kernel_rfl) rfl al0 ?_
     refine calm_nil' ?_
     refine done_seq ?_
     refine at_seq ?_
     refine at_seq ?_
     refine aq [] [0, 2, 3, 4, 7] [(18, .bool true)] ([]) (fun _ => by kernel_rfl) al0 ?_
     refine done_seq ?_
     refine at_true (by kernel_rfl) ?_
     refine at_seq ?_
     refine aq [] [] [(6, .int .i64 4)] ([]) (fun _ => by kernel_rfl) al0 ?_
     refine done_seq ?_
     refine at_back ([]) (.int .i64 4) [] (by kernel_rfl) (by kernel_rfl) al0 ?_
     refine oq 1 [] [4, 7] [(8, .int .i64 4)] ([]) (fun _ => by kernel_rfl) al0 ?_
     refine ops_nil ?_
     refine done_seq ?_
     refine at_seq ?_
     refine aq [] [4, 7, 8] [(22, .bool true)] ([]) (fun _ => by kernel_rfl) al0 ?_
     refine done_seq ?_
     refine at_true (by kernel_rfl) ?_
     refine at_seq ?_
     refine aq [(2, .go (owns 1 0 1))] [4] [(5, .int .i64 4)] ([]) (fun _ => by kernel_rfl) al0 ?_
     refine done_seq ?_
     refine at_back (owns 1 0 1) (.tuple #[.agg #[.slice none 0 0], .int .i64 4]) [] (by kernel_rfl) (by kernel_rfl) al0 ?_
     refine om 6 [(7, .go (owns 0 0 1))] [6, 9] (fun γ61 => [(10, .pointer (some ⟨γ61 0, 0, none⟩)), (11, .int .i64 4)]) (fun γ61 L => bx (γ61 0) (#[.slice none 0 0]) 24 :: L) (fun γ61 => []) (fun _ => by kernel_rfl) (fun γ61 => al0) (fun γ61 => ?_)
     refine ops_nil ?_
     refine done_seq ?_
     refine at_seq ?_
     refine at_any (by kernel_rfl) ?_
     refine any_tk (f := 5) [2] [] [6, 9, 10] [(20, .int .i64 4)] ([]) #[false, false, true, false, false, false] (by kernel_rfl) (by kernel_rfl) al0 ?_
     refine any_cut 0 #[true, true, true, true, true, true] ([(6, .pointer (some ⟨γ41 3, 0, none⟩)), (7, .int .i64 0), (8, .int .i64 4)]) ([bx (γ61 0) (#[.slice none 0 0]) 24, bx (γ50 0) (#[.slice none n cq49]) 24, bx (γ44 1) (#[.slice none 0 0]) 24, bx (γ44 0) (#[.slice p n cap]) 24, bx (γ42 0) (#[.int .i64 0]) 3, bx (γ41 3) (#[.slice none 0 0]) 24, bx (γ41 2) (#[.func (.func 69) #[] #[.pointer (some ⟨γ1 1, 0, none⟩)]]) 75, bx (γ41 1) (#[.int .i64 k]) 3, bx (γ41 0) (#[.slice p n cap]) 24, bx (γ1 2) (#[.slice none 0 0]) 24, bx (γ1 1) (#[.int .i64 own]) 3, bx (γ1 0) (#[.slice p n cap]) 24]) ?_ (fun hm => ?_)
     rotate_left
     ·
      refine any_fork [0, 1] (by kernel_rfl) (by simp) (each_cons _ rfl ?_ (each_cons _ rfl ?_ (each_nil)))
      ·
       refine oq 1 [(0, .go (owns 0 0 1))] [6, 9, 20] [(18, .agg #[.slice none 0 0])] ([]) (fun _ => by kernel_rfl) al0 ?_
       refine ops_nil ?_
       refine done_any ?_
       refine any_fork [1, 3] (by kernel_rfl) (by simp) (each_cons _ rfl ?_ (each_cons _ rfl ?_ (each_nil)))
       ·
        refine oq 1 [(1, .go (owns 4 0 1))] [6, 18, 20] [(19, .int .i64 0)] ([]) (fun _ => by kernel_rfl) al0 ?_
        refine ops_nil ?_
        refine done_any ?_
        refine any_one 3 _ (by kernel_rfl) rfl ?_
        refine oq 1 [(3, .go (owns 5 0 1))] [6, 19, 20] [] ([]) (fun _ => by kernel_rfl) al0 ?_
        refine ops_nil ?_
        refine done_any ?_
        refine any_tk (f := 0) [4, 5] [] [6] [(7, .int .i64 0), (8, .int .i64 4)] ([]) #[true, true, true, true, true, true] (by kernel_rfl) (by kernel_rfl) al0 ?_
        exact any_weak hm [6, 7, 8] (by kernel_rfl) rfl rfl rfl
       ·
        refine oq 1 [(3, .go (owns 5 0 1))] [6, 9, 20] [] ([]) (fun _ => by kernel_rfl) al0 ?_
        refine ops_nil ?_
        refine done_any ?_
        refine any_one 1 _ (by kernel_rfl) rfl ?_
        refine oq 1 [(1, .go (owns 4 0 1))] [6, 20] [(19, .int .i64 0)] ([]) (fun _ => by kernel_rfl) al0 ?_
        refine ops_nil ?_
        refine done_any ?_
        refine any_tk (f := 0) [4, 5] [] [6] [(7, .int .i64 0), (8, .int .i64 4)] ([]) #[true, true, true, true, true, true] (by kernel_rfl) (by kernel_rfl) al0 ?_
        exact any_weak hm [6, 7, 8] (by kernel_rfl) rfl rfl rfl
      ·
       refine oq 1 [(1, .go (owns 4 0 1))] [6, 10, 20] [(19, .int .i64 0)] ([]) (fun _ => by kernel_rfl) al0 ?_
       refine ops_nil ?_
       refine done_any ?_
       refine any_one 0 _ (by kernel_rfl) rfl ?_
       refine oq 1 [(0, .go (owns 0 0 1))] [6, 19, 20] [(18, .agg #[.slice none 0 0])] ([]) (fun _ => by kernel_rfl) al0 ?_
       refine ops_nil ?_
       refine done_any ?_
       refine any_one 3 _ (by kernel_rfl) rfl ?_
       refine oq 1 [(3, .go (owns 5 0 1))] [6, 19, 20] [] ([]) (fun _ => by kernel_rfl) al0 ?_
       refine ops_nil ?_
       refine done_any ?_
       refine any_tk (f := 0) [4, 5] [] [6] [(7, .int .i64 0), (8, .int .i64 4)] ([]) #[true, true, true, true, true, true] (by kernel_rfl) (by kernel_rfl) al0 ?_
       exact any_weak hm [6, 7, 8] (by kernel_rfl) rfl rfl rfl
     refine any_nil (by kernel_rfl) ?_
     refine done_seq ?_
     refine at_back (owns 5 0 1) (.tuple #[.agg #[.slice none 0 0], .int .i64 0, .int .i64 4]) [] (by kernel_rfl) (by kernel_rfl) al0 ?_
     refine oq 6 [(7, .go (owns 9 0 1))] [6] [(7, .int .i64 0), (8, .int .i64 4)] ([]) (fun _ => by kernel_rfl) al0 ?_
     refine ops_nil ?_
     refine done_seq ?_
     refine at_return (owns 9 0 1) (.tuple #[.agg #[.slice none 0 0], .int .i64 0, .int .i64 4]) [] (by kernel_rfl) (by kernel_rfl) al0 ?_
     exact fun w' hw => by rw [bindV_none q3 q36 hg54]; exact ⟨none, 0, 0, [], rfl, SlO.nil, hw.below, hw.sub (List.nil_sublist _)⟩
    ·
     have hy54 := (get_pos (ris_asc l 0 (right_ris q3)) hg54).1
     exact absurd (List.getElem?_eq_some_iff.1 hy54).1 (by omega)
   ·
    refine om 3 [(5, .go (owns 0 0 1))] [1, 4] (fun γ81 => [(7, .pointer (some ⟨γ81 0, 0, none⟩))]) (fun γ81 L => bx (γ81 0) (#[.slice (some ⟨g49, 0, none⟩) n cq49]) 24 :: L) (fun γ81 => []) (fun _ => by kernel_rfl) (fun γ81 => al0) (fun γ81 => ?_)
    refine ops_nil ?_
    refine done_seq ?_
    refine at_seq ?_
    refine at_seq ?_
    refine at_ops ?_
    refine oq 1 [] [4, 7] [(19, .func (.func 61) #[] #[.pointer (some ⟨γ41 1, 0, none⟩), .pointer (some ⟨γ41 2, 0, none⟩), .pointer (some ⟨γ41 0, 0, none⟩), .pointer (some ⟨γ42 0, 0, none⟩)])] ([]) (fun _ => by kernel_rfl) al0 ?_
    refine ops_inline (g := 61) (args := #[.pointer (some ⟨γ81 0, 0, none⟩), .pointer (some ⟨γ41 1, 0, none⟩), .pointer (some ⟨γ41 2, 0, none⟩), .pointer (some ⟨γ41 0, 0, none⟩), .pointer (some ⟨γ42 0, 0, none⟩)]) (by kernel_rfl) (by kernel_rfl) (by kernel_rfl) (fun args w => Try.call61 args w) Try.func61 rfl Try.ntmps61 rfl ?_
    refine at_seq ?_
    refine aq [] [0, 1, 2, 3, 4] [] ([]) (fun _ => by kernel_rfl) al0 ?_
    refine done_seq ?_
    refine at_seq ?_
    refine at_calm rfl (by kernel_rfl) (by kernel_rfl) ?_
    refine cm 5 [(3, .go (owns 0 0 1)), (4, .go (owns 6 0 1))] [0, 2, 3, 4] [(14, .slice (some ⟨g49, 0, none⟩) n cq49), (15, .int .i64 k)] ([]) (by kernel_rfl) rfl al0 ?_
    rcases hg85 : getB l k with _ | y85
    ·
     refine calm_callD (.pointer none) (by kernel_rfl) (by kernel_rfl) (by kernel_rfl) (fun args w => Try.call32 args w) (fun w hw => by have := port_d (some ⟨g49, 0, none⟩) n cq49 l k w (hO49.atN (A := [_, _, _, _, _, _, _, _, _, _, _]) hw) hnq49 (by omega) (ris_all (right_ris q3)) (ris_asc l 0 (right_ris q3)); rw [portV_none hg85] at this; exact this) ?_
     refine cm 1 [] [0, 2, 3, 4] [(7, .pointer none)] ([]) (by kernel_rfl) rfl al0 ?_
     refine calm_nil' ?_
     refine done_seq ?_
     refine at_seq ?_
     refine at_seq ?_
     refine aq [] [0, 2, 3, 4, 7] [(18, .bool true)] ([]) (fun _ => by kernel_rfl) al0 ?_
     refine done_seq ?_
     refine at_true (by kernel_rfl) ?_
     refine at_seq ?_
     refine aq [] [] [(6, .int .i64 4)] ([]) (fun _ => by kernel_rfl) al0 ?_
     refine done_seq ?_
     refine at_back ([]) (.int .i64 4) [] (by kernel_rfl) (by kernel_rfl) al0 ?_
     refine oq 1 [] [4, 7] [(8, .int .i64 4)] ([]) (fun _ => by kernel_rfl) al0 ?_
     refine ops_nil ?_
     refine done_seq ?_
     refine at_seq ?_
     refine aq [] [4, 7, 8] [(22, .bool true)] ([]) (fun _ => by kernel_rfl) al0 ?_
     refine done_seq ?_
     refine at_true (by kernel_rfl) ?_
     refine at_seq ?_
     refine aq [(2, .go (owns 1 0 1))] [4] [(5, .int .i64 4)] ([]) (fun _ => by kernel_rfl) al0 ?_
     refine done_seq ?_
     refine at_back (owns 1 0 1) (.tuple #[.agg #[.slice none 0 0], .int .i64 4]) [] (by kernel_rfl) (by kernel_rfl) al0 ?_
     refine om 6 [(7, .go (owns 0 0 1))] [6, 9] (fun γ92 => [(10, .pointer (some ⟨γ92 0, 0, none⟩)), (11, .int .i64 4)]) (fun γ92 L => bx (γ92 0) (#[.slice none 0 0]) 24 :: L) (fun γ92 => []) (fun _ => by kernel_rfl) (fun γ92 => al0) (fun γ92 => ?_)
     refine ops_nil ?_
     refine done_seq ?_
     refine at_seq ?_
     refine at_any (by kernel_rfl) ?_
     refine any_tk (f := 5) [2] [] [6, 9, 10] [(20, .int .i64 4)] ([]) #[false, false, true, false, false, false] (by kernel_rfl) (by kernel_rfl) al0 ?_
     refine any_cut 0 #[true, true, true, true, true, true] ([(6, .pointer (some ⟨γ41 3, 0, none⟩)), (7, .int .i64 0), (8, .int .i64 4)]) ([bx (γ92 0) (#[.slice none 0 0]) 24, bx (γ81 0) (#[.slice (some ⟨g49, 0, none⟩) n cq49]) 24, bx (γ44 1) (#[.slice none 0 0]) 24, bx (γ44 0) (#[.slice p n cap]) 24, bx (γ42 0) (#[.int .i64 0]) 3, bx (γ41 3) (#[.slice none 0 0]) 24, bx (γ41 2) (#[.func (.func 69) #[] #[.pointer (some ⟨γ1 1, 0, none⟩)]]) 75, bx (γ41 1) (#[.int .i64 k]) 3, bx (γ41 0) (#[.slice p n cap]) 24, bx (γ1 2) (#[.slice none 0 0]) 24, bx (γ1 1) (#[.int .i64 own]) 3, bx (γ1 0) (#[.slice p n cap]) 24, bx g49 cs49 40]) ?_ (fun hm => ?_)
     rotate_left
     ·
      refine any_fork [0, 1] (by kernel_rfl) (by simp) (each_cons _ rfl ?_ (each_cons _ rfl ?_ (each_nil)))
      ·
       refine oq 1 [(0, .go (owns 0 0 1))] [6, 9, 20] [(18, .agg #[.slice none 0 0])] ([]) (fun _ => by kernel_rfl) al0 ?_
       refine ops_nil ?_
       refine done_any ?_
       refine any_fork [1, 3] (by kernel_rfl) (by simp) (each_cons _ rfl ?_ (each_cons _ rfl ?_ (each_nil)))
       ·
        refine oq 1 [(1, .go (owns 4 0 1))] [6, 18, 20] [(19, .int .i64 0)] ([]) (fun _ => by kernel_rfl) al0 ?_
        refine ops_nil ?_
        refine done_any ?_
        refine any_one 3 _ (by kernel_rfl) rfl ?_
        refine oq 1 [(3, .go (owns 5 0 1))] [6, 19, 20] [] ([]) (fun _ => by kernel_rfl) al0 ?_
        refine ops_nil ?_
        refine done_any ?_
        refine any_tk (f := 0) [4, 5] [] [6] [(7, .int .i64 0), (8, .int .i64 4)] ([]) #[true, true, true, true, true, true] (by kernel_rfl) (by kernel_rfl) al0 ?_
        exact any_weak hm [6, 7, 8] (by kernel_rfl) rfl rfl rfl
       ·
        refine oq 1 [(3, .go (owns 5 0 1))] [6, 9, 20] [] ([]) (fun _ => by kernel_rfl) al0 ?_
        refine ops_nil ?_
        refine done_any ?_
        refine any_one 1 _ (by kernel_rfl) rfl ?_
        refine oq 1 [(1, .go (owns 4 0 1))] [6, 20] [(19, .int .i64 0)] ([]) (fun _ => by kernel_rfl) al0 ?_
        refine ops_nil ?_
        refine done_any ?_
        refine any_tk (f := 0) [4, 5] [] [6] [(7, .int .i64 0), (8, .int .i64 4)] ([]) #[true, true, true, true, true, true] (by kernel_rfl) (by kernel_rfl) al0 ?_
        exact any_weak hm [6, 7, 8] (by kernel_rfl) rfl rfl rfl
      ·
       refine oq 1 [(1, .go (owns 4 0 1))] [6, 10, 20] [(19, .int .i64 0)] ([]) (fun _ => by kernel_rfl) al0 ?_
       refine ops_nil ?_
       refine done_any ?_
       refine any_one 0 _ (by kernel_rfl) rfl ?_
       refine oq 1 [(0, .go (owns 0 0 1))] [6, 19, 20] [(18, .agg #[.slice none 0 0])] ([]) (fun _ => by kernel_rfl) al0 ?_
       refine ops_nil ?_
       refine done_any ?_
       refine any_one 3 _ (by kernel_rfl) rfl ?_
       refine oq 1 [(3, .go (owns 5 0 1))] [6, 19, 20] [] ([]) (fun _ => by kernel_rfl) al0 ?_
       refine ops_nil ?_
       refine done_any ?_
       refine any_tk (f := 0) [4, 5] [] [6] [(7, .int .i64 0), (8, .int .i64 4)] ([]) #[true, true, true, true, true, true] (by kernel_rfl) (by kernel_rfl) al0 ?_
       exact any_weak hm [6, 7, 8] (by kernel_rfl) rfl rfl rfl
     refine any_nil (by kernel_rfl) ?_
     refine done_seq ?_
     refine at_back (owns 5 0 1) (.tuple #[.agg #[.slice none 0 0], .int .i64 0, .int .i64 4]) [] (by kernel_rfl) (by kernel_rfl) al0 ?_
     refine oq 6 [(7, .go (owns 9 0 1))] [6] [(7, .int .i64 0), (8, .int .i64 4)] ([]) (fun _ => by kernel_rfl) al0 ?_
     refine ops_nil ?_
     refine done_seq ?_
     refine at_return (owns 9 0 1) (.tuple #[.agg #[.slice none 0 0], .int .i64 0, .int .i64 4]) [] (by kernel_rfl) (by kernel_rfl) al0 ?_
     exact fun w' hw => by rw [bindV_none q3 q36 hg85]; exact ⟨none, 0, 0, [], rfl, SlO.nil, hw.below, hw.sub (List.nil_sublist _)⟩
    ·
     have hy85 := (get_pos (ris_asc l 0 (right_ris q3)) hg85).1
     refine calm_callD (.pointer (some ⟨g49, 0 + (posB l k) * 5, none⟩)) (by kernel_rfl) (by kernel_rfl) (by kernel_rfl) (fun args w => Try.call32 args w) (fun w hw => by have := port_d (some ⟨g49, 0, none⟩) n cq49 l k w (hO49.atN (A := [_, _, _, _, _, _, _, _, _, _, _]) hw) hnq49 (by omega) (ris_all (right_ris q3)) (ris_asc l 0 (right_ris q3)); rw [portV_some hg85] at this; exact this) ?_
     refine cm 1 [] [0, 2, 3, 4] [(7, .pointer (some ⟨g49, 0 + (posB l k) * 5, none⟩))] ([]) (by kernel_rfl) rfl al0 ?_
     refine calm_nil' ?_
     refine done_seq ?_
     refine at_seq ?_
     refine at_seq ?_
     refine aq [] [0, 2, 3, 4, 7] [(18, .bool false)] ([]) (fun _ => by kernel_rfl) al0 ?_
     refine done_seq ?_
     refine at_false (by kernel_rfl) ?_
     refine at_skip ?_
     refine done_seq ?_
     refine at_seq ?_
     refine at_any (by kernel_rfl) ?_
     refine any_tk (f := 8) [1, 2, 3, 4] [] [2, 3, 4] [(21, .pointer (some ⟨g49, 0 + (posB l k) * 5, none⟩)), (24, .pointer (some ⟨γ81 0, 0, none⟩))] ([]) #[false, true, true, true, true, false, false, false, false, false, false, false] (by kernel_rfl) (by kernel_rfl) al0 ?_
     refine any_cut 6 #[true, true, true, true, true, true, false, false, false, false, false, false] ([(3, .pointer (some ⟨γ41 0, 0, none⟩)), (4, .pointer (some ⟨γ42 0, 0, none⟩)), (20, .func (.func 69) #[] #[.pointer (some ⟨γ1 1, 0, none⟩)]), (21, .pointer (some ⟨g49, 0 + (posB l k) * 5, none⟩)), (25, .slice (some ⟨g49, 0, none⟩) n cq49)]) ([bx (γ81 0) (#[.slice (some ⟨g49, 0, none⟩) n cq49]) 24, bx (γ44 1) (#[.slice none 0 0]) 24, bx (γ44 0) (#[.slice p n cap]) 24, bx (γ42 0) (#[.int .i64 0]) 3, bx (γ41 3) (#[.slice none 0 0]) 24, bx (γ41 2) (#[.func (.func 69) #[] #[.pointer (some ⟨γ1 1, 0, none⟩)]]) 75, bx (γ41 1) (#[.int .i64 k]) 3, bx (γ41 0) (#[.slice p n cap]) 24, bx (γ1 2) (#[.slice none 0 0]) 24, bx (γ1 1) (#[.int .i64 own]) 3, bx (γ1 0) (#[.slice p n cap]) 24, bx g49 cs49 40]) ?_ (fun hm => ?_)
     rotate_left
     ·
      refine any_fork [0, 5] (by kernel_rfl) (by simp) (each_cons _ rfl ?_ (each_cons _ rfl ?_ (each_nil)))
      ·
       refine oq 1 [(0, .go (owns 5 0 1))] [3, 4, 21, 24] [(20, .func (.func 69) #[] #[.pointer (some ⟨γ1 1, 0, none⟩)])] ([]) (fun _ => by kernel_rfl) al0 ?_
       refine ops_nil ?_
       refine done_any ?_
       refine any_one 5 _ (by kernel_rfl) rfl ?_
       refine oq 1 [(5, .go (owns 0 0 1))] [3, 4, 20, 21] [(25, .slice (some ⟨g49, 0, none⟩) n cq49)] ([]) (fun _ => by kernel_rfl) al0 ?_
       refine ops_nil ?_
       refine done_any ?_
       exact any_weak hm [3, 4, 20, 21, 25] (by kernel_rfl) rfl rfl rfl
      ·
       refine oq 1 [(5, .go (owns 0 0 1))] [2, 3, 4, 21] [(25, .slice (some ⟨g49, 0, none⟩) n cq49)] ([]) (fun _ => by kernel_rfl) al0 ?_
       refine ops_nil ?_
       refine done_any ?_
       refine any_one 0 _ (by kernel_rfl) rfl ?_
       refine oq 1 [(0, .go (owns 5 0 1))] [3, 4, 21, 25] [(20, .func (.func 69) #[] #[.pointer (some ⟨γ1 1, 0, none⟩)])] ([]) (fun _ => by kernel_rfl) al0 ?_
       refine ops_nil ?_
       refine done_any ?_
       exact any_weak hm [3, 4, 20, 21, 25] (by kernel_rfl) rfl rfl rfl
     refine any_one 6 _ (by kernel_rfl) rfl ?_
     refine ops_inline (g := 69) (args := #[.pointer (some ⟨g49, 0 + (posB l k) * 5, none⟩), .slice (some ⟨g49, 0, none⟩) n cq49, .pointer (some ⟨γ1 1, 0, none⟩)]) (by kernel_rfl) (by kernel_rfl) (by kernel_rfl) (fun args w => Try.call69 args w) Try.func69 rfl Try.ntmps69 rfl ?_
     refine at_seq ?_
     refine aq [] [0, 2] [] ([]) (fun _ => by kernel_rfl) al0 ?_
     refine done_seq ?_
     refine at_seq ?_
     refine am [(1, .go (owns 9 0 1)), (4, .go (ownps 11 (0 + (posB l k) * 5 + 1) [undef]))] [0] (fun _ => []) (fun _ L => (L.set 11 (bx g49 ((cs49).setIfInBounds (0 + (posB l k) * 5 + 1) (.int .i64 own)) 40))) (fun _ => [0 + (posB l k) * 5 + 1 < (cs49).size]) (fun _ => by kernel_rfl) (fun _ => (al1 (hOw49.room hnq49 hy85 (f := 1) (by decide)))) (fun _ => ?_)
     refine done_seq ?_
     refine at_seq ?_
     refine aq [] [] [(5, .pointer (some ⟨g49, 0 + (posB l k) * 5, none⟩)), (6, .int .i64 0)] ([]) (fun _ => by kernel_rfl) al0 ?_
     refine done_seq ?_
     refine at_back ([]) (.tuple #[.pointer (some ⟨g49, 0 + (posB l k) * 5, none⟩), .int .i64 0]) [] (by kernel_rfl) (by kernel_rfl) al0 ?_
     refine ops_nil ?_
     refine done_any ?_
     refine any_tk (f := 0) [7, 8, 9, 10, 11] [] [3, 4] [(8, .pointer (some ⟨g49, 0 + (posB l k) * 5, none⟩)), (9, .int .i64 0)] ([]) #[true, true, true, true, true, true, true, true, true, true, true, true] (by kernel_rfl) (by kernel_rfl) al0 ?_
     refine any_nil (by kernel_rfl) ?_
     refine done_seq ?_
     refine at_seq ?_
     refine at_seq ?_
     refine aq [] [3, 4, 8, 9] [(30, .bool false)] ([]) (fun _ => by kernel_rfl) al0 ?_
     refine done_seq ?_
     refine at_false (by kernel_rfl) ?_
     refine at_skip ?_
     refine done_seq ?_
     refine at_seq ?_
     refine at_calm rfl (by kernel_rfl) (by kernel_rfl) ?_
     refine cm 6 [(1, .go (owns 7 0 1)), (5, .go (ownps 11 (0 + (posB l k) * 5) [.int .i64 y85.num]))] [4, 8] [(33, .slice p n cap), (37, .int .i64 y85.num)] (acellsP ((cs49).setIfInBounds (0 + (posB l k) * 5 + 1) (.int .i64 own)) (0 + (posB l k) * 5) [.int .i64 y85.num]) (by kernel_rfl) rfl (rda_pre (((hOw49.put (x' := (⟨y85.num, own, y85.peer, y85.pending, y85.masked⟩ : Port)) hnq49 hy85 (f := 1) (by decide) rfl).rdx (len_set hnq49) (get_set hy85))) _ rfl) ?_
     skip
     ·
      obtain ⟨b129, o129, rfl⟩ := hsl.pos (i := posB l y85.num) (List.getElem?_eq_some_iff.1 (get_pos (ris_asc l 0 (right_ris q3)) (get_self hg85)).1).1
      refine calm_callD (.pointer (some ⟨b129, o129 + (posB l y85.num) * 5, none⟩)) (by kernel_rfl) (by kernel_rfl) (by kernel_rfl) (fun args w => Try.call32 args w) (fun w hw => by have := port_d (some ⟨b129, o129, none⟩) n cap l y85.num w (hsl.kept hw.below) hn (by omega) (ris_all (right_ris q3)) (ris_asc l 0 (right_ris q3)); rw [portV_some (get_self hg85)] at this; exact this) ?_
      refine cm 1 [] [4, 8] [(10, .pointer (some ⟨b129, o129 + (posB l y85.num) * 5, none⟩))] ([]) (by kernel_rfl) rfl al0 ?_
      refine calm_nil' ?_
      refine done_seq ?_
      refine at_seq ?_
      refine at_seq ?_
      refine at_calm rfl (by kernel_rfl) (by kernel_rfl) ?_
      refine cm 3 [(2, .go (ownps 11 (0 + (posB l k) * 5) [.int .i64 y85.num, .int .i64 own, .int .i64 y85.peer, .bool y85.pending, .bool y85.masked]))] [4, 8, 10] [(41, .agg #[.int .i64 y85.num, .int .i64 own, .int .i64 y85.peer, .bool y85.pending, .bool y85.masked])] (acellsP ((cs49).setIfInBounds (0 + (posB l k) * 5 + 1) (.int .i64 own)) (0 + (posB l k) * 5) [.int .i64 y85.num, .int .i64 own, .int .i64 y85.peer, .bool y85.pending, .bool y85.masked]) (by kernel_rfl) rfl (rda_pre (((hOw49.put (x' := (⟨y85.num, own, y85.peer, y85.pending, y85.masked⟩ : Port)) hnq49 hy85 (f := 1) (by decide) rfl).rdx (len_set hnq49) (get_set hy85))) _ rfl) ?_
      rcases q132 : (y85.pending && !y85.masked) with _ | _
      ·
       refine calm_callD (.bool false) (by kernel_rfl) (by kernel_rfl) (by kernel_rfl) (fun args w => Try.call39 args w) (fun w hw => by have := due_d (⟨y85.num, own, y85.peer, y85.pending, y85.masked⟩ : Port) w; rw [show dueB (⟨y85.num, own, y85.peer, y85.pending, y85.masked⟩ : Port) = false from q132] at this; exact this) ?_
       refine cm 18 [] [4, 8] [(60, .bool false)] ([]) (by kernel_rfl) rfl al0 ?_
       refine calm_nil' ?_
       refine done_seq ?_
       refine at_false (by kernel_rfl) ?_
       refine at_skip ?_
       refine done_seq ?_
       refine at_seq ?_
       refine aq [] [] [(6, .int .i64 0)] ([]) (fun _ => by kernel_rfl) al0 ?_
       refine done_seq ?_
       refine at_back ([]) (.int .i64 0) [] (by kernel_rfl) (by kernel_rfl) al0 ?_
       refine oq 1 [] [4, 7] [(8, .int .i64 0)] ([]) (fun _ => by kernel_rfl) al0 ?_
       refine ops_nil ?_
       refine done_seq ?_
       refine at_seq ?_
       refine aq [] [4, 7, 8] [(22, .bool false)] ([]) (fun _ => by kernel_rfl) al0 ?_
       refine done_seq ?_
       refine at_false (by kernel_rfl) ?_
       refine at_skip ?_
       refine done_seq ?_
       refine at_seq ?_
       refine am [(0, .go (owns 0 0 1)), (1, .go (owns 1 0 1))] [4] (fun _ => [(5, .int .i64 0)]) (fun _ L => (L.set 1 (bx (γ44 1) (#[.slice (some ⟨g49, 0, none⟩) n cq49]) 24))) (fun _ => []) (fun _ => by kernel_rfl) (fun _ => al0) (fun _ => ?_)
       refine done_seq ?_
       refine at_back (owns 1 0 1) (.tuple #[.agg #[.slice (some ⟨g49, 0, none⟩) n cq49], .int .i64 0]) [] (by kernel_rfl) (by kernel_rfl) al0 ?_
       refine om 6 [(7, .go (owns 0 0 1))] [6, 9] (fun γ138 => [(10, .pointer (some ⟨γ138 0, 0, none⟩)), (11, .int .i64 0)]) (fun γ138 L => bx (γ138 0) (#[.slice (some ⟨g49, 0, none⟩) n cq49]) 24 :: L) (fun γ138 => []) (fun _ => by kernel_rfl) (fun γ138 => al0) (fun γ138 => ?_)
       refine ops_nil ?_
       refine done_seq ?_
       refine at_seq ?_
       refine at_any (by kernel_rfl) ?_
       refine any_tk (f := 5) [2] [] [6, 9, 10] [(20, .int .i64 0)] ([]) #[false, false, true, false, false, false] (by kernel_rfl) (by kernel_rfl) al0 ?_
       refine any_cut 0 #[true, true, true, true, true, true] ([(6, .pointer (some ⟨γ41 3, 0, none⟩)), (7, .int .i64 0), (8, .int .i64 0)]) ([bx (γ138 0) (#[.slice (some ⟨g49, 0, none⟩) n cq49]) 24, bx (γ81 0) (#[.slice (some ⟨g49, 0, none⟩) n cq49]) 24, bx (γ44 1) (#[.slice (some ⟨g49, 0, none⟩) n cq49]) 24, bx (γ44 0) (#[.slice (some ⟨b129, o129, none⟩) n cap]) 24, bx (γ42 0) (#[.int .i64 0]) 3, bx (γ41 3) (#[.slice (some ⟨g49, 0, none⟩) n cq49]) 24, bx (γ41 2) (#[.func (.func 69) #[] #[.pointer (some ⟨γ1 1, 0, none⟩)]]) 75, bx (γ41 1) (#[.int .i64 k]) 3, bx (γ41 0) (#[.slice (some ⟨b129, o129, none⟩) n cap]) 24, bx (γ1 2) (#[.slice none 0 0]) 24, bx (γ1 1) (#[.int .i64 own]) 3, bx (γ1 0) (#[.slice (some ⟨b129, o129, none⟩) n cap]) 24, bx g49 ((cs49).setIfInBounds (0 + (posB l k) * 5 + 1) (.int .i64 own)) 40]) ?_ (fun hm => ?_)
       rotate_left
       ·
        refine any_fork [0, 1] (by kernel_rfl) (by simp) (each_cons _ rfl ?_ (each_cons _ rfl ?_ (each_nil)))
        ·
         refine oq 1 [(0, .go (owns 0 0 1))] [6, 9, 20] [(18, .agg #[.slice (some ⟨g49, 0, none⟩) n cq49])] ([]) (fun _ => by kernel_rfl) al0 ?_
         refine ops_nil ?_
         refine done_any ?_
         refine any_fork [1, 3] (by kernel_rfl) (by simp) (each_cons _ rfl ?_ (each_cons _ rfl ?_ (each_nil)))
         ·
          refine oq 1 [(1, .go (owns 4 0 1))] [6, 18, 20] [(19, .int .i64 0)] ([]) (fun _ => by kernel_rfl) al0 ?_
          refine ops_nil ?_
          refine done_any ?_
          refine any_one 3 _ (by kernel_rfl) rfl ?_
          refine om 1 [(3, .go (owns 5 0 1))] [6, 19, 20] (fun _ => []) (fun _ L => (L.set 5 (bx (γ41 3) (#[.slice (some ⟨g49, 0, none⟩) n cq49]) 24))) (fun _ => []) (fun _ => by kernel_rfl) (fun _ => al0) (fun _ => ?_)
          refine ops_nil ?_
          refine done_any ?_
          refine any_tk (f := 0) [4, 5] [] [6] [(7, .int .i64 0), (8, .int .i64 0)] ([]) #[true, true, true, true, true, true] (by kernel_rfl) (by kernel_rfl) al0 ?_
          exact any_weak hm [6, 7, 8] (by kernel_rfl) rfl rfl rfl
         ·
          refine om 1 [(3, .go (owns 5 0 1))] [6, 9, 20] (fun _ => []) (fun _ L => (L.set 5 (bx (γ41 3) (#[.slice (some ⟨g49, 0, none⟩) n cq49]) 24))) (fun _ => []) (fun _ => by kernel_rfl) (fun _ => al0) (fun _ => ?_)
          refine ops_nil ?_
          refine done_any ?_
          refine any_one 1 _ (by kernel_rfl) rfl ?_
          refine oq 1 [(1, .go (owns 4 0 1))] [6, 20] [(19, .int .i64 0)] ([]) (fun _ => by kernel_rfl) al0 ?_
          refine ops_nil ?_
          refine done_any ?_
          refine any_tk (f := 0) [4, 5] [] [6] [(7, .int .i64 0), (8, .int .i64 0)] ([]) #[true, true, true, true, true, true] (by kernel_rfl) (by kernel_rfl) al0 ?_
          exact any_weak hm [6, 7, 8] (by kernel_rfl) rfl rfl rfl
        ·
         refine oq 1 [(1, .go (owns 4 0 1))] [6, 10, 20] [(19, .int .i64 0)] ([]) (fun _ => by kernel_rfl) al0 ?_
         refine ops_nil ?_
         refine done_any ?_
         refine any_one 0 _ (by kernel_rfl) rfl ?_
         refine oq 1 [(0, .go (owns 0 0 1))] [6, 19, 20] [(18, .agg #[.slice (some ⟨g49, 0, none⟩) n cq49])] ([]) (fun _ => by kernel_rfl) al0 ?_
         refine ops_nil ?_
         refine done_any ?_
         refine any_one 3 _ (by kernel_rfl) rfl ?_
         refine om 1 [(3, .go (owns 5 0 1))] [6, 19, 20] (fun _ => []) (fun _ L => (L.set 5 (bx (γ41 3) (#[.slice (some ⟨g49, 0, none⟩) n cq49]) 24))) (fun _ => []) (fun _ => by kernel_rfl) (fun _ => al0) (fun _ => ?_)
         refine ops_nil ?_
         refine done_any ?_
         refine any_tk (f := 0) [4, 5] [] [6] [(7, .int .i64 0), (8, .int .i64 0)] ([]) #[true, true, true, true, true, true] (by kernel_rfl) (by kernel_rfl) al0 ?_
         exact any_weak hm [6, 7, 8] (by kernel_rfl) rfl rfl rfl
       refine any_nil (by kernel_rfl) ?_
       refine done_seq ?_
       refine at_back (owns 5 0 1) (.tuple #[.agg #[.slice (some ⟨g49, 0, none⟩) n cq49], .int .i64 0, .int .i64 0]) [] (by kernel_rfl) (by kernel_rfl) al0 ?_
       refine om 6 [(7, .go (owns 9 0 1))] [6] (fun _ => [(7, .int .i64 0), (8, .int .i64 0)]) (fun _ L => (L.set 9 (bx (γ1 2) (#[.slice (some ⟨g49, 0, none⟩) n cq49]) 24))) (fun _ => []) (fun _ => by kernel_rfl) (fun _ => al0) (fun _ => ?_)
       refine ops_nil ?_
       refine done_seq ?_
       refine at_return (owns 9 0 1) (.tuple #[.agg #[.slice (some ⟨g49, 0, none⟩) n cq49], .int .i64 0, .int .i64 0]) [] (by kernel_rfl) (by kernel_rfl) al0 ?_
       exact fun w' hw => by rw [bindV_ok q3 q36 hg85, turnP_no (y := y85) (z := (⟨y85.num, own, y85.peer, y85.pending, y85.masked⟩ : Port)) (fun ⟨a, _⟩ => absurd (a.symm.trans q132) (by decide)), pos_of hg85]; exact ⟨_, _, _, _, rfl, (SlO.ofOwn (hOw49.put (x' := (⟨y85.num, own, y85.peer, y85.pending, y85.masked⟩ : Port)) hnq49 hy85 (f := 1) (by decide) rfl) (len_set hnq49)), hw.below, hw.tailN 12⟩
      ·
       refine calm_callD (.bool true) (by kernel_rfl) (by kernel_rfl) (by kernel_rfl) (fun args w => Try.call39 args w) (fun w hw => by have := due_d (⟨y85.num, own, y85.peer, y85.pending, y85.masked⟩ : Port) w; rw [show dueB (⟨y85.num, own, y85.peer, y85.pending, y85.masked⟩ : Port) = true from q132] at this; exact this) ?_
       refine cm 4 [(7, .go (outs b129 (o129 + (posB l y85.num) * 5) [.int .i64 y85.num, .int .i64 y85.vcpu, .int .i64 y85.peer, .bool y85.pending, .bool y85.masked]))] [4, 8, 10] [(43, .bool true), (46, .agg #[.int .i64 y85.num, .int .i64 y85.vcpu, .int .i64 y85.peer, .bool y85.pending, .bool y85.masked])] (cellsP w b129 (o129 + (posB l y85.num) * 5) [.int .i64 y85.num, .int .i64 y85.vcpu, .int .i64 y85.peer, .bool y85.pending, .bool y85.masked]) (by kernel_rfl) rfl (rd_pre (hsl.get (get_pos (ris_asc l 0 (right_ris q3)) (get_self hg85)).1) _ rfl) ?_
       refine calm_callD (.bool true) (by kernel_rfl) (by kernel_rfl) (by kernel_rfl) (fun args w => Try.call39 args w) (fun w hw => by have := due_d (⟨y85.num, y85.vcpu, y85.peer, y85.pending, y85.masked⟩ : Port) w; rw [show dueB (⟨y85.num, y85.vcpu, y85.peer, y85.pending, y85.masked⟩ : Port) = true from q132] at this; exact this) ?_
       by_cases q159 : (y85.vcpu : Int) ≠ (own : Int)
       ·
        refine cm 13 [(14, .go (outs b129 (o129 + (posB l y85.num) * 5 + 1) [.int .i64 y85.vcpu])), (18, .go (ownps 11 (0 + (posB l k) * 5 + 1) [.int .i64 own])), (19, .yes)] [4, 8] [(60, .bool true)] (cellsP w b129 (o129 + (posB l y85.num) * 5 + 1) [.int .i64 y85.vcpu] ++ (acellsP ((cs49).setIfInBounds (0 + (posB l k) * 5 + 1) (.int .i64 own)) (0 + (posB l k) * 5 + 1) [.int .i64 own] ++ ([(y85.vcpu : Int) ≠ (own : Int)]))) (by kernel_rfl) rfl (alA (rd_part (hsl.get (get_pos (ris_asc l 0 (right_ris q3)) (get_self hg85)).1) 1 _ rfl) (alA (rda_part (((hOw49.put (x' := (⟨y85.num, own, y85.peer, y85.pending, y85.masked⟩ : Port)) hnq49 hy85 (f := 1) (by decide) rfl).rdx (len_set hnq49) (get_set hy85))) 1 _ rfl) (al1 q159))) ?_
        refine calm_nil' ?_
        refine done_seq ?_
        refine at_true (by kernel_rfl) ?_
        refine am [(3, .go (ownps 11 (0 + (posB l k) * 5 + 1) [.int .i64 own])), (4, .go (owns 3 0 1))] [] (fun _ => []) (fun _ L => (L.set 3 (bx (γ42 0) (#[.int .i64 own]) 3))) (fun _ => acellsP ((cs49).setIfInBounds (0 + (posB l k) * 5 + 1) (.int .i64 own)) (0 + (posB l k) * 5 + 1) [.int .i64 own]) (fun _ => by kernel_rfl) (fun _ => (rda_part (((hOw49.put (x' := (⟨y85.num, own, y85.peer, y85.pending, y85.masked⟩ : Port)) hnq49 hy85 (f := 1) (by decide) rfl).rdx (len_set hnq49) (get_set hy85))) 1 _ rfl)) (fun _ => ?_)
        refine done_seq ?_
        refine at_seq ?_
        refine aq [] [] [(6, .int .i64 0)] ([]) (fun _ => by kernel_rfl) al0 ?_
        refine done_seq ?_
        refine at_back ([]) (.int .i64 0) [] (by kernel_rfl) (by kernel_rfl) al0 ?_
        refine oq 1 [] [4, 7] [(8, .int .i64 0)] ([]) (fun _ => by kernel_rfl) al0 ?_
        refine ops_nil ?_
        refine done_seq ?_
        refine at_seq ?_
        refine aq [] [4, 7, 8] [(22, .bool false)] ([]) (fun _ => by kernel_rfl) al0 ?_
        refine done_seq ?_
        refine at_false (by kernel_rfl) ?_
        refine at_skip ?_
        refine done_seq ?_
        refine at_seq ?_
        refine am [(0, .go (owns 0 0 1)), (1, .go (owns 1 0 1))] [4] (fun _ => [(5, .int .i64 0)]) (fun _ L => (L.set 1 (bx (γ44 1) (#[.slice (some ⟨g49, 0, none⟩) n cq49]) 24))) (fun _ => []) (fun _ => by kernel_rfl) (fun _ => al0) (fun _ => ?_)
        refine done_seq ?_
        refine at_back (owns 1 0 1) (.tuple #[.agg #[.slice (some ⟨g49, 0, none⟩) n cq49], .int .i64 0]) [] (by kernel_rfl) (by kernel_rfl) al0 ?_
        refine om 6 [(7, .go (owns 0 0 1))] [6, 9] (fun γ166 => [(10, .pointer (some ⟨γ166 0, 0, none⟩)), (11, .int .i64 0)]) (fun γ166 L => bx (γ166 0) (#[.slice (some ⟨g49, 0, none⟩) n cq49]) 24 :: L) (fun γ166 => []) (fun _ => by kernel_rfl) (fun γ166 => al0) (fun γ166 => ?_)
        refine ops_nil ?_
        refine done_seq ?_
        refine at_seq ?_
        refine at_any (by kernel_rfl) ?_
        refine any_tk (f := 5) [2] [] [6, 9, 10] [(20, .int .i64 0)] ([]) #[false, false, true, false, false, false] (by kernel_rfl) (by kernel_rfl) al0 ?_
        refine any_cut 0 #[true, true, true, true, true, true] ([(6, .pointer (some ⟨γ41 3, 0, none⟩)), (7, .int .i64 own), (8, .int .i64 0)]) ([bx (γ166 0) (#[.slice (some ⟨g49, 0, none⟩) n cq49]) 24, bx (γ81 0) (#[.slice (some ⟨g49, 0, none⟩) n cq49]) 24, bx (γ44 1) (#[.slice (some ⟨g49, 0, none⟩) n cq49]) 24, bx (γ44 0) (#[.slice (some ⟨b129, o129, none⟩) n cap]) 24, bx (γ42 0) (#[.int .i64 own]) 3, bx (γ41 3) (#[.slice (some ⟨g49, 0, none⟩) n cq49]) 24, bx (γ41 2) (#[.func (.func 69) #[] #[.pointer (some ⟨γ1 1, 0, none⟩)]]) 75, bx (γ41 1) (#[.int .i64 k]) 3, bx (γ41 0) (#[.slice (some ⟨b129, o129, none⟩) n cap]) 24, bx (γ1 2) (#[.slice none 0 0]) 24, bx (γ1 1) (#[.int .i64 own]) 3, bx (γ1 0) (#[.slice (some ⟨b129, o129, none⟩) n cap]) 24, bx g49 ((cs49).setIfInBounds (0 + (posB l k) * 5 + 1) (.int .i64 own)) 40]) ?_ (fun hm => ?_)
        rotate_left
        ·
         refine any_fork [0, 1] (by kernel_rfl) (by simp) (each_cons _ rfl ?_ (each_cons _ rfl ?_ (each_nil)))
         ·
          refine oq 1 [(0, .go (owns 0 0 1))] [6, 9, 20] [(18, .agg #[.slice (some ⟨g49, 0, none⟩) n cq49])] ([]) (fun _ => by kernel_rfl) al0 ?_
          refine ops_nil ?_
          refine done_any ?_
          refine any_fork [1, 3] (by kernel_rfl) (by simp) (each_cons _ rfl ?_ (each_cons _ rfl ?_ (each_nil)))
          ·
           refine oq 1 [(1, .go (owns 4 0 1))] [6, 18, 20] [(19, .int .i64 own)] ([]) (fun _ => by kernel_rfl) al0 ?_
           refine ops_nil ?_
           refine done_any ?_
           refine any_one 3 _ (by kernel_rfl) rfl ?_
           refine om 1 [(3, .go (owns 5 0 1))] [6, 19, 20] (fun _ => []) (fun _ L => (L.set 5 (bx (γ41 3) (#[.slice (some ⟨g49, 0, none⟩) n cq49]) 24))) (fun _ => []) (fun _ => by kernel_rfl) (fun _ => al0) (fun _ => ?_)
           refine ops_nil ?_
           refine done_any ?_
           refine any_tk (f := 0) [4, 5] [] [6] [(7, .int .i64 own), (8, .int .i64 0)] ([]) #[true, true, true, true, true, true] (by kernel_rfl) (by kernel_rfl) al0 ?_
           exact any_weak hm [6, 7, 8] (by kernel_rfl) rfl rfl rfl
          ·
           refine om 1 [(3, .go (owns 5 0 1))] [6, 9, 20] (fun _ => []) (fun _ L => (L.set 5 (bx (γ41 3) (#[.slice (some ⟨g49, 0, none⟩) n cq49]) 24))) (fun _ => []) (fun _ => by kernel_rfl) (fun _ => al0) (fun _ => ?_)
           refine ops_nil ?_
           refine done_any ?_
           refine any_one 1 _ (by kernel_rfl) rfl ?_
           refine oq 1 [(1, .go (owns 4 0 1))] [6, 20] [(19, .int .i64 own)] ([]) (fun _ => by kernel_rfl) al0 ?_
           refine ops_nil ?_
           refine done_any ?_
           refine any_tk (f := 0) [4, 5] [] [6] [(7, .int .i64 own), (8, .int .i64 0)] ([]) #[true, true, true, true, true, true] (by kernel_rfl) (by kernel_rfl) al0 ?_
           exact any_weak hm [6, 7, 8] (by kernel_rfl) rfl rfl rfl
         ·
          refine oq 1 [(1, .go (owns 4 0 1))] [6, 10, 20] [(19, .int .i64 own)] ([]) (fun _ => by kernel_rfl) al0 ?_
          refine ops_nil ?_
          refine done_any ?_
          refine any_one 0 _ (by kernel_rfl) rfl ?_
          refine oq 1 [(0, .go (owns 0 0 1))] [6, 19, 20] [(18, .agg #[.slice (some ⟨g49, 0, none⟩) n cq49])] ([]) (fun _ => by kernel_rfl) al0 ?_
          refine ops_nil ?_
          refine done_any ?_
          refine any_one 3 _ (by kernel_rfl) rfl ?_
          refine om 1 [(3, .go (owns 5 0 1))] [6, 19, 20] (fun _ => []) (fun _ L => (L.set 5 (bx (γ41 3) (#[.slice (some ⟨g49, 0, none⟩) n cq49]) 24))) (fun _ => []) (fun _ => by kernel_rfl) (fun _ => al0) (fun _ => ?_)
          refine ops_nil ?_
          refine done_any ?_
          refine any_tk (f := 0) [4, 5] [] [6] [(7, .int .i64 own), (8, .int .i64 0)] ([]) #[true, true, true, true, true, true] (by kernel_rfl) (by kernel_rfl) al0 ?_
          exact any_weak hm [6, 7, 8] (by kernel_rfl) rfl rfl rfl
        refine any_nil (by kernel_rfl) ?_
        refine done_seq ?_
        refine at_back (owns 5 0 1) (.tuple #[.agg #[.slice (some ⟨g49, 0, none⟩) n cq49], .int .i64 own, .int .i64 0]) [] (by kernel_rfl) (by kernel_rfl) al0 ?_
        refine om 6 [(7, .go (owns 9 0 1))] [6] (fun _ => [(7, .int .i64 own), (8, .int .i64 0)]) (fun _ L => (L.set 9 (bx (γ1 2) (#[.slice (some ⟨g49, 0, none⟩) n cq49]) 24))) (fun _ => []) (fun _ => by kernel_rfl) (fun _ => al0) (fun _ => ?_)
        refine ops_nil ?_
        refine done_seq ?_
        refine at_return (owns 9 0 1) (.tuple #[.agg #[.slice (some ⟨g49, 0, none⟩) n cq49], .int .i64 own, .int .i64 0]) [] (by kernel_rfl) (by kernel_rfl) al0 ?_
        exact fun w' hw => by rw [bindV_ok q3 q36 hg85, turnP_yes (y := y85) (z := (⟨y85.num, own, y85.peer, y85.pending, y85.masked⟩ : Port)) q132 (.inr q159), pos_of hg85]; exact ⟨_, _, _, _, rfl, (SlO.ofOwn (hOw49.put (x' := (⟨y85.num, own, y85.peer, y85.pending, y85.masked⟩ : Port)) hnq49 hy85 (f := 1) (by decide) rfl) (len_set hnq49)), hw.below, hw.tailN 12⟩
       ·
        refine cm 13 [(14, .go (outs b129 (o129 + (posB l y85.num) * 5 + 1) [.int .i64 y85.vcpu])), (18, .go (ownps 11 (0 + (posB l k) * 5 + 1) [.int .i64 own])), (19, .no)] [4, 8] [(60, .bool false)] (cellsP w b129 (o129 + (posB l y85.num) * 5 + 1) [.int .i64 y85.vcpu] ++ (acellsP ((cs49).setIfInBounds (0 + (posB l k) * 5 + 1) (.int .i64 own)) (0 + (posB l k) * 5 + 1) [.int .i64 own] ++ ([¬ ((y85.vcpu : Int) ≠ (own : Int))]))) (by kernel_rfl) rfl (alA (rd_part (hsl.get (get_pos (ris_asc l 0 (right_ris q3)) (get_self hg85)).1) 1 _ rfl) (alA (rda_part (((hOw49.put (x' := (⟨y85.num, own, y85.peer, y85.pending, y85.masked⟩ : Port)) hnq49 hy85 (f := 1) (by decide) rfl).rdx (len_set hnq49) (get_set hy85))) 1 _ rfl) (al1 q159))) ?_
        refine calm_nil' ?_
        refine done_seq ?_
        refine at_false (by kernel_rfl) ?_
        refine at_skip ?_
        refine done_seq ?_
        refine at_seq ?_
        refine aq [] [] [(6, .int .i64 0)] ([]) (fun _ => by kernel_rfl) al0 ?_
        refine done_seq ?_
        refine at_back ([]) (.int .i64 0) [] (by kernel_rfl) (by kernel_rfl) al0 ?_
        refine oq 1 [] [4, 7] [(8, .int .i64 0)] ([]) (fun _ => by kernel_rfl) al0 ?_
        refine ops_nil ?_
        refine done_seq ?_
        refine at_seq ?_
        refine aq [] [4, 7, 8] [(22, .bool false)] ([]) (fun _ => by kernel_rfl) al0 ?_
        refine done_seq ?_
        refine at_false (by kernel_rfl) ?_
        refine at_skip ?_
        refine done_seq ?_
        refine at_seq ?_
        refine am [(0, .go (owns 0 0 1)), (1, .go (owns 1 0 1))] [4] (fun _ => [(5, .int .i64 0)]) (fun _ L => (L.set 1 (bx (γ44 1) (#[.slice (some ⟨g49, 0, none⟩) n cq49]) 24))) (fun _ => []) (fun _ => by kernel_rfl) (fun _ => al0) (fun _ => ?_)
        refine done_seq ?_
        refine at_back (owns 1 0 1) (.tuple #[.agg #[.slice (some ⟨g49, 0, none⟩) n cq49], .int .i64 0]) [] (by kernel_rfl) (by kernel_rfl) al0 ?_
        refine om 6 [(7, .go (owns 0 0 1))] [6, 9] (fun γ190 => [(10, .pointer (some ⟨γ190 0, 0, none⟩)), (11, .int .i64 0)]) (fun γ190 L => bx (γ190 0) (#[.slice (some ⟨g49, 0, none⟩) n cq49]) 24 :: L) (fun γ190 => []) (fun _ => by kernel_rfl) (fun γ190 => al0) (fun γ190 => ?_)
        refine ops_nil ?_
        refine done_seq ?_
        refine at_seq ?_
        refine at_any (by kernel_rfl) ?_
        refine any_tk (f := 5) [2] [] [6, 9, 10] [(20, .int .i64 0)] ([]) #[false, false, true, false, false, false] (by kernel_rfl) (by kernel_rfl) al0 ?_
        refine any_cut 0 #[true, true, true, true, true, true] ([(6, .pointer (some ⟨γ41 3, 0, none⟩)), (7, .int .i64 0), (8, .int .i64 0)]) ([bx (γ190 0) (#[.slice (some ⟨g49, 0, none⟩) n cq49]) 24, bx (γ81 0) (#[.slice (some ⟨g49, 0, none⟩) n cq49]) 24, bx (γ44 1) (#[.slice (some ⟨g49, 0, none⟩) n cq49]) 24, bx (γ44 0) (#[.slice (some ⟨b129, o129, none⟩) n cap]) 24, bx (γ42 0) (#[.int .i64 0]) 3, bx (γ41 3) (#[.slice (some ⟨g49, 0, none⟩) n cq49]) 24, bx (γ41 2) (#[.func (.func 69) #[] #[.pointer (some ⟨γ1 1, 0, none⟩)]]) 75, bx (γ41 1) (#[.int .i64 k]) 3, bx (γ41 0) (#[.slice (some ⟨b129, o129, none⟩) n cap]) 24, bx (γ1 2) (#[.slice none 0 0]) 24, bx (γ1 1) (#[.int .i64 own]) 3, bx (γ1 0) (#[.slice (some ⟨b129, o129, none⟩) n cap]) 24, bx g49 ((cs49).setIfInBounds (0 + (posB l k) * 5 + 1) (.int .i64 own)) 40]) ?_ (fun hm => ?_)
        rotate_left
        ·
         refine any_fork [0, 1] (by kernel_rfl) (by simp) (each_cons _ rfl ?_ (each_cons _ rfl ?_ (each_nil)))
         ·
          refine oq 1 [(0, .go (owns 0 0 1))] [6, 9, 20] [(18, .agg #[.slice (some ⟨g49, 0, none⟩) n cq49])] ([]) (fun _ => by kernel_rfl) al0 ?_
          refine ops_nil ?_
          refine done_any ?_
          refine any_fork [1, 3] (by kernel_rfl) (by simp) (each_cons _ rfl ?_ (each_cons _ rfl ?_ (each_nil)))
          ·
           refine oq 1 [(1, .go (owns 4 0 1))] [6, 18, 20] [(19, .int .i64 0)] ([]) (fun _ => by kernel_rfl) al0 ?_
           refine ops_nil ?_
           refine done_any ?_
           refine any_one 3 _ (by kernel_rfl) rfl ?_
           refine om 1 [(3, .go (owns 5 0 1))] [6, 19, 20] (fun _ => []) (fun _ L => (L.set 5 (bx (γ41 3) (#[.slice (some ⟨g49, 0, none⟩) n cq49]) 24))) (fun _ => []) (fun _ => by kernel_rfl) (fun _ => al0) (fun _ => ?_)
           refine ops_nil ?_
           refine done_any ?_
           refine any_tk (f := 0) [4, 5] [] [6] [(7, .int .i64 0), (8, .int .i64 0)] ([]) #[true, true, true, true, true, true] (by kernel_rfl) (by kernel_rfl) al0 ?_
           exact any_weak hm [6, 7, 8] (by kernel_rfl) rfl rfl rfl
          ·
           refine om 1 [(3, .go (owns 5 0 1))] [6, 9, 20] (fun _ => []) (fun _ L => (L.set 5 (bx (γ41 3) (#[.slice (some ⟨g49, 0, none⟩) n cq49]) 24))) (fun _ => []) (fun _ => by kernel_rfl) (fun _ => al0) (fun _ => ?_)
           refine ops_nil ?_
           refine done_any ?_
           refine any_one 1 _ (by kernel_rfl) rfl ?_
           refine oq 1 [(1, .go (owns 4 0 1))] [6, 20] [(19, .int .i64 0)] ([]) (fun _ => by kernel_rfl) al0 ?_
           refine ops_nil ?_
           refine done_any ?_
           refine any_tk (f := 0) [4, 5] [] [6] [(7, .int .i64 0), (8, .int .i64 0)] ([]) #[true, true, true, true, true, true] (by kernel_rfl) (by kernel_rfl) al0 ?_
           exact any_weak hm [6, 7, 8] (by kernel_rfl) rfl rfl rfl
         ·
          refine oq 1 [(1, .go (owns 4 0 1))] [6, 10, 20] [(19, .int .i64 0)] ([]) (fun _ => by kernel_rfl) al0 ?_
          refine ops_nil ?_
          refine done_any ?_
          refine any_one 0 _ (by kernel_rfl) rfl ?_
          refine oq 1 [(0, .go (owns 0 0 1))] [6, 19, 20] [(18, .agg #[.slice (some ⟨g49, 0, none⟩) n cq49])] ([]) (fun _ => by kernel_rfl) al0 ?_
          refine ops_nil ?_
          refine done_any ?_
          refine any_one 3 _ (by kernel_rfl) rfl ?_
          refine om 1 [(3, .go (owns 5 0 1))] [6, 19, 20] (fun _ => []) (fun _ L => (L.set 5 (bx (γ41 3) (#[.slice (some ⟨g49, 0, none⟩) n cq49]) 24))) (fun _ => []) (fun _ => by kernel_rfl) (fun _ => al0) (fun _ => ?_)
          refine ops_nil ?_
          refine done_any ?_
          refine any_tk (f := 0) [4, 5] [] [6] [(7, .int .i64 0), (8, .int .i64 0)] ([]) #[true, true, true, true, true, true] (by kernel_rfl) (by kernel_rfl) al0 ?_
          exact any_weak hm [6, 7, 8] (by kernel_rfl) rfl rfl rfl
        refine any_nil (by kernel_rfl) ?_
        refine done_seq ?_
        refine at_back (owns 5 0 1) (.tuple #[.agg #[.slice (some ⟨g49, 0, none⟩) n cq49], .int .i64 0, .int .i64 0]) [] (by kernel_rfl) (by kernel_rfl) al0 ?_
        refine om 6 [(7, .go (owns 9 0 1))] [6] (fun _ => [(7, .int .i64 0), (8, .int .i64 0)]) (fun _ L => (L.set 9 (bx (γ1 2) (#[.slice (some ⟨g49, 0, none⟩) n cq49]) 24))) (fun _ => []) (fun _ => by kernel_rfl) (fun _ => al0) (fun _ => ?_)
        refine ops_nil ?_
        refine done_seq ?_
        refine at_return (owns 9 0 1) (.tuple #[.agg #[.slice (some ⟨g49, 0, none⟩) n cq49], .int .i64 0, .int .i64 0]) [] (by kernel_rfl) (by kernel_rfl) al0 ?_
        exact fun w' hw => by rw [bindV_ok q3 q36 hg85, turnP_no (y := y85) (z := (⟨y85.num, own, y85.peer, y85.pending, y85.masked⟩ : Port)) (fun ⟨_, b⟩ => b.elim (fun e => absurd (e.symm.trans q132) (by decide)) q159), pos_of hg85]; exact ⟨_, _, _, _, rfl, (SlO.ofOwn (hOw49.put (x' := (⟨y85.num, own, y85.peer, y85.pending, y85.masked⟩ : Port)) hnq49 hy85 (f := 1) (by decide) rfl) (len_set hnq49)), hw.below, hw.tailN 12⟩
end Go.Proofs.Ytfhlmijdokfdpaa

/-! Op.run. -/
namespace Go.Proofs.Ytfhlmijdokfdpaa
open Go Go.RowKit

set_option maxRecDepth 100000 in
theorem run_d (o : OpA) (p : Option Addr) (n cap : Nat) (l : List Port) (w : World)
 (hsl : Sv w p l) (hn : n = l.length) (hb : n ≤ 1000)
 : Calls Try.prog 24 #[.agg #[.int .i64 o.kind, .int .i64 o.a, .int .i64 o.b, .int .i64 o.vcpu, .bool o.on], .agg #[.slice p n cap]] w fun e w' => ∃ q m capq Y, e = .returned (.agg #[.slice q m capq, .int .i64 (runV l o).2.1, .bool (runV l o).2.2.1, .int .i64 (runV l o).2.2.2]) ∧ SlO 40 Y q m capq (runV l o).1 ∧ Below w.heap.size w w' ∧ Hs w Y w' := by
 refine enter (Hs.start w) Try.func24 rfl Try.ntmps24 rfl ?_
 refine at_seq ?_
 refine am [] [] (fun γ1 => [(2, .pointer (some ⟨γ1 0, 0, none⟩)), (3, .pointer (some ⟨γ1 1, 0, none⟩)), (4, .pointer (some ⟨γ1 2, 0, none⟩))]) (fun γ1 L => bx (γ1 2) (#[.slice none 0 0, .int .i64 0, .bool false, .int .i64 0]) 53 :: bx (γ1 1) (#[.slice p n cap]) 24 :: bx (γ1 0) (#[.int .i64 o.kind, .int .i64 o.a, .int .i64 o.b, .int .i64 o.vcpu, .bool o.on]) 51 :: L) (fun γ1 => []) (fun _ => by kernel_rfl) (fun γ1 => al0) (fun γ1 => ?_)
 refine done_seq ?_
 refine at_seq ?_
 refine at_seq ?_
 refine aq [(1, .go (owns 2 0 1))] [2, 3, 4] [(8, .int .u64 (kdI o.kind))] ([]) (fun _ => by kernel_rfl) al0 ?_
 refine done_seq ?_
 refine at_block ?_
 refine at_seq ?_
 refine at_seq ?_
 by_cases q4 : (kdI o.kind : Int) = (0 : Int)
 ·
  refine aq [(0, .yes)] [2, 3, 4, 8] [(20, .bool true)] ([(kdI o.kind : Int) = (0 : Int)]) (fun _ => by kernel_rfl) (al1 q4) ?_
  refine done_seq ?_
  refine at_true (by kernel_rfl) ?_
  refine at_skip ?_
  refine done_seq ?_
  refine at_true (by kernel_rfl) ?_
  refine at_ops ?_
  refine oq 3 [(0, .go (owns 1 0 1)), (2, .go (owns 2 3 1))] [4] [(24, .agg #[.slice p n cap]), (26, .int .i64 o.vcpu)] ([]) (fun _ => by kernel_rfl) al0 ?_
  refine ops_call (fun v L' => ∃ q_ m_ c_ Y_, v = .tuple #[.agg #[.slice q_ m_ c_], .int .i64 ((openV l o.vcpu).2.1), .int .i64 ((openV l o.vcpu).2.2)] ∧ L' = List.take 3 ([bx (γ1 2) (#[.slice none 0 0, .int .i64 0, .bool false, .int .i64 0]) 53, bx (γ1 1) (#[.slice p n cap]) 24, bx (γ1 0) (#[.int .i64 o.kind, .int .i64 o.a, .int .i64 o.b, .int .i64 o.vcpu, .bool o.on]) 51]) ++ (Y_ ++ List.drop 3 ([bx (γ1 2) (#[.slice none 0 0, .int .i64 0, .bool false, .int .i64 0]) 53, bx (γ1 1) (#[.slice p n cap]) 24, bx (γ1 0) (#[.int .i64 o.kind, .int .i64 o.a, .int .i64 o.b, .int .i64 o.vcpu, .bool o.on]) 51])) ∧ SlO 40 Y_ q_ m_ c_ (openV l o.vcpu).1) (by kernel_rfl) (by kernel_rfl) (by kernel_rfl) (fun args w => Try.call28 args w) (fun w hw => (open_d p n cap l o.vcpu w (hsl.kept hw.below) hn (by omega)).mono fun e w' ⟨q_, m_, c_, Y_, he, hO, hb, hY⟩ => ⟨_, _, he, ⟨q_, m_, c_, Y_, rfl, rfl, hO⟩, hw.join hb hY 3⟩) ?_
  rintro v7 L7 ⟨q7, m7, cq7, Y7, rfl, rfl, hO7⟩
  refine om 10 [(9, .go (owns 0 0 1)), (11, .go (owns 0 1 1)), (13, .go (owns 0 3 1))] [4] (fun _ => []) (fun _ L => (L.set 0 (bx (γ1 2) (#[.slice q7 m7 cq7, .int .i64 ((openV l o.vcpu).2.1), .bool false, .int .i64 ((openV l o.vcpu).2.2)]) 53))) (fun _ => []) (fun _ => by kernel_rfl) (fun _ => al0) (fun _ => ?_)
  refine ops_nil ?_
  refine done_block ?_
  refine done_seq ?_
  refine at_seq ?_
  refine aq [(0, .go (owns 0 0 4)), (1, .go (owns 0 0 4))] [4] [] ([]) (fun _ => by kernel_rfl) al0 ?_
  refine done_seq ?_
  refine at_return (owns 0 0 4) (.agg #[.slice q7 m7 cq7, .int .i64 ((openV l o.vcpu).2.1), .bool false, .int .i64 ((openV l o.vcpu).2.2)]) [] (by kernel_rfl) (by kernel_rfl) al0 ?_
  exact fun w' hw => by rw [show runV l o = ((openV l o.vcpu).1, (openV l o.vcpu).2.1, false, (openV l o.vcpu).2.2) from by simp only [runV, if_pos q4]]; exact ⟨_, _, _, _, rfl, hO7, hw.below, (hs_nil (Hs.pick [[bx (γ1 2) (#[.slice q7 m7 cq7, .int .i64 ((openV l o.vcpu).2.1), .bool false, .int .i64 ((openV l o.vcpu).2.2)]) 53], [bx (γ1 1) (#[.slice p n cap]) 24], [bx (γ1 0) (#[.int .i64 o.kind, .int .i64 o.a, .int .i64 o.b, .int .i64 o.vcpu, .bool o.on]) 51], Y7] [3] [0, 1, 2] (by kernel_rfl) hw))⟩
 ·
  refine aq [(0, .no)] [2, 3, 4, 8] [(20, .bool false)] ([¬ ((kdI o.kind : Int) = (0 : Int))]) (fun _ => by kernel_rfl) (al1 q4) ?_
  refine done_seq ?_
  refine at_false (by kernel_rfl) ?_
  by_cases q12 : (kdI o.kind : Int) = (1 : Int)
  ·
   refine aq [(0, .yes)] [2, 3, 4, 8] [(20, .bool true)] ([(kdI o.kind : Int) = (1 : Int)]) (fun _ => by kernel_rfl) (al1 q12) ?_
   refine done_seq ?_
   refine at_true (by kernel_rfl) ?_
   refine at_ops ?_
   refine oq 3 [(0, .go (owns 1 0 1)), (2, .go (owns 2 3 1))] [4] [(24, .agg #[.slice p n cap]), (26, .int .i64 o.vcpu)] ([]) (fun _ => by kernel_rfl) al0 ?_
   refine ops_call (fun v L' => ∃ q_ m_ c_ Y_, v = .tuple #[.agg #[.slice q_ m_ c_], .int .i64 ((openV l o.vcpu).2.1), .int .i64 ((openV l o.vcpu).2.2)] ∧ L' = List.take 3 ([bx (γ1 2) (#[.slice none 0 0, .int .i64 0, .bool false, .int .i64 0]) 53, bx (γ1 1) (#[.slice p n cap]) 24, bx (γ1 0) (#[.int .i64 o.kind, .int .i64 o.a, .int .i64 o.b, .int .i64 o.vcpu, .bool o.on]) 51]) ++ (Y_ ++ List.drop 3 ([bx (γ1 2) (#[.slice none 0 0, .int .i64 0, .bool false, .int .i64 0]) 53, bx (γ1 1) (#[.slice p n cap]) 24, bx (γ1 0) (#[.int .i64 o.kind, .int .i64 o.a, .int .i64 o.b, .int .i64 o.vcpu, .bool o.on]) 51])) ∧ SlO 40 Y_ q_ m_ c_ (openV l o.vcpu).1) (by kernel_rfl) (by kernel_rfl) (by kernel_rfl) (fun args w => Try.call28 args w) (fun w hw => (open_d p n cap l o.vcpu w (hsl.kept hw.below) hn (by omega)).mono fun e w' ⟨q_, m_, c_, Y_, he, hO, hb, hY⟩ => ⟨_, _, he, ⟨q_, m_, c_, Y_, rfl, rfl, hO⟩, hw.join hb hY 3⟩) ?_
   rintro v15 L15 ⟨q15, m15, cq15, Y15, rfl, rfl, hO15⟩
   refine om 10 [(9, .go (owns 0 0 1)), (11, .go (owns 0 1 1)), (13, .go (owns 0 3 1))] [4] (fun _ => []) (fun _ L => (L.set 0 (bx (γ1 2) (#[.slice q15 m15 cq15, .int .i64 ((openV l o.vcpu).2.1), .bool false, .int .i64 ((openV l o.vcpu).2.2)]) 53))) (fun _ => []) (fun _ => by kernel_rfl) (fun _ => al0) (fun _ => ?_)
   refine ops_nil ?_
   refine done_block ?_
   refine done_seq ?_
   refine at_seq ?_
   refine aq [(0, .go (owns 0 0 4)), (1, .go (owns 0 0 4))] [4] [] ([]) (fun _ => by kernel_rfl) al0 ?_
   refine done_seq ?_
   refine at_return (owns 0 0 4) (.agg #[.slice q15 m15 cq15, .int .i64 ((openV l o.vcpu).2.1), .bool false, .int .i64 ((openV l o.vcpu).2.2)]) [] (by kernel_rfl) (by kernel_rfl) al0 ?_
   exact fun w' hw => by rw [show runV l o = ((openV l o.vcpu).1, (openV l o.vcpu).2.1, false, (openV l o.vcpu).2.2) from by simp only [runV, if_neg q4, if_pos q12]]; exact ⟨_, _, _, _, rfl, hO15, hw.below, (hs_nil (Hs.pick [[bx (γ1 2) (#[.slice q15 m15 cq15, .int .i64 ((openV l o.vcpu).2.1), .bool false, .int .i64 ((openV l o.vcpu).2.2)]) 53], [bx (γ1 1) (#[.slice p n cap]) 24], [bx (γ1 0) (#[.int .i64 o.kind, .int .i64 o.a, .int .i64 o.b, .int .i64 o.vcpu, .bool o.on]) 51], Y15] [3] [0, 1, 2] (by kernel_rfl) hw))⟩
  ·
   refine aq [(0, .no)] [2, 3, 4, 8] [(20, .bool false)] ([¬ ((kdI o.kind : Int) = (1 : Int))]) (fun _ => by kernel_rfl) (al1 q12) ?_
   refine done_seq ?_
   refine at_false (by kernel_rfl) ?_
   refine at_seq ?_
   by_cases q20 : (kdI o.kind : Int) = (2 : Int)
   ·
    refine aq [(0, .yes)] [2, 3, 4, 8] [(34, .bool true)] ([(kdI o.kind : Int) = (2 : Int)]) (fun _ => by kernel_rfl) (al1 q20) ?_
    refine done_seq ?_
    refine at_true (by kernel_rfl) ?_
    refine at_ops ?_
    refine oq 5 [(0, .go (owns 1 0 1)), (2, .go (owns 2 1 1)), (4, .go (owns 2 2 1))] [4] [(37, .agg #[.slice p n cap]), (39, .int .i64 o.a), (41, .int .i64 o.b)] ([]) (fun _ => by kernel_rfl) al0 ?_
    refine ops_call (fun v L' => ∃ q_ m_ c_ Y_, v = .tuple #[.agg #[.slice q_ m_ c_], .int .i64 ((linkV l o.a o.b).2)] ∧ L' = List.take 3 ([bx (γ1 2) (#[.slice none 0 0, .int .i64 0, .bool false, .int .i64 0]) 53, bx (γ1 1) (#[.slice p n cap]) 24, bx (γ1 0) (#[.int .i64 o.kind, .int .i64 o.a, .int .i64 o.b, .int .i64 o.vcpu, .bool o.on]) 51]) ++ (Y_ ++ List.drop 3 ([bx (γ1 2) (#[.slice none 0 0, .int .i64 0, .bool false, .int .i64 0]) 53, bx (γ1 1) (#[.slice p n cap]) 24, bx (γ1 0) (#[.int .i64 o.kind, .int .i64 o.a, .int .i64 o.b, .int .i64 o.vcpu, .bool o.on]) 51])) ∧ SlO 40 Y_ q_ m_ c_ (linkV l o.a o.b).1) (by kernel_rfl) (by kernel_rfl) (by kernel_rfl) (fun args w => Try.call29 args w) (fun w hw => (link_d p n cap l o.a o.b w (hsl.kept hw.below) hn (by omega)).mono fun e w' ⟨q_, m_, c_, Y_, he, hO, hb, hY⟩ => ⟨_, _, he, ⟨q_, m_, c_, Y_, rfl, rfl, hO⟩, hw.join hb hY 3⟩) ?_
    rintro v23 L23 ⟨q23, m23, cq23, Y23, rfl, rfl, hO23⟩
    refine om 7 [(10, .go (owns 0 0 1)), (12, .go (owns 0 3 1))] [4] (fun _ => []) (fun _ L => (L.set 0 (bx (γ1 2) (#[.slice q23 m23 cq23, .int .i64 0, .bool false, .int .i64 ((linkV l o.a o.b).2)]) 53))) (fun _ => []) (fun _ => by kernel_rfl) (fun _ => al0) (fun _ => ?_)
    refine ops_nil ?_
    refine done_block ?_
    refine done_seq ?_
    refine at_seq ?_
    refine aq [(0, .go (owns 0 0 4)), (1, .go (owns 0 0 4))] [4] [] ([]) (fun _ => by kernel_rfl) al0 ?_
    refine done_seq ?_
    refine at_return (owns 0 0 4) (.agg #[.slice q23 m23 cq23, .int .i64 0, .bool false, .int .i64 ((linkV l o.a o.b).2)]) [] (by kernel_rfl) (by kernel_rfl) al0 ?_
    exact fun w' hw => by rw [show runV l o = ((linkV l o.a o.b).1, 0, false, (linkV l o.a o.b).2) from by simp only [runV, if_neg q4, if_neg q12, if_pos q20]]; exact ⟨_, _, _, _, rfl, hO23, hw.below, (hs_nil (Hs.pick [[bx (γ1 2) (#[.slice q23 m23 cq23, .int .i64 0, .bool false, .int .i64 ((linkV l o.a o.b).2)]) 53], [bx (γ1 1) (#[.slice p n cap]) 24], [bx (γ1 0) (#[.int .i64 o.kind, .int .i64 o.a, .int .i64 o.b, .int .i64 o.vcpu, .bool o.on]) 51], Y23] [3] [0, 1, 2] (by kernel_rfl) hw))⟩
   ·
    refine aq [(0, .no)] [2, 3, 4, 8] [(34, .bool false)] ([¬ ((kdI o.kind : Int) = (2 : Int))]) (fun _ => by kernel_rfl) (al1 q20) ?_
    refine done_seq ?_
    refine at_false (by kernel_rfl) ?_
    refine at_seq ?_
    by_cases q28 : (kdI o.kind : Int) = (3 : Int)
    ·
     refine aq [(0, .yes)] [2, 3, 4, 8] [(47, .bool true)] ([(kdI o.kind : Int) = (3 : Int)]) (fun _ => by kernel_rfl) (al1 q28) ?_
     refine done_seq ?_
     refine at_true (by kernel_rfl) ?_
     refine at_ops ?_
     refine oq 3 [(0, .go (owns 1 0 1)), (2, .go (owns 2 1 1))] [4] [(50, .agg #[.slice p n cap]), (52, .int .i64 o.a)] ([]) (fun _ => by kernel_rfl) al0 ?_
     refine ops_call (fun v L' => ∃ q_ m_ c_ Y_, v = .tuple #[.agg #[.slice q_ m_ c_], .int .i64 ((closeV l o.a).2)] ∧ L' = List.take 3 ([bx (γ1 2) (#[.slice none 0 0, .int .i64 0, .bool false, .int .i64 0]) 53, bx (γ1 1) (#[.slice p n cap]) 24, bx (γ1 0) (#[.int .i64 o.kind, .int .i64 o.a, .int .i64 o.b, .int .i64 o.vcpu, .bool o.on]) 51]) ++ (Y_ ++ List.drop 3 ([bx (γ1 2) (#[.slice none 0 0, .int .i64 0, .bool false, .int .i64 0]) 53, bx (γ1 1) (#[.slice p n cap]) 24, bx (γ1 0) (#[.int .i64 o.kind, .int .i64 o.a, .int .i64 o.b, .int .i64 o.vcpu, .bool o.on]) 51])) ∧ SlO 40 Y_ q_ m_ c_ (closeV l o.a).1) (by kernel_rfl) (by kernel_rfl) (by kernel_rfl) (fun args w => Try.call42 args w) (fun w hw => (close_d p n cap l o.a w (hsl.kept hw.below) hn (by omega)).mono fun e w' ⟨q_, m_, c_, Y_, he, hO, hb, hY⟩ => ⟨_, _, he, ⟨q_, m_, c_, Y_, rfl, rfl, hO⟩, hw.join hb hY 3⟩) ?_
     rintro v31 L31 ⟨q31, m31, cq31, Y31, rfl, rfl, hO31⟩
     refine om 7 [(8, .go (owns 0 0 1)), (10, .go (owns 0 3 1))] [4] (fun _ => []) (fun _ L => (L.set 0 (bx (γ1 2) (#[.slice q31 m31 cq31, .int .i64 0, .bool false, .int .i64 ((closeV l o.a).2)]) 53))) (fun _ => []) (fun _ => by kernel_rfl) (fun _ => al0) (fun _ => ?_)
     refine ops_nil ?_
     refine done_block ?_
     refine done_seq ?_
     refine at_seq ?_
     refine aq [(0, .go (owns 0 0 4)), (1, .go (owns 0 0 4))] [4] [] ([]) (fun _ => by kernel_rfl) al0 ?_
     refine done_seq ?_
     refine at_return (owns 0 0 4) (.agg #[.slice q31 m31 cq31, .int .i64 0, .bool false, .int .i64 ((closeV l o.a).2)]) [] (by kernel_rfl) (by kernel_rfl) al0 ?_
     exact fun w' hw => by rw [show runV l o = ((closeV l o.a).1, 0, false, (closeV l o.a).2) from by simp only [runV, if_neg q4, if_neg q12, if_neg q20, if_pos q28]]; exact ⟨_, _, _, _, rfl, hO31, hw.below, (hs_nil (Hs.pick [[bx (γ1 2) (#[.slice q31 m31 cq31, .int .i64 0, .bool false, .int .i64 ((closeV l o.a).2)]) 53], [bx (γ1 1) (#[.slice p n cap]) 24], [bx (γ1 0) (#[.int .i64 o.kind, .int .i64 o.a, .int .i64 o.b, .int .i64 o.vcpu, .bool o.on]) 51], Y31] [3] [0, 1, 2] (by kernel_rfl) hw))⟩
    ·
     refine aq [(0, .no)] [2, 3, 4, 8] [(47, .bool false)] ([¬ ((kdI o.kind : Int) = (3 : Int))]) (fun _ => by kernel_rfl) (al1 q28) ?_
     refine done_seq ?_
     refine at_false (by kernel_rfl) ?_
     refine at_seq ?_
     by_cases q36 : (kdI o.kind : Int) = (4 : Int)
     ·
      refine aq [(0, .yes)] [2, 3, 4, 8] [(58, .bool true)] ([(kdI o.kind : Int) = (4 : Int)]) (fun _ => by kernel_rfl) (al1 q36) ?_
      refine done_seq ?_
      refine at_true (by kernel_rfl) ?_
      refine at_ops ?_
      refine oq 3 [(0, .go (owns 1 0 1)), (2, .go (owns 2 3 1))] [4] [(61, .agg #[.slice p n cap]), (63, .int .i64 o.vcpu)] ([]) (fun _ => by kernel_rfl) al0 ?_
      refine ops_call (fun v L' => ∃ q_ m_ c_ Y_, v = .tuple #[.agg #[.slice q_ m_ c_], .int .i64 ((dropV l o.vcpu).2.1), .int .i64 ((dropV l o.vcpu).2.2)] ∧ L' = List.take 3 ([bx (γ1 2) (#[.slice none 0 0, .int .i64 0, .bool false, .int .i64 0]) 53, bx (γ1 1) (#[.slice p n cap]) 24, bx (γ1 0) (#[.int .i64 o.kind, .int .i64 o.a, .int .i64 o.b, .int .i64 o.vcpu, .bool o.on]) 51]) ++ (Y_ ++ List.drop 3 ([bx (γ1 2) (#[.slice none 0 0, .int .i64 0, .bool false, .int .i64 0]) 53, bx (γ1 1) (#[.slice p n cap]) 24, bx (γ1 0) (#[.int .i64 o.kind, .int .i64 o.a, .int .i64 o.b, .int .i64 o.vcpu, .bool o.on]) 51])) ∧ SlO 40 Y_ q_ m_ c_ (dropV l o.vcpu).1) (by kernel_rfl) (by kernel_rfl) (by kernel_rfl) (fun args w => Try.call43 args w) (fun w hw => (drop_d p n cap l o.vcpu w (hsl.kept hw.below) hn (by omega)).mono fun e w' ⟨q_, m_, c_, Y_, he, hO, hb, hY⟩ => ⟨_, _, he, ⟨q_, m_, c_, Y_, rfl, rfl, hO⟩, hw.join hb hY 3⟩) ?_
      rintro v39 L39 ⟨q39, m39, cq39, Y39, rfl, rfl, hO39⟩
      refine om 10 [(9, .go (owns 0 0 1)), (11, .go (owns 0 1 1)), (13, .go (owns 0 3 1))] [4] (fun _ => []) (fun _ L => (L.set 0 (bx (γ1 2) (#[.slice q39 m39 cq39, .int .i64 ((dropV l o.vcpu).2.1), .bool false, .int .i64 ((dropV l o.vcpu).2.2)]) 53))) (fun _ => []) (fun _ => by kernel_rfl) (fun _ => al0) (fun _ => ?_)
      refine ops_nil ?_
      refine done_block ?_
      refine done_seq ?_
      refine at_seq ?_
      refine aq [(0, .go (owns 0 0 4)), (1, .go (owns 0 0 4))] [4] [] ([]) (fun _ => by kernel_rfl) al0 ?_
      refine done_seq ?_
      refine at_return (owns 0 0 4) (.agg #[.slice q39 m39 cq39, .int .i64 ((dropV l o.vcpu).2.1), .bool false, .int .i64 ((dropV l o.vcpu).2.2)]) [] (by kernel_rfl) (by kernel_rfl) al0 ?_
      exact fun w' hw => by rw [show runV l o = ((dropV l o.vcpu).1, (dropV l o.vcpu).2.1, false, (dropV l o.vcpu).2.2) from by simp only [runV, if_neg q4, if_neg q12, if_neg q20, if_neg q28, if_pos q36]]; exact ⟨_, _, _, _, rfl, hO39, hw.below, (hs_nil (Hs.pick [[bx (γ1 2) (#[.slice q39 m39 cq39, .int .i64 ((dropV l o.vcpu).2.1), .bool false, .int .i64 ((dropV l o.vcpu).2.2)]) 53], [bx (γ1 1) (#[.slice p n cap]) 24], [bx (γ1 0) (#[.int .i64 o.kind, .int .i64 o.a, .int .i64 o.b, .int .i64 o.vcpu, .bool o.on]) 51], Y39] [3] [0, 1, 2] (by kernel_rfl) hw))⟩
     ·
      refine aq [(0, .no)] [2, 3, 4, 8] [(58, .bool false)] ([¬ ((kdI o.kind : Int) = (4 : Int))]) (fun _ => by kernel_rfl) (al1 q36) ?_
      refine done_seq ?_
      refine at_false (by kernel_rfl) ?_
      refine at_seq ?_
      refine at_seq ?_
      by_cases q44 : (kdI o.kind : Int) = (5 : Int)
      ·
       refine aq [(0, .yes)] [2, 3, 4, 8] [(71, .bool true)] ([(kdI o.kind : Int) = (5 : Int)]) (fun _ => by kernel_rfl) (al1 q44) ?_
       refine done_seq ?_
       refine at_true (by kernel_rfl) ?_
       refine at_skip ?_
       refine done_seq ?_
       refine at_true (by kernel_rfl) ?_
       refine at_ops ?_
       refine oq 3 [(0, .go (owns 1 0 1)), (2, .go (owns 2 1 1))] [4] [(76, .agg #[.slice p n cap]), (78, .int .i64 o.a)] ([]) (fun _ => by kernel_rfl) al0 ?_
       refine ops_call (fun v L' => ∃ q_ m_ c_ Y_, v = .tuple #[.agg #[.slice q_ m_ c_], .int .i64 ((sendV l o.a).2.1), .int .i64 ((sendV l o.a).2.2)] ∧ L' = List.take 3 ([bx (γ1 2) (#[.slice none 0 0, .int .i64 0, .bool false, .int .i64 0]) 53, bx (γ1 1) (#[.slice p n cap]) 24, bx (γ1 0) (#[.int .i64 o.kind, .int .i64 o.a, .int .i64 o.b, .int .i64 o.vcpu, .bool o.on]) 51]) ++ (Y_ ++ List.drop 3 ([bx (γ1 2) (#[.slice none 0 0, .int .i64 0, .bool false, .int .i64 0]) 53, bx (γ1 1) (#[.slice p n cap]) 24, bx (γ1 0) (#[.int .i64 o.kind, .int .i64 o.a, .int .i64 o.b, .int .i64 o.vcpu, .bool o.on]) 51])) ∧ SlO 40 Y_ q_ m_ c_ (sendV l o.a).1) (by kernel_rfl) (by kernel_rfl) (by kernel_rfl) (fun args w => Try.call30 args w) (fun w hw => (send_d p n cap l o.a w (hsl.kept hw.below) hn (by omega)).mono fun e w' ⟨q_, m_, c_, Y_, he, hO, hb, hY⟩ => ⟨_, _, he, ⟨q_, m_, c_, Y_, rfl, rfl, hO⟩, hw.join hb hY 3⟩) ?_
       rintro v47 L47 ⟨q47, m47, cq47, Y47, rfl, rfl, hO47⟩
       refine om 10 [(9, .go (owns 0 0 1)), (11, .go (owns 0 1 1)), (13, .go (owns 0 3 1))] [4] (fun _ => []) (fun _ L => (L.set 0 (bx (γ1 2) (#[.slice q47 m47 cq47, .int .i64 ((sendV l o.a).2.1), .bool false, .int .i64 ((sendV l o.a).2.2)]) 53))) (fun _ => []) (fun _ => by kernel_rfl) (fun _ => al0) (fun _ => ?_)
       refine ops_nil ?_
       refine done_block ?_
       refine done_seq ?_
       refine at_seq ?_
       refine aq [(0, .go (owns 0 0 4)), (1, .go (owns 0 0 4))] [4] [] ([]) (fun _ => by kernel_rfl) al0 ?_
       refine done_seq ?_
       refine at_return (owns 0 0 4) (.agg #[.slice q47 m47 cq47, .int .i64 ((sendV l o.a).2.1), .bool false, .int .i64 ((sendV l o.a).2.2)]) [] (by kernel_rfl) (by kernel_rfl) al0 ?_
       exact fun w' hw => by rw [show runV l o = ((sendV l o.a).1, (sendV l o.a).2.1, false, (sendV l o.a).2.2) from by simp only [runV, if_neg q4, if_neg q12, if_neg q20, if_neg q28, if_neg q36, if_pos q44]]; exact ⟨_, _, _, _, rfl, hO47, hw.below, (hs_nil (Hs.pick [[bx (γ1 2) (#[.slice q47 m47 cq47, .int .i64 ((sendV l o.a).2.1), .bool false, .int .i64 ((sendV l o.a).2.2)]) 53], [bx (γ1 1) (#[.slice p n cap]) 24], [bx (γ1 0) (#[.int .i64 o.kind, .int .i64 o.a, .int .i64 o.b, .int .i64 o.vcpu, .bool o.on]) 51], Y47] [3] [0, 1, 2] (by kernel_rfl) hw))⟩
      ·
       refine aq [(0, .no)] [2, 3, 4, 8] [(71, .bool false)] ([¬ ((kdI o.kind : Int) = (5 : Int))]) (fun _ => by kernel_rfl) (al1 q44) ?_
       refine done_seq ?_
       refine at_false (by kernel_rfl) ?_
       refine at_seq ?_
       by_cases q52 : (kdI o.kind : Int) = (6 : Int)
       ·
        refine aq [(0, .yes)] [2, 3, 4, 8] [(71, .bool true)] ([(kdI o.kind : Int) = (6 : Int)]) (fun _ => by kernel_rfl) (al1 q52) ?_
        refine done_seq ?_
        refine at_true (by kernel_rfl) ?_
        refine at_skip ?_
        refine done_seq ?_
        refine at_true (by kernel_rfl) ?_
        refine at_ops ?_
        refine oq 3 [(0, .go (owns 1 0 1)), (2, .go (owns 2 1 1))] [4] [(76, .agg #[.slice p n cap]), (78, .int .i64 o.a)] ([]) (fun _ => by kernel_rfl) al0 ?_
        refine ops_call (fun v L' => ∃ q_ m_ c_ Y_, v = .tuple #[.agg #[.slice q_ m_ c_], .int .i64 ((sendV l o.a).2.1), .int .i64 ((sendV l o.a).2.2)] ∧ L' = List.take 3 ([bx (γ1 2) (#[.slice none 0 0, .int .i64 0, .bool false, .int .i64 0]) 53, bx (γ1 1) (#[.slice p n cap]) 24, bx (γ1 0) (#[.int .i64 o.kind, .int .i64 o.a, .int .i64 o.b, .int .i64 o.vcpu, .bool o.on]) 51]) ++ (Y_ ++ List.drop 3 ([bx (γ1 2) (#[.slice none 0 0, .int .i64 0, .bool false, .int .i64 0]) 53, bx (γ1 1) (#[.slice p n cap]) 24, bx (γ1 0) (#[.int .i64 o.kind, .int .i64 o.a, .int .i64 o.b, .int .i64 o.vcpu, .bool o.on]) 51])) ∧ SlO 40 Y_ q_ m_ c_ (sendV l o.a).1) (by kernel_rfl) (by kernel_rfl) (by kernel_rfl) (fun args w => Try.call30 args w) (fun w hw => (send_d p n cap l o.a w (hsl.kept hw.below) hn (by omega)).mono fun e w' ⟨q_, m_, c_, Y_, he, hO, hb, hY⟩ => ⟨_, _, he, ⟨q_, m_, c_, Y_, rfl, rfl, hO⟩, hw.join hb hY 3⟩) ?_
        rintro v55 L55 ⟨q55, m55, cq55, Y55, rfl, rfl, hO55⟩
        refine om 10 [(9, .go (owns 0 0 1)), (11, .go (owns 0 1 1)), (13, .go (owns 0 3 1))] [4] (fun _ => []) (fun _ L => (L.set 0 (bx (γ1 2) (#[.slice q55 m55 cq55, .int .i64 ((sendV l o.a).2.1), .bool false, .int .i64 ((sendV l o.a).2.2)]) 53))) (fun _ => []) (fun _ => by kernel_rfl) (fun _ => al0) (fun _ => ?_)
        refine ops_nil ?_
        refine done_block ?_
        refine done_seq ?_
        refine at_seq ?_
        refine aq [(0, .go (owns 0 0 4)), (1, .go (owns 0 0 4))] [4] [] ([]) (fun _ => by kernel_rfl) al0 ?_
        refine done_seq ?_
        refine at_return (owns 0 0 4) (.agg #[.slice q55 m55 cq55, .int .i64 ((sendV l o.a).2.1), .bool false, .int .i64 ((sendV l o.a).2.2)]) [] (by kernel_rfl) (by kernel_rfl) al0 ?_
        exact fun w' hw => by rw [show runV l o = ((sendV l o.a).1, (sendV l o.a).2.1, false, (sendV l o.a).2.2) from by simp only [runV, if_neg q4, if_neg q12, if_neg q20, if_neg q28, if_neg q36, if_neg q44, if_pos q52]]; exact ⟨_, _, _, _, rfl, hO55, hw.below, (hs_nil (Hs.pick [[bx (γ1 2) (#[.slice q55 m55 cq55, .int .i64 ((sendV l o.a).2.1), .bool false, .int .i64 ((sendV l o.a).2.2)]) 53], [bx (γ1 1) (#[.slice p n cap]) 24], [bx (γ1 0) (#[.int .i64 o.kind, .int .i64 o.a, .int .i64 o.b, .int .i64 o.vcpu, .bool o.on]) 51], Y55] [3] [0, 1, 2] (by kernel_rfl) hw))⟩
       ·
        refine aq [(0, .no)] [2, 3, 4, 8] [(71, .bool false)] ([¬ ((kdI o.kind : Int) = (6 : Int))]) (fun _ => by kernel_rfl) (al1 q52) ?_
        refine done_seq ?_
        refine at_false (by kernel_rfl) ?_
        by_cases q60 : (kdI o.kind : Int) = (7 : Int)
        ·
         refine aq [(0, .yes)] [2, 3, 4, 8] [(71, .bool true)] ([(kdI o.kind : Int) = (7 : Int)]) (fun _ => by kernel_rfl) (al1 q60) ?_
         refine done_seq ?_
         refine at_true (by kernel_rfl) ?_
         refine at_ops ?_
         refine oq 3 [(0, .go (owns 1 0 1)), (2, .go (owns 2 1 1))] [4] [(76, .agg #[.slice p n cap]), (78, .int .i64 o.a)] ([]) (fun _ => by kernel_rfl) al0 ?_
         refine ops_call (fun v L' => ∃ q_ m_ c_ Y_, v = .tuple #[.agg #[.slice q_ m_ c_], .int .i64 ((sendV l o.a).2.1), .int .i64 ((sendV l o.a).2.2)] ∧ L' = List.take 3 ([bx (γ1 2) (#[.slice none 0 0, .int .i64 0, .bool false, .int .i64 0]) 53, bx (γ1 1) (#[.slice p n cap]) 24, bx (γ1 0) (#[.int .i64 o.kind, .int .i64 o.a, .int .i64 o.b, .int .i64 o.vcpu, .bool o.on]) 51]) ++ (Y_ ++ List.drop 3 ([bx (γ1 2) (#[.slice none 0 0, .int .i64 0, .bool false, .int .i64 0]) 53, bx (γ1 1) (#[.slice p n cap]) 24, bx (γ1 0) (#[.int .i64 o.kind, .int .i64 o.a, .int .i64 o.b, .int .i64 o.vcpu, .bool o.on]) 51])) ∧ SlO 40 Y_ q_ m_ c_ (sendV l o.a).1) (by kernel_rfl) (by kernel_rfl) (by kernel_rfl) (fun args w => Try.call30 args w) (fun w hw => (send_d p n cap l o.a w (hsl.kept hw.below) hn (by omega)).mono fun e w' ⟨q_, m_, c_, Y_, he, hO, hb, hY⟩ => ⟨_, _, he, ⟨q_, m_, c_, Y_, rfl, rfl, hO⟩, hw.join hb hY 3⟩) ?_
         rintro v63 L63 ⟨q63, m63, cq63, Y63, rfl, rfl, hO63⟩
         refine om 10 [(9, .go (owns 0 0 1)), (11, .go (owns 0 1 1)), (13, .go (owns 0 3 1))] [4] (fun _ => []) (fun _ L => (L.set 0 (bx (γ1 2) (#[.slice q63 m63 cq63, .int .i64 ((sendV l o.a).2.1), .bool false, .int .i64 ((sendV l o.a).2.2)]) 53))) (fun _ => []) (fun _ => by kernel_rfl) (fun _ => al0) (fun _ => ?_)
         refine ops_nil ?_
         refine done_block ?_
         refine done_seq ?_
         refine at_seq ?_
         refine aq [(0, .go (owns 0 0 4)), (1, .go (owns 0 0 4))] [4] [] ([]) (fun _ => by kernel_rfl) al0 ?_
         refine done_seq ?_
         refine at_return (owns 0 0 4) (.agg #[.slice q63 m63 cq63, .int .i64 ((sendV l o.a).2.1), .bool false, .int .i64 ((sendV l o.a).2.2)]) [] (by kernel_rfl) (by kernel_rfl) al0 ?_
         exact fun w' hw => by rw [show runV l o = ((sendV l o.a).1, (sendV l o.a).2.1, false, (sendV l o.a).2.2) from by simp only [runV, if_neg q4, if_neg q12, if_neg q20, if_neg q28, if_neg q36, if_neg q44, if_neg q52, if_pos q60]]; exact ⟨_, _, _, _, rfl, hO63, hw.below, (hs_nil (Hs.pick [[bx (γ1 2) (#[.slice q63 m63 cq63, .int .i64 ((sendV l o.a).2.1), .bool false, .int .i64 ((sendV l o.a).2.2)]) 53], [bx (γ1 1) (#[.slice p n cap]) 24], [bx (γ1 0) (#[.int .i64 o.kind, .int .i64 o.a, .int .i64 o.b, .int .i64 o.vcpu, .bool o.on]) 51], Y63] [3] [0, 1, 2] (by kernel_rfl) hw))⟩
        ·
         refine aq [(0, .no)] [2, 3, 4, 8] [(71, .bool false)] ([¬ ((kdI o.kind : Int) = (7 : Int))]) (fun _ => by kernel_rfl) (al1 q60) ?_
         refine done_seq ?_
         refine at_false (by kernel_rfl) ?_
         refine at_seq ?_
         by_cases q68 : (kdI o.kind : Int) = (8 : Int)
         ·
          refine aq [(0, .yes)] [2, 3, 4, 8] [(86, .bool true)] ([(kdI o.kind : Int) = (8 : Int)]) (fun _ => by kernel_rfl) (al1 q68) ?_
          refine done_seq ?_
          refine at_true (by kernel_rfl) ?_
          refine at_ops ?_
          refine oq 3 [(0, .go (owns 1 0 1)), (2, .go (owns 2 1 1))] [4] [(89, .agg #[.slice p n cap]), (91, .int .i64 o.a)] ([]) (fun _ => by kernel_rfl) al0 ?_
          refine ops_call (fun v L' => ∃ q_ m_ c_ Y_, v = .tuple #[.agg #[.slice q_ m_ c_], .int .i64 ((turnV l o.a raiF).2.1), .int .i64 ((turnV l o.a raiF).2.2)] ∧ L' = List.take 3 ([bx (γ1 2) (#[.slice none 0 0, .int .i64 0, .bool false, .int .i64 0]) 53, bx (γ1 1) (#[.slice p n cap]) 24, bx (γ1 0) (#[.int .i64 o.kind, .int .i64 o.a, .int .i64 o.b, .int .i64 o.vcpu, .bool o.on]) 51]) ++ (Y_ ++ List.drop 3 ([bx (γ1 2) (#[.slice none 0 0, .int .i64 0, .bool false, .int .i64 0]) 53, bx (γ1 1) (#[.slice p n cap]) 24, bx (γ1 0) (#[.int .i64 o.kind, .int .i64 o.a, .int .i64 o.b, .int .i64 o.vcpu, .bool o.on]) 51])) ∧ SlO 40 Y_ q_ m_ c_ (turnV l o.a raiF).1) (by kernel_rfl) (by kernel_rfl) (by kernel_rfl) (fun args w => Try.call44 args w) (fun w hw => (raise_d p n cap l o.a w (hsl.kept hw.below) hn (by omega)).mono fun e w' ⟨q_, m_, c_, Y_, he, hO, hb, hY⟩ => ⟨_, _, he, ⟨q_, m_, c_, Y_, rfl, rfl, hO⟩, hw.join hb hY 3⟩) ?_
          rintro v71 L71 ⟨q71, m71, cq71, Y71, rfl, rfl, hO71⟩
          refine om 10 [(9, .go (owns 0 0 1)), (11, .go (owns 0 1 1)), (13, .go (owns 0 3 1))] [4] (fun _ => []) (fun _ L => (L.set 0 (bx (γ1 2) (#[.slice q71 m71 cq71, .int .i64 ((turnV l o.a raiF).2.1), .bool false, .int .i64 ((turnV l o.a raiF).2.2)]) 53))) (fun _ => []) (fun _ => by kernel_rfl) (fun _ => al0) (fun _ => ?_)
          refine ops_nil ?_
          refine done_block ?_
          refine done_seq ?_
          refine at_seq ?_
          refine aq [(0, .go (owns 0 0 4)), (1, .go (owns 0 0 4))] [4] [] ([]) (fun _ => by kernel_rfl) al0 ?_
          refine done_seq ?_
          refine at_return (owns 0 0 4) (.agg #[.slice q71 m71 cq71, .int .i64 ((turnV l o.a raiF).2.1), .bool false, .int .i64 ((turnV l o.a raiF).2.2)]) [] (by kernel_rfl) (by kernel_rfl) al0 ?_
          exact fun w' hw => by rw [show runV l o = ((turnV l o.a raiF).1, (turnV l o.a raiF).2.1, false, (turnV l o.a raiF).2.2) from by simp only [runV, if_neg q4, if_neg q12, if_neg q20, if_neg q28, if_neg q36, if_neg q44, if_neg q52, if_neg q60, if_pos q68]]; exact ⟨_, _, _, _, rfl, hO71, hw.below, (hs_nil (Hs.pick [[bx (γ1 2) (#[.slice q71 m71 cq71, .int .i64 ((turnV l o.a raiF).2.1), .bool false, .int .i64 ((turnV l o.a raiF).2.2)]) 53], [bx (γ1 1) (#[.slice p n cap]) 24], [bx (γ1 0) (#[.int .i64 o.kind, .int .i64 o.a, .int .i64 o.b, .int .i64 o.vcpu, .bool o.on]) 51], Y71] [3] [0, 1, 2] (by kernel_rfl) hw))⟩
         ·
          refine aq [(0, .no)] [2, 3, 4, 8] [(86, .bool false)] ([¬ ((kdI o.kind : Int) = (8 : Int))]) (fun _ => by kernel_rfl) (al1 q68) ?_
          refine done_seq ?_
          refine at_false (by kernel_rfl) ?_
          refine at_seq ?_
          by_cases q76 : (kdI o.kind : Int) = (9 : Int)
          ·
           refine aq [(0, .yes)] [2, 3, 4, 8] [(99, .bool true)] ([(kdI o.kind : Int) = (9 : Int)]) (fun _ => by kernel_rfl) (al1 q76) ?_
           refine done_seq ?_
           refine at_true (by kernel_rfl) ?_
           refine at_ops ?_
           refine oq 5 [(0, .go (owns 1 0 1)), (2, .go (owns 2 1 1)), (4, .go (owns 2 4 1))] [4] [(102, .agg #[.slice p n cap]), (104, .int .i64 o.a), (106, .bool o.on)] ([]) (fun _ => by kernel_rfl) al0 ?_
           refine ops_call (fun v L' => ∃ q_ m_ c_ Y_, v = .tuple #[.agg #[.slice q_ m_ c_], .int .i64 ((turnV l o.a (masF o.on)).2.1), .int .i64 ((turnV l o.a (masF o.on)).2.2)] ∧ L' = List.take 3 ([bx (γ1 2) (#[.slice none 0 0, .int .i64 0, .bool false, .int .i64 0]) 53, bx (γ1 1) (#[.slice p n cap]) 24, bx (γ1 0) (#[.int .i64 o.kind, .int .i64 o.a, .int .i64 o.b, .int .i64 o.vcpu, .bool o.on]) 51]) ++ (Y_ ++ List.drop 3 ([bx (γ1 2) (#[.slice none 0 0, .int .i64 0, .bool false, .int .i64 0]) 53, bx (γ1 1) (#[.slice p n cap]) 24, bx (γ1 0) (#[.int .i64 o.kind, .int .i64 o.a, .int .i64 o.b, .int .i64 o.vcpu, .bool o.on]) 51])) ∧ SlO 40 Y_ q_ m_ c_ (turnV l o.a (masF o.on)).1) (by kernel_rfl) (by kernel_rfl) (by kernel_rfl) (fun args w => Try.call45 args w) (fun w hw => (mask_d p n cap l o.a o.on w (hsl.kept hw.below) hn (by omega)).mono fun e w' ⟨q_, m_, c_, Y_, he, hO, hb, hY⟩ => ⟨_, _, he, ⟨q_, m_, c_, Y_, rfl, rfl, hO⟩, hw.join hb hY 3⟩) ?_
           rintro v79 L79 ⟨q79, m79, cq79, Y79, rfl, rfl, hO79⟩
           refine om 10 [(11, .go (owns 0 0 1)), (13, .go (owns 0 1 1)), (15, .go (owns 0 3 1))] [4] (fun _ => []) (fun _ L => (L.set 0 (bx (γ1 2) (#[.slice q79 m79 cq79, .int .i64 ((turnV l o.a (masF o.on)).2.1), .bool false, .int .i64 ((turnV l o.a (masF o.on)).2.2)]) 53))) (fun _ => []) (fun _ => by kernel_rfl) (fun _ => al0) (fun _ => ?_)
           refine ops_nil ?_
           refine done_block ?_
           refine done_seq ?_
           refine at_seq ?_
           refine aq [(0, .go (owns 0 0 4)), (1, .go (owns 0 0 4))] [4] [] ([]) (fun _ => by kernel_rfl) al0 ?_
           refine done_seq ?_
           refine at_return (owns 0 0 4) (.agg #[.slice q79 m79 cq79, .int .i64 ((turnV l o.a (masF o.on)).2.1), .bool false, .int .i64 ((turnV l o.a (masF o.on)).2.2)]) [] (by kernel_rfl) (by kernel_rfl) al0 ?_
           exact fun w' hw => by rw [show runV l o = ((turnV l o.a (masF o.on)).1, (turnV l o.a (masF o.on)).2.1, false, (turnV l o.a (masF o.on)).2.2) from by simp only [runV, if_neg q4, if_neg q12, if_neg q20, if_neg q28, if_neg q36, if_neg q44, if_neg q52, if_neg q60, if_neg q68, if_pos q76]]; exact ⟨_, _, _, _, rfl, hO79, hw.below, (hs_nil (Hs.pick [[bx (γ1 2) (#[.slice q79 m79 cq79, .int .i64 ((turnV l o.a (masF o.on)).2.1), .bool false, .int .i64 ((turnV l o.a (masF o.on)).2.2)]) 53], [bx (γ1 1) (#[.slice p n cap]) 24], [bx (γ1 0) (#[.int .i64 o.kind, .int .i64 o.a, .int .i64 o.b, .int .i64 o.vcpu, .bool o.on]) 51], Y79] [3] [0, 1, 2] (by kernel_rfl) hw))⟩
          ·
           refine aq [(0, .no)] [2, 3, 4, 8] [(99, .bool false)] ([¬ ((kdI o.kind : Int) = (9 : Int))]) (fun _ => by kernel_rfl) (al1 q76) ?_
           refine done_seq ?_
           refine at_false (by kernel_rfl) ?_
           refine at_seq ?_
           by_cases q84 : (kdI o.kind : Int) = (10 : Int)
           ·
            refine aq [(0, .yes)] [2, 3, 4] [(114, .bool true)] ([(kdI o.kind : Int) = (10 : Int)]) (fun _ => by kernel_rfl) (al1 q84) ?_
            refine done_seq ?_
            refine at_true (by kernel_rfl) ?_
            refine at_ops ?_
            refine oq 5 [(0, .go (owns 1 0 1)), (2, .go (owns 2 1 1)), (4, .go (owns 2 3 1))] [4] [(117, .agg #[.slice p n cap]), (119, .int .i64 o.a), (121, .int .i64 o.vcpu)] ([]) (fun _ => by kernel_rfl) al0 ?_
            refine ops_call (fun v L' => ∃ q_ m_ c_ Y_, v = .tuple #[.agg #[.slice q_ m_ c_], .int .i64 ((bindV l o.a o.vcpu).2.1), .int .i64 ((bindV l o.a o.vcpu).2.2)] ∧ L' = List.take 3 ([bx (γ1 2) (#[.slice none 0 0, .int .i64 0, .bool false, .int .i64 0]) 53, bx (γ1 1) (#[.slice p n cap]) 24, bx (γ1 0) (#[.int .i64 o.kind, .int .i64 o.a, .int .i64 o.b, .int .i64 o.vcpu, .bool o.on]) 51]) ++ (Y_ ++ List.drop 3 ([bx (γ1 2) (#[.slice none 0 0, .int .i64 0, .bool false, .int .i64 0]) 53, bx (γ1 1) (#[.slice p n cap]) 24, bx (γ1 0) (#[.int .i64 o.kind, .int .i64 o.a, .int .i64 o.b, .int .i64 o.vcpu, .bool o.on]) 51])) ∧ SlO 40 Y_ q_ m_ c_ (bindV l o.a o.vcpu).1) (by kernel_rfl) (by kernel_rfl) (by kernel_rfl) (fun args w => Try.call46 args w) (fun w hw => (bind_d p n cap l o.a o.vcpu w (hsl.kept hw.below) hn (by omega)).mono fun e w' ⟨q_, m_, c_, Y_, he, hO, hb, hY⟩ => ⟨_, _, he, ⟨q_, m_, c_, Y_, rfl, rfl, hO⟩, hw.join hb hY 3⟩) ?_
            rintro v87 L87 ⟨q87, m87, cq87, Y87, rfl, rfl, hO87⟩
            refine om 10 [(11, .go (owns 0 0 1)), (13, .go (owns 0 1 1)), (15, .go (owns 0 3 1))] [4] (fun _ => []) (fun _ L => (L.set 0 (bx (γ1 2) (#[.slice q87 m87 cq87, .int .i64 ((bindV l o.a o.vcpu).2.1), .bool false, .int .i64 ((bindV l o.a o.vcpu).2.2)]) 53))) (fun _ => []) (fun _ => by kernel_rfl) (fun _ => al0) (fun _ => ?_)
            refine ops_nil ?_
            refine done_block ?_
            refine done_seq ?_
            refine at_seq ?_
            refine aq [(0, .go (owns 0 0 4)), (1, .go (owns 0 0 4))] [4] [] ([]) (fun _ => by kernel_rfl) al0 ?_
            refine done_seq ?_
            refine at_return (owns 0 0 4) (.agg #[.slice q87 m87 cq87, .int .i64 ((bindV l o.a o.vcpu).2.1), .bool false, .int .i64 ((bindV l o.a o.vcpu).2.2)]) [] (by kernel_rfl) (by kernel_rfl) al0 ?_
            exact fun w' hw => by rw [show runV l o = ((bindV l o.a o.vcpu).1, (bindV l o.a o.vcpu).2.1, false, (bindV l o.a o.vcpu).2.2) from by simp only [runV, if_neg q4, if_neg q12, if_neg q20, if_neg q28, if_neg q36, if_neg q44, if_neg q52, if_neg q60, if_neg q68, if_neg q76, if_pos q84]]; exact ⟨_, _, _, _, rfl, hO87, hw.below, (hs_nil (Hs.pick [[bx (γ1 2) (#[.slice q87 m87 cq87, .int .i64 ((bindV l o.a o.vcpu).2.1), .bool false, .int .i64 ((bindV l o.a o.vcpu).2.2)]) 53], [bx (γ1 1) (#[.slice p n cap]) 24], [bx (γ1 0) (#[.int .i64 o.kind, .int .i64 o.a, .int .i64 o.b, .int .i64 o.vcpu, .bool o.on]) 51], Y87] [3] [0, 1, 2] (by kernel_rfl) hw))⟩
           ·
            refine aq [(0, .no)] [2, 3, 4] [(114, .bool false)] ([¬ ((kdI o.kind : Int) = (10 : Int))]) (fun _ => by kernel_rfl) (al1 q84) ?_
            refine done_seq ?_
            refine at_false (by kernel_rfl) ?_
            refine at_ops ?_
            refine oq 3 [(0, .go (owns 1 0 1)), (2, .go (owns 2 1 1))] [4] [(10, .agg #[.slice p n cap]), (12, .int .i64 o.a)] ([]) (fun _ => by kernel_rfl) al0 ?_
            refine ops_call (fun v L' => ∃ q_ m_ c_ Y_, v = .tuple #[.agg #[.slice q_ m_ c_], .bool ((clearV l o.a).2.1), .int .i64 ((clearV l o.a).2.2)] ∧ L' = List.take 3 ([bx (γ1 2) (#[.slice none 0 0, .int .i64 0, .bool false, .int .i64 0]) 53, bx (γ1 1) (#[.slice p n cap]) 24, bx (γ1 0) (#[.int .i64 o.kind, .int .i64 o.a, .int .i64 o.b, .int .i64 o.vcpu, .bool o.on]) 51]) ++ (Y_ ++ List.drop 3 ([bx (γ1 2) (#[.slice none 0 0, .int .i64 0, .bool false, .int .i64 0]) 53, bx (γ1 1) (#[.slice p n cap]) 24, bx (γ1 0) (#[.int .i64 o.kind, .int .i64 o.a, .int .i64 o.b, .int .i64 o.vcpu, .bool o.on]) 51])) ∧ SlO 40 Y_ q_ m_ c_ (clearV l o.a).1) (by kernel_rfl) (by kernel_rfl) (by kernel_rfl) (fun args w => Try.call23 args w) (fun w hw => (clear_d p n cap l o.a w (hsl.kept hw.below) hn (by omega)).mono fun e w' ⟨q_, m_, c_, Y_, he, hO, hb, hY⟩ => ⟨_, _, he, ⟨q_, m_, c_, Y_, rfl, rfl, hO⟩, hw.join hb hY 3⟩) ?_
            rintro v92 L92 ⟨q92, m92, cq92, Y92, rfl, rfl, hO92⟩
            refine om 10 [(9, .go (owns 0 0 1)), (11, .go (owns 0 2 1)), (13, .go (owns 0 3 1))] [4] (fun _ => []) (fun _ L => (L.set 0 (bx (γ1 2) (#[.slice q92 m92 cq92, .int .i64 0, .bool ((clearV l o.a).2.1), .int .i64 ((clearV l o.a).2.2)]) 53))) (fun _ => []) (fun _ => by kernel_rfl) (fun _ => al0) (fun _ => ?_)
            refine ops_nil ?_
            refine done_block ?_
            refine done_seq ?_
            refine at_seq ?_
            refine aq [(0, .go (owns 0 0 4)), (1, .go (owns 0 0 4))] [4] [] ([]) (fun _ => by kernel_rfl) al0 ?_
            refine done_seq ?_
            refine at_return (owns 0 0 4) (.agg #[.slice q92 m92 cq92, .int .i64 0, .bool ((clearV l o.a).2.1), .int .i64 ((clearV l o.a).2.2)]) [] (by kernel_rfl) (by kernel_rfl) al0 ?_
            exact fun w' hw => by rw [show runV l o = ((clearV l o.a).1, 0, (clearV l o.a).2.1, (clearV l o.a).2.2) from by simp only [runV, if_neg q4, if_neg q12, if_neg q20, if_neg q28, if_neg q36, if_neg q44, if_neg q52, if_neg q60, if_neg q68, if_neg q76, if_neg q84]]; exact ⟨_, _, _, _, rfl, hO92, hw.below, (hs_nil (Hs.pick [[bx (γ1 2) (#[.slice q92 m92 cq92, .int .i64 0, .bool ((clearV l o.a).2.1), .int .i64 ((clearV l o.a).2.2)]) 53], [bx (γ1 1) (#[.slice p n cap]) 24], [bx (γ1 0) (#[.int .i64 o.kind, .int .i64 o.a, .int .i64 o.b, .int .i64 o.vcpu, .bool o.on]) 51], Y92] [3] [0, 1, 2] (by kernel_rfl) hw))⟩
end Go.Proofs.Ytfhlmijdokfdpaa

/-! Ports: what every change keeps, in plain Lean. -/
namespace Go.Proofs.Ytfhlmijdokfdpaa
open Go Go.RowKit

/-- Rows that may be, told by what is in them. -/
structure Good (l : List Port) : Prop where
  rise : l.Pairwise fun x y => x.num < y.num
  num : ∀ x ∈ l, 1 ≤ x.num ∧ x.num ≤ 32 ∧ vcpuB x.vcpu = true
  peer : ∀ x ∈ l, x.peer = 0 ∨ ∃ y ∈ l, y.num = x.peer ∧ y.peer = x.num ∧ y.num ≠ x.num
section
variable {l : List Port} {k n own : Int} {x y z : Port} {f : Port → Port} {p : Port → Bool}
theorem rise_inj (h : l.Pairwise fun x y => x.num < y.num) (hx : x ∈ l) (hy : y ∈ l) (e : x.num = y.num) : x = y := by
  obtain ⟨i, hi⟩ := List.mem_iff_getElem?.1 hx
  obtain ⟨j, hj⟩ := List.mem_iff_getElem?.1 hy
  obtain ⟨hi1, hi2⟩ := List.getElem?_eq_some_iff.1 hi
  obtain ⟨hj1, hj2⟩ := List.getElem?_eq_some_iff.1 hj
  have hp := List.pairwise_iff_getElem.1 h
  rcases Nat.lt_trichotomy i j with h1 | h1 | h1
  · have := hp i j hi1 hj1 h1; rw [hi2, hj2] at this; omega
  · subst h1; rw [← hi2, ← hj2]
  · have := hp j i hj1 hi1 h1; rw [hi2, hj2] at this; omega
theorem get_iff (h : l.Pairwise fun x y => x.num < y.num) : getB l k = some x ↔ x ∈ l ∧ x.num = k := by
  constructor
  · intro hg; exact ⟨(get_yes hg).1, (get_yes hg).2.1⟩
  · rintro ⟨hm, rfl⟩
    cases hg : getB l x.num with
    | none =>
      have := get_none hg
      have hh : hasB l x.num = true := List.any_eq_true.2 ⟨x, hm, decide_eq_true rfl⟩
      rw [hh] at this; cases this
    | some y => rw [rise_inj h (get_yes hg).1 hm (get_yes hg).2.1]
theorem get_no : getB l k = none ↔ ∀ x ∈ l, x.num ≠ k := by
  unfold getB
  rw [List.find?_eq_none]
  simp
theorem ris_iff : ∀ (l : List Port) (c : Int), risB c l = true ↔ (l.Pairwise fun x y => x.num < y.num) ∧ ∀ x ∈ l, c < x.num ∧ x.num ≤ 32 ∧ vcpuB x.vcpu = true
  | [], _ => by simp [risB]
  | a :: l, c => by
    rw [risB, List.pairwise_cons]
    simp only [Bool.and_eq_true, decide_eq_true_eq, ris_iff l a.num, List.mem_cons, forall_eq_or_imp]
    constructor
    · rintro ⟨⟨⟨h1, h2⟩, h3⟩, h4, h5⟩
      exact ⟨⟨fun y hy => (h5 y hy).1, h4⟩, ⟨h1, h2, h3⟩, fun y hy => ⟨by have := (h5 y hy).1; omega, (h5 y hy).2⟩⟩
    · rintro ⟨⟨h1, h2⟩, ⟨h3, h4, h5⟩, h6⟩
      exact ⟨⟨⟨h3, h4⟩, h5⟩, h2, fun y hy => ⟨h1 y hy, (h6 y hy).2⟩⟩
theorem right_iff : rightB l = true ↔ Good l := by
  unfold rightB
  rw [Bool.and_eq_true, List.all_eq_true, ris_iff]
  have key : (l.Pairwise fun x y => x.num < y.num) → ∀ x ∈ l, (linkB l x = true ↔ (x.peer = 0 ∨ ∃ y ∈ l, y.num = x.peer ∧ y.peer = x.num ∧ y.num ≠ x.num)) := by
    intro hp x hx
    by_cases h0 : x.peer = 0
    · rw [link_zero h0]; simp [h0]
    · cases hg : getB l x.peer with
      | none =>
        rw [link_none h0 hg]
        have := get_no.1 hg
        simp only [Bool.false_eq_true, false_iff, not_or, not_exists, not_and]
        exact ⟨h0, fun y hy e => absurd e (this y hy)⟩
      | some y =>
        rw [link_some h0 hg]
        obtain ⟨hy, hn⟩ := (get_iff hp).1 hg
        simp only [Bool.and_eq_true, decide_eq_true_eq, Bool.not_eq_true', decide_eq_false_iff_not]
        constructor
        · rintro ⟨a, b⟩; exact .inr ⟨y, hy, hn, a, b⟩
        · rintro (a | ⟨y', hy', a, b, c⟩)
          · exact absurd a h0
          · have : y' = y := rise_inj hp hy' hy (by omega)
            subst this; exact ⟨b, c⟩
  constructor
  · rintro ⟨⟨h1, h2⟩, h3⟩
    exact ⟨h1, fun x hx => ⟨by have := (h2 x hx).1; omega, (h2 x hx).2⟩, fun x hx => (key h1 x hx).1 (h3 x hx)⟩
  · rintro ⟨h1, h2, h3⟩
    exact ⟨⟨h1, fun x hx => ⟨by have := (h2 x hx).1; omega, (h2 x hx).2⟩⟩, fun x hx => (key h1 x hx).2 (h3 x hx)⟩
theorem good_map (h : Good l) (h1 : ∀ x ∈ l, (f x).num = x.num ∧ (f x).peer = x.peer ∧ vcpuB (f x).vcpu = true) : Good (l.map f) := by
  refine ⟨?_, fun y hy => ?_, fun y hy => ?_⟩
  · rw [List.pairwise_map]
    refine List.Pairwise.imp_of_mem (fun {a b} ha hb hab => ?_) h.rise
    rw [(h1 a ha).1, (h1 b hb).1]; exact hab
  · obtain ⟨x, hx, rfl⟩ := List.mem_map.1 hy
    rw [(h1 x hx).1]
    exact ⟨(h.num x hx).1, (h.num x hx).2.1, (h1 x hx).2.2⟩
  · obtain ⟨x, hx, rfl⟩ := List.mem_map.1 hy
    rw [(h1 x hx).1, (h1 x hx).2.1]
    rcases h.peer x hx with h0 | ⟨y, hy, a, b, c⟩
    · exact .inl h0
    · exact .inr ⟨f y, List.mem_map.2 ⟨y, hy, rfl⟩, by rw [(h1 y hy).1]; exact a, by rw [(h1 y hy).2.1]; exact b, by rw [(h1 y hy).1]; exact c⟩
/-- One port put in the place of another. -/
def putF (z : Port) (x : Port) : Port := if x.num = z.num then z else x
theorem set_put (h : Good l) (hx : getB l z.num = some x) : l.set (posB l z.num) z = l.map (putF z) := by
  have ha : Asc l := fun i j a b hij hi hj => by
    obtain ⟨hi1, hi2⟩ := List.getElem?_eq_some_iff.1 hi
    obtain ⟨hj1, hj2⟩ := List.getElem?_eq_some_iff.1 hj
    have := List.pairwise_iff_getElem.1 h.rise i j hi1 hj1 hij
    rwa [hi2, hj2] at this
  obtain ⟨h1, h2⟩ := get_pos ha hx
  have hn := (get_yes hx).2.1
  apply List.ext_getElem?
  intro i
  rw [List.getElem?_set, List.getElem?_map]
  by_cases hi : posB l z.num = i
  · subst hi
    rw [if_pos rfl, if_pos h2, h1]
    simp [putF, hn]
  · rw [if_neg hi]
    rcases he : l[i]? with _ | y
    · rfl
    · have : ¬ y.num = z.num := fun e => by
        rcases Nat.lt_trichotomy (posB l z.num) i with h3 | h3 | h3
        · have := ha _ _ _ _ h3 h1 he; omega
        · exact hi h3
        · have := ha _ _ _ _ h3 he h1; omega
      simp [putF, this]
theorem good_put (h : Good l) (hx : x ∈ l) (hn : z.num = x.num) (hp : z.peer = x.peer) (hv : vcpuB z.vcpu = true) : Good (l.map (putF z)) := by
  refine good_map h fun y hy => ?_
  unfold putF
  by_cases e : y.num = z.num
  · have : y = x := rise_inj h.rise hy hx (by omega)
    subst this
    rw [if_pos e]; exact ⟨hn, hp, hv⟩
  · rw [if_neg e]; exact ⟨rfl, rfl, (h.num y hy).2.2⟩
theorem mem_put (h : Good l) (hx : x ∈ l) (hn : z.num = x.num) : y ∈ l.map (putF z) ↔ y = z ∨ (y ∈ l ∧ y.num ≠ z.num) := by
  rw [List.mem_map]
  constructor
  · rintro ⟨a, ha, rfl⟩
    unfold putF
    by_cases e : a.num = z.num
    · rw [if_pos e]; exact .inl rfl
    · rw [if_neg e]; exact .inr ⟨ha, e⟩
  · rintro (rfl | ⟨hy, e⟩)
    · exact ⟨x, hx, by unfold putF; rw [if_pos hn.symm]⟩
    · exact ⟨y, hy, by unfold putF; rw [if_neg e]⟩
/-! ### removing -/
theorem such_num (h : Good l) (hx : x ∈ l) : x.num ∈ suchL p l ↔ p x = true := by
  unfold suchL
  rw [List.mem_map]
  constructor
  · rintro ⟨y, hy, e⟩
    obtain ⟨hm, hp⟩ := List.mem_filter.1 hy
    rw [rise_inj h.rise hx hm e.symm]; exact hp
  · intro hp; exact ⟨x, List.mem_filter.2 ⟨hx, hp⟩, rfl⟩
theorem mem_such : k ∈ suchL p l ↔ ∃ x ∈ l, p x = true ∧ x.num = k := by
  unfold suchL
  rw [List.mem_map]
  constructor
  · rintro ⟨y, hy, e⟩
    obtain ⟨hm, hp⟩ := List.mem_filter.1 hy
    exact ⟨y, hm, hp, e⟩
  · rintro ⟨y, hm, hp, e⟩; exact ⟨y, List.mem_filter.2 ⟨hm, hp⟩, e⟩
theorem unl_num {g : List Int} : (unl g x).num = x.num := by unfold unl; split <;> rfl
theorem unl_vcpu {g : List Int} : (unl g x).vcpu = x.vcpu := by unfold unl; split <;> rfl
theorem unl_pending {g : List Int} : (unl g x).pending = x.pending := by unfold unl; split <;> rfl
theorem unl_masked {g : List Int} : (unl g x).masked = x.masked := by unfold unl; split <;> rfl
theorem unl_peer {g : List Int} : (unl g x).peer = if x.peer ∈ g then 0 else x.peer := by unfold unl; split <;> rfl
theorem mem_remove : y ∈ removeV p l ↔ ∃ x ∈ l, p x = false ∧ y = unl (suchL p l) x := by
  unfold removeV
  rw [List.mem_map]
  constructor
  · rintro ⟨x, hx, rfl⟩
    obtain ⟨hm, hp⟩ := List.mem_filter.1 hx
    exact ⟨x, hm, by simpa using hp, rfl⟩
  · rintro ⟨x, hm, hp, rfl⟩; exact ⟨x, List.mem_filter.2 ⟨hm, by simp [hp]⟩, rfl⟩
theorem good_remove (h : Good l) : Good (removeV p l) := by
  refine ⟨?_, fun y hy => ?_, fun y hy => ?_⟩
  · unfold removeV
    rw [List.pairwise_map]
    refine List.Pairwise.imp (fun {a b} hab => ?_) (h.rise.filter _)
    rw [unl_num, unl_num]; exact hab
  · obtain ⟨x, hx, _, rfl⟩ := mem_remove.1 hy
    rw [unl_num, unl_vcpu]; exact h.num x hx
  · obtain ⟨x, hx, hp, rfl⟩ := mem_remove.1 hy
    rw [unl_num, unl_peer]
    split
    · exact .inl rfl
    · rename_i hne
      rcases h.peer x hx with h0 | ⟨z, hz, a, b, c⟩
      · exact .inl h0
      · right
        have hz2 : p z = false := by
          cases hpz : p z with
          | false => rfl
          | true => exact absurd (mem_such.2 ⟨z, hz, hpz, a⟩) hne
        refine ⟨unl (suchL p l) z, mem_remove.2 ⟨z, hz, hz2, rfl⟩, by rw [unl_num]; exact a, ?_, by rw [unl_num]; exact c⟩
        rw [unl_peer, if_neg]
        · exact b
        · intro hm
          rw [b] at hm
          rw [such_num h hx] at hm
          rw [hp] at hm; cases hm
/-! ### opening -/
theorem openI_spec : ∀ (l : List Port) (c : Nat), risB (c : Int) l = true → ∃ i, i ≤ l.length ∧ openI l c = c + i ∧ (∀ x ∈ l.take i, x.num < ((c + i + 1 : Nat) : Int)) ∧ (∀ x ∈ l.drop i, ((c + i + 1 : Nat) : Int) < x.num) ∧ ∀ n : Int, (c : Int) < n → n < ((c + i + 1 : Nat) : Int) → ∃ x ∈ l, x.num = n
  | [], c, _ => ⟨0, Nat.le_refl _, rfl, fun _ h => by simp at h, fun _ h => by simp at h, fun n h1 h2 => by omega⟩
  | a :: l, c, h => by
    have h' := (ris_iff (a :: l) c).1 h
    rw [risB] at h
    simp only [Bool.and_eq_true, decide_eq_true_eq] at h
    by_cases e : a.num = ((c + 1 : Nat) : Int)
    · have h2 := h.2
      rw [e] at h2
      obtain ⟨i, hi, ho, h3, h4, h5⟩ := openI_spec l (c + 1) h2
      refine ⟨i + 1, by simp; omega, by rw [openI, if_pos e, ho]; omega, fun x hx => ?_, fun x hx => ?_, fun n hn1 hn2 => ?_⟩
      · rw [List.take_succ_cons] at hx
        rcases List.mem_cons.1 hx with rfl | hx
        · omega
        · have := h3 x hx; omega
      · rw [List.drop_succ_cons] at hx
        have := h4 x hx; omega
      · by_cases hn : n = a.num
        · exact ⟨a, List.mem_cons_self .., hn.symm⟩
        · obtain ⟨x, hx, hxn⟩ := h5 n (by omega) (by omega)
          exact ⟨x, List.mem_cons_of_mem _ hx, hxn⟩
    · refine ⟨0, Nat.zero_le _, by rw [openI, if_neg e]; rfl, fun _ h => by simp at h, fun x hx => ?_, fun n h1 h2 => by omega⟩
      rw [List.drop_zero] at hx
      have ha := h.1.1.1
      rcases List.mem_cons.1 hx with rfl | hx
      · omega
      · have := (ris_mem l a.num h.2 x hx).1; omega
theorem good_open (h : Good l) (hv : vcpuB own = true) (h32 : ¬ openI l 0 = 32) : Good (l.take (openI l 0) ++ [⟨((openI l 0 + 1 : Nat) : Int), own, 0, false, false⟩] ++ l.drop (openI l 0)) ∧ openI l 0 < 32 ∧ ∀ x ∈ l, x.num ≠ ((openI l 0 + 1 : Nat) : Int) := by
  obtain ⟨i, hi, ho, h3, h4, h5⟩ := openI_spec l 0 (by rw [← right_iff] at h; exact right_ris h)
  rw [Nat.zero_add] at ho h3 h4 h5
  have hi32 : i ≤ 32 := by
    by_cases h0 : i = 0
    · omega
    · obtain ⟨x, hx, hn⟩ := h5 i (by omega) (by omega)
      have := (h.num x hx).2.1; omega
  rw [ho] at h32 ⊢
  have hne : ∀ x ∈ l, x.num ≠ ((i + 1 : Nat) : Int) := fun x hx => by
    rw [← List.take_append_drop i l] at hx
    rcases List.mem_append.1 hx with hx | hx
    · have := h3 x hx; omega
    · have := h4 x hx; omega
  refine ⟨⟨?_, fun x hx => ?_, fun x hx => ?_⟩, by omega, hne⟩
  · rw [List.append_assoc, List.pairwise_append, List.pairwise_append]
    have hp := h.rise
    rw [← List.take_append_drop i l, List.pairwise_append] at hp
    refine ⟨hp.1, ⟨by simp, hp.2.1, fun a ha b hb => ?_⟩, fun a ha b hb => ?_⟩
    · rcases List.mem_singleton.1 ha with rfl; exact h4 b hb
    · rcases List.mem_append.1 hb with hb | hb
      · rcases List.mem_singleton.1 hb with rfl; exact h3 a ha
      · exact hp.2.2 a ha b hb
  · rcases List.mem_append.1 hx with hx | hx
    · rcases List.mem_append.1 hx with hx | hx
      · exact h.num x (List.mem_of_mem_take hx)
      · rcases List.mem_singleton.1 hx with rfl; exact ⟨show (1 : Int) ≤ ((i + 1 : Nat) : Int) by omega, show ((i + 1 : Nat) : Int) ≤ 32 by omega, hv⟩
    · exact h.num x (List.mem_of_mem_drop hx)
  · have hup : ∀ y ∈ l, y ∈ l.take i ++ [⟨((i + 1 : Nat) : Int), own, 0, false, false⟩] ++ l.drop i := fun y hy => by
      rw [← List.take_append_drop i l] at hy
      rcases List.mem_append.1 hy with hy | hy
      · simp [hy]
      · simp [hy]
    have old : ∀ y ∈ l, y.peer = 0 ∨ ∃ z ∈ l.take i ++ [⟨((i + 1 : Nat) : Int), own, 0, false, false⟩] ++ l.drop i, z.num = y.peer ∧ z.peer = y.num ∧ z.num ≠ y.num := fun y hy => by
      rcases h.peer y hy with h0 | ⟨z, hz, a, b, c⟩
      · exact .inl h0
      · exact .inr ⟨z, hup z hz, a, b, c⟩
    rcases List.mem_append.1 hx with hx | hx
    · rcases List.mem_append.1 hx with hx | hx
      · exact old x (List.mem_of_mem_take hx)
      · rcases List.mem_singleton.1 hx with rfl; exact .inl rfl
    · exact old x (List.mem_of_mem_drop hx)
theorem mem_open {i : Nat} {z : Port} : y ∈ l.take i ++ [z] ++ l.drop i ↔ y ∈ l ∨ y = z := by
  have : y ∈ l ↔ y ∈ l.take i ∨ y ∈ l.drop i := by
    conv => lhs; rw [← List.take_append_drop i l]
    exact List.mem_append
  rw [this]
  simp only [List.mem_append, List.mem_singleton]
  constructor
  · rintro ((h | h) | h)
    · exact .inl (.inl h)
    · exact .inr h
    · exact .inl (.inr h)
  · rintro ((h | h) | h)
    · exact .inl (.inl h)
    · exact .inr h
    · exact .inl (.inr h)
end
end Go.Proofs.Ytfhlmijdokfdpaa

/-! The walker: maps of one's own with whole numbers for keys. -/
namespace Go.Proofs.Ytfhlmijdokfdpaa
open Go Go.RowKit

/-- What a map holds: its entries, the oldest first. -/
def mget {β : Type} : List (Int × β) → Int → Option β
  | [], _ => none
  | p :: D, k => if p.1 = k then some p.2 else mget D k
def mupd {β : Type} : List (Int × β) → Int → β → List (Int × β)
  | [], k, v => [(k, v)]
  | p :: D, k, v => if p.1 = k then (k, v) :: D else p :: mupd D k v
structure MapIs {β : Type} (ik : IntKind) (enc : β → Value) (es : Array MapEntry) (D : List (Int × β)) : Prop where
  keys : es.toList.map (fun e => (e.key, e.val)) = D.map fun p => (.int ik p.1, enc p.2)
section
variable {β : Type} {ik : IntKind} {enc : β → Value} {es : Array MapEntry} {D : List (Int × β)} {k : Int} {v : β} {ck : Nat}
theorem MapIs.nil : MapIs ik enc #[] ([] : List (Int × β)) := ⟨rfl⟩
theorem MapIs.size (h : MapIs ik enc es D) : es.size = D.length := by
  have := congrArg List.length h.keys
  simpa using this
theorem findNow_is : ∀ (l : List MapEntry) (D : List (Int × β)) (i : Nat), l.map (fun e => (e.key, e.val)) = D.map (fun p => (Value.int ik p.1, enc p.2)) →
    (Instr.findNow (.int ik) (.int ik k) l i = some none ∧ mget D k = none ∧ ∀ u, mupd D k u = D ++ [(k, u)]) ∨
    ∃ j b, Instr.findNow (.int ik) (.int ik k) l i = some (some (i + j, enc b)) ∧ mget D k = some b ∧ j < D.length ∧ (D[j]?).map (·.1) = some k ∧ ∀ u, mupd D k u = D.set j (k, u)
  | [], [], i, _ => .inl ⟨rfl, rfl, fun _ => rfl⟩
  | [], _ :: _, _, h => by simp at h
  | _ :: _, [], _, h => by simp at h
  | e :: l, p :: D, i, h => by
    simp only [List.map_cons, List.cons.injEq, Prod.mk.injEq] at h
    obtain ⟨⟨h1, h2⟩, h3⟩ := h
    by_cases hk : k = p.1
    · subst hk
      right
      refine ⟨0, p.2, ?_, by simp [mget], by simp, by simp, fun u => by simp [mupd]⟩
      simp [Instr.findNow, h1, Instr.sameNow, h2]
    · have hb : (k == p.1) = false := by simpa using hk
      have hk' : ¬ p.1 = k := fun e => hk e.symm
      rcases findNow_is l D (i + 1) h3 with ⟨a, b, c⟩ | ⟨j, b, a, c, d, e1, f⟩
      · left
        refine ⟨?_, by simp [mget, hk', b], fun u => by simp [mupd, hk', c u]⟩
        simp [Instr.findNow, h1, Instr.sameNow, hb, a]
      · right
        refine ⟨j + 1, b, ?_, by simp [mget, hk', c], by simp; omega, by simpa using e1, fun u => by simp [mupd, hk', f u]⟩
        simp only [Instr.findNow, h1, Instr.sameNow, if_true, hb, a]
        rw [show i + 1 + j = i + (j + 1) by omega]
variable {P : Program} {w : World} {t kt et : TypeId} {r : Nat}
theorem keys_ok (h : MapIs ik enc es D) : ∀ x ∈ es.toList, MapKept.IsKey (.int ik) x.key := fun x hx => by
  have : (x.key, x.val) ∈ es.toList.map (fun e => (e.key, e.val)) := List.mem_map.2 ⟨x, hx, rfl⟩
  rw [h.keys] at this
  obtain ⟨p, _, hp⟩ := List.mem_map.1 this
  have hk : x.key = .int ik p.1 := (congrArg Prod.fst hp).symm
  rw [hk]; rfl
theorem run_lookupM (ht : P.underlying t = some (.map kt et)) (hk : P.underlying kt = some (.int ik)) {i : TypeInfo} {z : Value} (hi : P.info? et = some i) (hz : i.zero = some z) (hb : w.heap[r]? = some (.map es ck)) (hM : MapIs ik enc es D) (c : Bool) :
    (Instr.lookup t (.map (some r)) (.int ik k) c).run P w = .ok (if c then .tuple #[((mget D k).map enc).getD z, .bool (mget D k).isSome] else ((mget D k).map enc).getD z) w := by
  have hck : ∀ e, (Instr.checkKey e 10000 kt (.int ik k)).run P w = .ok () w := fun e => MapKept.run_checkKey (n := 9999) hk (show MapKept.IsKey (.int ik) (.int ik k) from rfl) e
  rcases findNow_is es.toList D 0 hM.keys (k := k) with ⟨a, b, _⟩ | ⟨j, b, a, c', _, _, _⟩
  · have hf := MapKept.run_findKey (P := P) (w := w) (kt := kt) hk a
    cases c <;> simp [Instr.lookup, run_underlying ht, MapKept.run_getObj_map hb, hck, hf, zeroValue, typeInfo, hi, hz, b]
  · have hf := MapKept.run_findKey (P := P) (w := w) (kt := kt) hk a
    cases c <;> simp [Instr.lookup, run_underlying ht, MapKept.run_getObj_map hb, hck, hf, c']
theorem run_updateM (ht : P.underlying t = some (.map kt et)) (hk : P.underlying kt = some (.int ik)) (hb : w.heap[r]? = some (.map es ck)) (hM : MapIs ik enc es D) (v : β) :
    ∃ es' ck', (Instr.mapUpdate t (.map (some r)) (.int ik k) (enc v)).run P w = .ok () { w with heap := w.heap.setIfInBounds r (.map es' ck') } ∧ MapIs ik enc es' (mupd D k v) := by
  have hkk : MapKept.IsKey (.int ik) (.int ik k) := rfl
  have hck : ∀ e, (Instr.checkKey e 10000 kt (.int ik k)).run P w = .ok () w := fun e => MapKept.run_checkKey (n := 9999) hk hkk e
  rcases findNow_is es.toList D 0 hM.keys (k := k) with ⟨a, _, b⟩ | ⟨j, b, a, c', hj, hjk, d⟩
  · have hf := MapKept.run_findKey (P := P) (w := w) (kt := kt) hk a
    refine ⟨es.push ⟨.int ik k, enc v, ck⟩, ck + 1, ?_, ⟨?_⟩⟩
    · simp [Instr.mapUpdate, run_underlying ht, MapKept.run_getObj_map hb, hck, hf, MapKept.run_setObj_map _ hb]
    · rw [b v, Array.toList_push, List.map_append, List.map_append, hM.keys]; rfl
  · have hf := MapKept.run_findKey (P := P) (w := w) (kt := kt) hk a
    have hsz := hM.size
    have hjs : j < es.size := by omega
    have hkey : es[j].key = .int ik k := by
      have h1 := congrArg (fun z => z[j]?) hM.keys
      simp only [List.getElem?_map, Array.getElem?_toList, Array.getElem?_eq_getElem hjs, Option.map_some] at h1
      rcases hD : D[j]? with _ | p
      · rw [hD] at hjk; cases hjk
      · rw [hD] at hjk h1
        simp only [Option.map_some, Option.some.injEq, Prod.mk.injEq] at hjk h1
        rw [h1.1, hjk]
    refine ⟨es.modify j fun e => { e with key := .int ik k, val := enc v }, ck, ?_, ⟨?_⟩⟩
    · have hj2 : es[j]? = some es[j] := Array.getElem?_eq_getElem hjs
      simp only [Nat.zero_add] at hf
      simp [Instr.mapUpdate, run_underlying ht, MapKept.run_getObj_map hb, hck, hf, hj2, hkey, MapKept.run_keyThatStays hkk, MapKept.run_setObj_map _ hb]
    · rw [d v]
      apply List.ext_getElem?
      intro i
      rw [List.getElem?_map, List.getElem?_map, Array.getElem?_toList, Array.getElem?_modify, List.getElem?_set]
      have h1 := congrArg (fun z => z[i]?) hM.keys
      simp only [List.getElem?_map, Array.getElem?_toList] at h1
      by_cases hij : j = i
      · subst hij
        rw [if_pos rfl, if_pos rfl, if_pos hj, Array.getElem?_eq_getElem hjs]; rfl
      · rw [if_neg hij, if_neg hij, h1]
end

section
variable {E : Env} {k : List Fr} {l : Sl} {L : List Ob} {all os : List Oper} {o : Oper} {i : Nat}
/-- A map's type, asked by the kernel. -/
def mapB (P : Program) (t : TypeId) (ik : IntKind) (z : Value) : Prop := ∃ kt et, P.underlying t = some (.map kt et) ∧ P.underlying kt = some (.int ik) ∧ (P.info? et).bind (fun i => i.zero) = some z
theorem map_getD {β : Type} (f : β → Value) (o : Option β) (z : β) : (o.map f).getD (f z) = f (o.getD z) := by cases o <;> rfl
theorem ops_lookup {β : Type} {ik : IntKind} {enc : β → Value} {es : Array MapEntry} {ck : Nat} {D : List (Int × β)} (j : Nat) {t : TypeId} {x y : Operand} {c : Bool} {g : Nat} {kk : Int} (z u : Value) (ho : o.op = .lookup t x y c) (hw : wantL all l o = some true) (hd : (okD E.n o.dst && knownO l o) = true)
    (hx : look l x = .map (some g)) (hy : look l y = .int ik kk) (hT : mapB E.P t ik z) (hj : L[j]? = some (g, .map es ck)) (hM : MapIs ik enc es D) (hu : (if c then .tuple #[((mget D kk).map enc).getD z, .bool (mget D kk).isSome] else ((mget D kk).map enc).getD z) = u)
    (h : Ops E k all os (i + 1) (putL o.dst u l) L) : Ops E k all (o :: os) i l L := by
  obtain ⟨kt, et, h1, h2, h34⟩ := hT
  obtain ⟨inf, h3, h4⟩ := Option.bind_eq_some_iff.1 h34
  refine ⟨fun a w ha hs => ?_⟩
  simp only [Bool.and_eq_true] at hd
  have hg := wantL_spec ha hw
  refine wpListIn_step fun K hK => ?_
  rw [if_pos hg]
  refine ⟨fun _ _ => trivial, ?_⟩
  rw [Oper.semAt_eq _ _ _ (fun c e => by rw [ho] at e; cases e), look_exec ha hd.2]
  have hr := run_lookupM h1 h2 h3 h4 (hs.row j hj) hM (k := kk) c
  have e : (execOp (look l) o).run E.P w = .ok (.value u) w := by
    simp [execOp, ho, hx, hy, hr, hu]
  rw [e]
  exact hK _ _ (h.out _ _ (ha.put hd.1 _) hs)
theorem ops_update {β : Type} {ik : IntKind} {enc : β → Value} {es : Array MapEntry} {ck : Nat} {D : List (Int × β)} (j : Nat) {t : TypeId} {x y v : Operand} {g : Nat} {kk : Int} (b : β) (z : Value) (ho : o.op = .mapUpdate t x y v) (hw : wantL all l o = some true) (hd : (okD E.n o.dst && knownO l o) = true)
    (hx : look l x = .map (some g)) (hy : look l y = .int ik kk) (hv : look l v = enc b) (hT : mapB E.P t ik z) (hj : L[j]? = some (g, .map es ck)) (hM : MapIs ik enc es D)
    (h : ∀ es' ck', MapIs ik enc es' (mupd D kk b) → Ops E k all os (i + 1) (putL o.dst undef l) (L.set j (g, .map es' ck'))) : Ops E k all (o :: os) i l L := by
  obtain ⟨kt, et, h1, h2, h34⟩ := hT
  obtain ⟨inf, h3, h4⟩ := Option.bind_eq_some_iff.1 h34
  refine ⟨fun a w ha hs => ?_⟩
  simp only [Bool.and_eq_true] at hd
  have hg := wantL_spec ha hw
  refine wpListIn_step fun K hK => ?_
  rw [if_pos hg]
  refine ⟨fun _ _ => trivial, ?_⟩
  rw [Oper.semAt_eq _ _ _ (fun c e => by rw [ho] at e; cases e), look_exec ha hd.2]
  obtain ⟨es', ck', hr, hM'⟩ := run_updateM h1 h2 (hs.row j hj) hM (k := kk) b
  have e : (execOp (look l) o).run E.P w = .ok .skip { w with heap := w.heap.setIfInBounds g (.map es' ck') } := by
    simp [execOp, ho, hx, hy, hv, hr]
  rw [e]
  exact hK _ _ ((h es' ck' hM').out _ _ (ha.put hd.1 _) (hs.turn j hj (turn_obj (hs.row j hj) _)))
end
end Go.Proofs.Ytfhlmijdokfdpaa
