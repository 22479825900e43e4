/- Texts of this proof, one behind the other. -/
import Derived.Test.YtnhkecfapohlgaaZd
import Derived.Test.YtnhkecfapohlgaaZc
import Derived.Test.YtnhkecfapohlgaaZa
import Derived.ProofKit
import Derived.Carry
import Derived.Deep.Slices
import Derived.Lib.SmallJoins
import Derived.Test.YtnhkecfapohlgaaProg
/-! Queues: Leave. -/
namespace Go.Proofs.Ytnhkecfapohlgaa
open Go Go.RowKit

set_option maxRecDepth 100000 in
theorem leave_t (p : Option Addr) (n cap : Nat) (ts : List Rn) (k : Int) (w : World)
 (hts : Sv w p ts) (hn : n = ts.length) (hb : n ≤ 1000)
 (hU : ∀ r ∈ ts, r.U)
 : Calls Try.prog 27 #[.agg #[.slice p n cap], .int .i64 k] w fun e w' => ∃ q' n' c' Y, e = .returned (.tuple #[.agg #[.slice q' n' c'], .agg #[.int .i64 ((leaveV ts k).2.1.getD zR).id, .int .i64 ((leaveV ts k).2.1.getD zR).each, .int .u64 ((leaveV ts k).2.1.getD zR).th, .int .u64 ((leaveV ts k).2.1.getD zR).tl, .int .u64 ((leaveV ts k).2.1.getD zR).tw], .int .i64 (leaveV ts k).2.2]) ∧ SlO 35 Y q' n' c' (leaveV ts k).1 ∧ Below w.heap.size w w' ∧ Hs w Y w' := by
 refine enter (Hs.start w) Try.func27 rfl Try.ntmps27 rfl (sq_ (ma0 [] [] (fun γ1 => [(2, .pointer (some ⟨γ1 0, 0, none⟩)), (3, .pointer (some ⟨γ1 1, 0, none⟩)), (4, .pointer (some ⟨γ1 2, 0, none⟩)), (5, .pointer (some ⟨γ1 3, 0, none⟩))]) (fun γ1 L => bx (γ1 3) (#[.int .i64 0, .int .i64 0, .int .u64 0, .int .u64 0, .int .u64 0]) 35 :: bx (γ1 2) (#[.slice none 0 0]) 24 :: bx (γ1 1) (#[.int .i64 k]) 3 :: bx (γ1 0) (#[.slice p n cap]) 24 :: L) (fun γ1 => ds_ (sq_ (ma0 [] [2, 3, 4, 5] (fun γ2 => [(7, .pointer (some ⟨γ2 0, 0, none⟩))]) (fun γ2 L => bx (γ2 0) (#[.int .i64 0, .int .i64 0, .int .u64 0, .int .u64 0, .int .u64 0]) 35 :: L) (fun γ2 => ds_ (sq_ (ao_ (qo0 2 [(0, .go (owns 4 0 1))] [4, 5, 7] [(11, .agg #[.slice p n cap]), (12, .func (.func 57) #[] #[.pointer (some ⟨γ1 1, 0, none⟩), .pointer (some ⟨γ2 0, 0, none⟩)])] (ops_inline (g := 56) (args := #[.agg #[.slice p n cap], .func (.func 57) #[] #[.pointer (some ⟨γ1 1, 0, none⟩), .pointer (some ⟨γ2 0, 0, none⟩)]]) (by kernel_rfl) (by kernel_rfl) (by kernel_rfl) (fun args w => Try.call56 args w) Try.func56 rfl Try.ntmps56 rfl (sq_ (ma0 [] [1] (fun γ4 => [(2, .pointer (some ⟨γ4 0, 0, none⟩)), (4, .pointer (some ⟨γ4 1, 0, none⟩))]) (fun γ4 L => bx (γ4 1) (#[.slice none 0 0]) 24 :: bx (γ4 0) (#[.slice p n cap]) 24 :: L) (fun γ4 => ds_ (sq_ (sq_ (ao_ (qo0 1 [(0, .go (owns 1 0 1))] [1, 2, 4] [(9, .agg #[.slice p n cap])] ?_)))))))))))))))))
 rcases q6 : chkQ ts with _ | _
 ·
  refine cD (.int .i64 200) Try.call20 (fun w hw => by have := qcheck_t p n cap ts w (hts.kept hw.below) hn (by omega); rw [q6] at this; exact this) (qo0 1 [] [1, 2, 4] [(6, .int .i64 200)] (on_ (ds_ (sq_ (qa0 [] [1, 2, 4, 6] [(12, .bool true)] (ds_ (t_ (sq_ (qa0 [(2, .go (owns 0 0 1))] [4] [(5, .int .i64 200)] (ds_ (bk (owns 0 0 1) (.tuple #[.agg #[.slice none 0 0], .int .i64 200]) (mo0 6 [(7, .go (owns 0 0 1))] [4, 5, 7] (fun γ10 => [(8, .pointer (some ⟨γ10 0, 0, none⟩)), (9, .int .i64 200)]) (fun γ10 L => bx (γ10 0) (#[.slice none 0 0]) 24 :: L) (fun γ10 => on_ (ds_ (sq_ ?_)))))))))))))))
  refine at_any (by kernel_rfl) ?_
  refine tk (m := 5) [2] [] [4, 5, 7, 8] [(18, .int .i64 200)] ([]) #[false, false, true, false, false, false] al0 ?_
  refine any_cutX (V := Unit) (fun _ => True) 0 #[true, true, true, true, true, true] (fun _ => [(4, .pointer (some ⟨γ1 2, 0, none⟩)), (5, .pointer (some ⟨γ1 3, 0, none⟩)), (6, .int .i64 200)]) (fun _ => [bx (γ10 0) (#[.slice none 0 0]) 24, bx (γ4 1) (#[.slice none 0 0]) 24, bx (γ4 0) (#[.slice p n cap]) 24, bx (γ2 0) (#[.int .i64 0, .int .i64 0, .int .u64 0, .int .u64 0, .int .u64 0]) 35, bx (γ1 3) (#[.int .i64 0, .int .i64 0, .int .u64 0, .int .u64 0, .int .u64 0]) 35, bx (γ1 2) (#[.slice none 0 0]) 24, bx (γ1 1) (#[.int .i64 k]) 3, bx (γ1 0) (#[.slice p n cap]) 24]) ?_ (fun hmx6 => ?_)
  rotate_left
  ·
   refine any_cutX (V := Unit) (fun _ => True) 2 #[true, true, true, true, false, false] (fun _ => [(4, .pointer (some ⟨γ1 2, 0, none⟩)), (5, .pointer (some ⟨γ1 3, 0, none⟩)), (17, .agg #[.int .i64 0, .int .i64 0, .int .u64 0, .int .u64 0, .int .u64 0]), (18, .int .i64 200)]) (fun _ => [bx (γ10 0) (#[.slice none 0 0]) 24, bx (γ4 1) (#[.slice none 0 0]) 24, bx (γ4 0) (#[.slice p n cap]) 24, bx (γ2 0) (#[.int .i64 0, .int .i64 0, .int .u64 0, .int .u64 0, .int .u64 0]) 35, bx (γ1 3) (#[.int .i64 0, .int .i64 0, .int .u64 0, .int .u64 0, .int .u64 0]) 35, bx (γ1 2) (#[.slice none 0 0]) 24, bx (γ1 1) (#[.int .i64 k]) 3, bx (γ1 0) (#[.slice p n cap]) 24]) ?_ (fun hmx5 => ?_)
   ·
    rintro _ _
    refine a1 4 rfl ?_
    refine qo0 1 [(4, .go (owns 4 0 5))] [4, 5, 18] [] ?_
    refine od_ ?_
    refine tk (m := 0) [5] [] [4, 5] [(6, .int .i64 200)] ([]) #[true, true, true, true, true, true] al0 ?_
    exact wk (hmx6 () trivial) [4, 5, 6] [[_], [_], [_], [_], [_], [_], [_], [_]] [0, 1, 2, 3, 4, 5, 6, 7] rfl rfl
   refine any_cutX (V := Unit) (fun _ => True) 3 #[true, false, true, true, false, false] (fun _ => [(4, .pointer (some ⟨γ1 2, 0, none⟩)), (5, .pointer (some ⟨γ1 3, 0, none⟩)), (7, .pointer (some ⟨γ2 0, 0, none⟩)), (18, .int .i64 200)]) (fun _ => [bx (γ10 0) (#[.slice none 0 0]) 24, bx (γ4 1) (#[.slice none 0 0]) 24, bx (γ4 0) (#[.slice p n cap]) 24, bx (γ2 0) (#[.int .i64 0, .int .i64 0, .int .u64 0, .int .u64 0, .int .u64 0]) 35, bx (γ1 3) (#[.int .i64 0, .int .i64 0, .int .u64 0, .int .u64 0, .int .u64 0]) 35, bx (γ1 2) (#[.slice none 0 0]) 24, bx (γ1 1) (#[.int .i64 k]) 3, bx (γ1 0) (#[.slice p n cap]) 24]) ?_ (fun hmx4 => ?_)
   ·
    rintro _ _
    refine a1 1 rfl ?_
    refine qo0 1 [(1, .go (owns 3 0 5))] [4, 5, 18] [(17, .agg #[.int .i64 0, .int .i64 0, .int .u64 0, .int .u64 0, .int .u64 0])] ?_
    refine od_ ?_
    exact wk (hmx5 () trivial) [4, 5, 17, 18] [[_], [_], [_], [_], [_], [_], [_], [_]] [0, 1, 2, 3, 4, 5, 6, 7] rfl rfl
   refine any_cutX (V := Unit) (fun _ => True) 3 #[true, true, true, false, false, false] (fun _ => [(4, .pointer (some ⟨γ1 2, 0, none⟩)), (5, .pointer (some ⟨γ1 3, 0, none⟩)), (16, .agg #[.slice none 0 0]), (17, .agg #[.int .i64 0, .int .i64 0, .int .u64 0, .int .u64 0, .int .u64 0]), (18, .int .i64 200)]) (fun _ => [bx (γ10 0) (#[.slice none 0 0]) 24, bx (γ4 1) (#[.slice none 0 0]) 24, bx (γ4 0) (#[.slice p n cap]) 24, bx (γ2 0) (#[.int .i64 0, .int .i64 0, .int .u64 0, .int .u64 0, .int .u64 0]) 35, bx (γ1 3) (#[.int .i64 0, .int .i64 0, .int .u64 0, .int .u64 0, .int .u64 0]) 35, bx (γ1 2) (#[.slice none 0 0]) 24, bx (γ1 1) (#[.int .i64 k]) 3, bx (γ1 0) (#[.slice p n cap]) 24]) ?_ (fun hmx3 => ?_)
   ·
    rintro _ _
    refine a1 3 rfl ?_
    refine qo0 1 [(3, .go (owns 5 0 1))] [4, 5, 17, 18] [] ?_
    refine od_ ?_
    exact wk (hmx5 () trivial) [4, 5, 17, 18] [[_], [_], [_], [_], [_], [_], [_], [_]] [0, 1, 2, 3, 4, 5, 6, 7] rfl rfl
   refine any_cutX (V := Unit) (fun _ => True) 4 #[false, true, true, false, false, false] (fun _ => [(4, .pointer (some ⟨γ1 2, 0, none⟩)), (5, .pointer (some ⟨γ1 3, 0, none⟩)), (8, .pointer (some ⟨γ10 0, 0, none⟩)), (17, .agg #[.int .i64 0, .int .i64 0, .int .u64 0, .int .u64 0, .int .u64 0]), (18, .int .i64 200)]) (fun _ => [bx (γ10 0) (#[.slice none 0 0]) 24, bx (γ4 1) (#[.slice none 0 0]) 24, bx (γ4 0) (#[.slice p n cap]) 24, bx (γ2 0) (#[.int .i64 0, .int .i64 0, .int .u64 0, .int .u64 0, .int .u64 0]) 35, bx (γ1 3) (#[.int .i64 0, .int .i64 0, .int .u64 0, .int .u64 0, .int .u64 0]) 35, bx (γ1 2) (#[.slice none 0 0]) 24, bx (γ1 1) (#[.int .i64 k]) 3, bx (γ1 0) (#[.slice p n cap]) 24]) ?_ (fun hmx2 => ?_)
   ·
    rintro _ _
    refine a1 0 rfl ?_
    refine qo0 1 [(0, .go (owns 0 0 1))] [4, 5, 17, 18] [(16, .agg #[.slice none 0 0])] ?_
    refine od_ ?_
    exact wk (hmx3 () trivial) [4, 5, 16, 17, 18] [[_], [_], [_], [_], [_], [_], [_], [_]] [0, 1, 2, 3, 4, 5, 6, 7] rfl rfl
   refine any_cutX (V := Unit) (fun _ => True) 4 #[true, false, true, false, false, false] (fun _ => [(4, .pointer (some ⟨γ1 2, 0, none⟩)), (5, .pointer (some ⟨γ1 3, 0, none⟩)), (7, .pointer (some ⟨γ2 0, 0, none⟩)), (16, .agg #[.slice none 0 0]), (18, .int .i64 200)]) (fun _ => [bx (γ10 0) (#[.slice none 0 0]) 24, bx (γ4 1) (#[.slice none 0 0]) 24, bx (γ4 0) (#[.slice p n cap]) 24, bx (γ2 0) (#[.int .i64 0, .int .i64 0, .int .u64 0, .int .u64 0, .int .u64 0]) 35, bx (γ1 3) (#[.int .i64 0, .int .i64 0, .int .u64 0, .int .u64 0, .int .u64 0]) 35, bx (γ1 2) (#[.slice none 0 0]) 24, bx (γ1 1) (#[.int .i64 k]) 3, bx (γ1 0) (#[.slice p n cap]) 24]) ?_ (fun hmx1 => ?_)
   ·
    rintro _ _
    refine any_fork [1, 3] (by kernel_rfl) (by simp) (each_cons _ rfl ?_ (each_cons _ rfl ?_ (each_nil)))
    ·
     refine qo0 1 [(1, .go (owns 3 0 5))] [4, 5, 16, 18] [(17, .agg #[.int .i64 0, .int .i64 0, .int .u64 0, .int .u64 0, .int .u64 0])] ?_
     refine od_ ?_
     exact wk (hmx3 () trivial) [4, 5, 16, 17, 18] [[_], [_], [_], [_], [_], [_], [_], [_]] [0, 1, 2, 3, 4, 5, 6, 7] rfl rfl
    ·
     refine qo0 1 [(3, .go (owns 5 0 1))] [4, 5, 7, 18] [] ?_
     refine od_ ?_
     exact wk (hmx4 () trivial) [4, 5, 7, 18] [[_], [_], [_], [_], [_], [_], [_], [_]] [0, 1, 2, 3, 4, 5, 6, 7] rfl rfl
   refine any_fork [0, 1] (by kernel_rfl) (by simp) (each_cons _ rfl ?_ (each_cons _ rfl ?_ (each_nil)))
   ·
    refine qo0 1 [(0, .go (owns 0 0 1))] [4, 5, 7, 18] [(16, .agg #[.slice none 0 0])] ?_
    refine od_ ?_
    exact wk (hmx1 () trivial) [4, 5, 7, 16, 18] [[_], [_], [_], [_], [_], [_], [_], [_]] [0, 1, 2, 3, 4, 5, 6, 7] rfl rfl
   ·
    refine qo0 1 [(1, .go (owns 3 0 5))] [4, 5, 8, 18] [(17, .agg #[.int .i64 0, .int .i64 0, .int .u64 0, .int .u64 0, .int .u64 0])] ?_
    refine od_ ?_
    exact wk (hmx2 () trivial) [4, 5, 8, 17, 18] [[_], [_], [_], [_], [_], [_], [_], [_]] [0, 1, 2, 3, 4, 5, 6, 7] rfl rfl
  rintro _ _
  refine any_nil (by kernel_rfl) ?_
  refine ds_ (rt (owns 5 0 1 ++ owns 4 0 5) (.tuple #[.agg #[.slice none 0 0], .agg #[.int .i64 0, .int .i64 0, .int .u64 0, .int .u64 0, .int .u64 0], .int .i64 200]) ?_)
  exact fun w' hw => by rw [leave_bad q6]; exact ⟨none, 0, 0, [], rfl, SlO.nil, hw.below, hw.sub (List.nil_sublist _)⟩
 ·
  refine cD (.int .i64 0) Try.call20 (fun w hw => by have := qcheck_t p n cap ts w (hts.kept hw.below) hn (by omega); rw [q6] at this; exact this) (qo0 1 [] [1, 2, 4] [(6, .int .i64 0)] (on_ (ds_ (sq_ (qa0 [] [1, 2, 4, 6] [(12, .bool false)] (ds_ (f_ (at_skip (ds_ (sq_ ?_))))))))))
  have hgq := chk_iff.1 q6
  have hlq := hgq.len
  refine ao_ (qo0 2 [(1, .go (owns 1 0 1))] [1, 4] [(16, .slice p n cap)] (cP (fun v L' => ∃ q_ c_ Y_, v = .slice q_ n c_ ∧ L' = List.take 7 ([bx (γ4 1) (#[.slice none 0 0]) 24, bx (γ4 0) (#[.slice p n cap]) 24, bx (γ2 0) (#[.int .i64 0, .int .i64 0, .int .u64 0, .int .u64 0, .int .u64 0]) 35, bx (γ1 3) (#[.int .i64 0, .int .i64 0, .int .u64 0, .int .u64 0, .int .u64 0]) 35, bx (γ1 2) (#[.slice none 0 0]) 24, bx (γ1 1) (#[.int .i64 k]) 3, bx (γ1 0) (#[.slice p n cap]) 24]) ++ (Y_ ++ List.drop 7 ([bx (γ4 1) (#[.slice none 0 0]) 24, bx (γ4 0) (#[.slice p n cap]) 24, bx (γ2 0) (#[.int .i64 0, .int .i64 0, .int .u64 0, .int .u64 0, .int .u64 0]) 35, bx (γ1 3) (#[.int .i64 0, .int .i64 0, .int .u64 0, .int .u64 0, .int .u64 0]) 35, bx (γ1 2) (#[.slice none 0 0]) 24, bx (γ1 1) (#[.int .i64 k]) 3, bx (γ1 0) (#[.slice p n cap]) 24])) ∧ SlO 35 Y_ q_ n c_ ts) Try.call78 (fun w hw => (qclone_t p n cap ts w (hts.kept hw.below) hn (by omega)).mono fun e w' ⟨q_, c_, Y_, he, hO, hb, hY⟩ => ⟨_, _, he, ⟨q_, c_, Y_, rfl, rfl, hO⟩, hw.join hb hY 7⟩) ?_))
  rintro v178 L178 ⟨q178, cq178, Y178, rfl, rfl, hO178⟩
  refine mo0 3 [(5, .go (owns 0 0 1))] [1, 4] (fun γ179 => [(7, .pointer (some ⟨γ179 0, 0, none⟩))]) (fun γ179 L => bx (γ179 0) (#[.slice q178 n cq178]) 24 :: L) (fun γ179 => on_ (ds_ (sq_ (sq_ (ao_ (qo0 1 [] [4, 7] [(19, .func (.func 57) #[] #[.pointer (some ⟨γ1 1, 0, none⟩), .pointer (some ⟨γ2 0, 0, none⟩)])] (ops_inline (g := 57) (args := #[.pointer (some ⟨γ179 0, 0, none⟩), .pointer (some ⟨γ1 1, 0, none⟩), .pointer (some ⟨γ2 0, 0, none⟩)]) (by kernel_rfl) (by kernel_rfl) (by kernel_rfl) (fun args w => Try.call57 args w) Try.func57 rfl Try.ntmps57 rfl (sq_ (qa0 [] [0, 1, 2] [] (ds_ (sq_ (sq_ (ao_ (qo0 1 [(0, .go (owns 6 0 1))] [0, 1, 2] [(7, .int .i64 k)] ?_))))))))))))))
  rcases q183 : idV k with _ | _
  ·
   refine cD (.bool false) Try.call52 (fun w hw => by have := id_t k w; rw [q183] at this; exact this) (qo0 1 [] [0, 1, 2] [(9, .bool true)] (on_ (ds_ (t_ (sq_ (qa0 [] [] [(4, .int .i64 2)] (ds_ (bk ([]) (.int .i64 2) (qo0 1 [] [4, 7] [(8, .int .i64 2)] (on_ (ds_ (sq_ (qa0 [] [4, 7, 8] [(22, .bool true)] (ds_ (t_ (sq_ (qa0 [(2, .go (owns 1 0 1))] [4] [(5, .int .i64 2)] (ds_ (bk (owns 1 0 1) (.tuple #[.agg #[.slice none 0 0], .int .i64 2]) (mo0 6 [(7, .go (owns 0 0 1))] [4, 5, 7] (fun γ189 => [(8, .pointer (some ⟨γ189 0, 0, none⟩)), (9, .int .i64 2)]) (fun γ189 L => bx (γ189 0) (#[.slice none 0 0]) 24 :: L) (fun γ189 => on_ (ds_ (sq_ ?_)))))))))))))))))))))))
   refine at_any (by kernel_rfl) ?_
   refine tk (m := 5) [2] [] [4, 5, 7, 8] [(18, .int .i64 2)] ([]) #[false, false, true, false, false, false] al0 ?_
   refine any_cutX (V := Unit) (fun _ => True) 0 #[true, true, true, true, true, true] (fun _ => [(4, .pointer (some ⟨γ1 2, 0, none⟩)), (5, .pointer (some ⟨γ1 3, 0, none⟩)), (6, .int .i64 2)]) (fun _ => bx (γ189 0) (#[.slice none 0 0]) 24 :: bx (γ179 0) (#[.slice q178 n cq178]) 24 :: bx (γ4 1) (#[.slice none 0 0]) 24 :: bx (γ4 0) (#[.slice p n cap]) 24 :: bx (γ2 0) (#[.int .i64 0, .int .i64 0, .int .u64 0, .int .u64 0, .int .u64 0]) 35 :: bx (γ1 3) (#[.int .i64 0, .int .i64 0, .int .u64 0, .int .u64 0, .int .u64 0]) 35 :: bx (γ1 2) (#[.slice none 0 0]) 24 :: bx (γ1 1) (#[.int .i64 k]) 3 :: bx (γ1 0) (#[.slice p n cap]) 24 :: (Y178 ++ [])) ?_ (fun hmx6 => ?_)
   rotate_left
   ·
    refine any_cutX (V := Unit) (fun _ => True) 2 #[true, true, true, true, false, false] (fun _ => [(4, .pointer (some ⟨γ1 2, 0, none⟩)), (5, .pointer (some ⟨γ1 3, 0, none⟩)), (17, .agg #[.int .i64 0, .int .i64 0, .int .u64 0, .int .u64 0, .int .u64 0]), (18, .int .i64 2)]) (fun _ => bx (γ189 0) (#[.slice none 0 0]) 24 :: bx (γ179 0) (#[.slice q178 n cq178]) 24 :: bx (γ4 1) (#[.slice none 0 0]) 24 :: bx (γ4 0) (#[.slice p n cap]) 24 :: bx (γ2 0) (#[.int .i64 0, .int .i64 0, .int .u64 0, .int .u64 0, .int .u64 0]) 35 :: bx (γ1 3) (#[.int .i64 0, .int .i64 0, .int .u64 0, .int .u64 0, .int .u64 0]) 35 :: bx (γ1 2) (#[.slice none 0 0]) 24 :: bx (γ1 1) (#[.int .i64 k]) 3 :: bx (γ1 0) (#[.slice p n cap]) 24 :: (Y178 ++ [])) ?_ (fun hmx5 => ?_)
    ·
     rintro _ _
     refine a1 4 rfl ?_
     refine qo0 1 [(4, .go (owns 5 0 5))] [4, 5, 18] [] ?_
     refine od_ ?_
     refine tk (m := 0) [5] [] [4, 5] [(6, .int .i64 2)] ([]) #[true, true, true, true, true, true] al0 ?_
     exact wk (hmx6 () trivial) [4, 5, 6] [[_], [_], [_], [_], [_], [_], [_], [_], [_], _] [0, 1, 2, 3, 4, 5, 6, 7, 8, 9] rfl rfl
    refine any_cutX (V := Unit) (fun _ => True) 3 #[true, false, true, true, false, false] (fun _ => [(4, .pointer (some ⟨γ1 2, 0, none⟩)), (5, .pointer (some ⟨γ1 3, 0, none⟩)), (7, .pointer (some ⟨γ2 0, 0, none⟩)), (18, .int .i64 2)]) (fun _ => bx (γ189 0) (#[.slice none 0 0]) 24 :: bx (γ179 0) (#[.slice q178 n cq178]) 24 :: bx (γ4 1) (#[.slice none 0 0]) 24 :: bx (γ4 0) (#[.slice p n cap]) 24 :: bx (γ2 0) (#[.int .i64 0, .int .i64 0, .int .u64 0, .int .u64 0, .int .u64 0]) 35 :: bx (γ1 3) (#[.int .i64 0, .int .i64 0, .int .u64 0, .int .u64 0, .int .u64 0]) 35 :: bx (γ1 2) (#[.slice none 0 0]) 24 :: bx (γ1 1) (#[.int .i64 k]) 3 :: bx (γ1 0) (#[.slice p n cap]) 24 :: (Y178 ++ [])) ?_ (fun hmx4 => ?_)
    ·
     rintro _ _
     refine a1 1 rfl ?_
     refine qo0 1 [(1, .go (owns 4 0 5))] [4, 5, 18] [(17, .agg #[.int .i64 0, .int .i64 0, .int .u64 0, .int .u64 0, .int .u64 0])] ?_
     refine od_ ?_
     exact wk (hmx5 () trivial) [4, 5, 17, 18] [[_], [_], [_], [_], [_], [_], [_], [_], [_], _] [0, 1, 2, 3, 4, 5, 6, 7, 8, 9] rfl rfl
    refine any_cutX (V := Unit) (fun _ => True) 3 #[true, true, true, false, false, false] (fun _ => [(4, .pointer (some ⟨γ1 2, 0, none⟩)), (5, .pointer (some ⟨γ1 3, 0, none⟩)), (16, .agg #[.slice none 0 0]), (17, .agg #[.int .i64 0, .int .i64 0, .int .u64 0, .int .u64 0, .int .u64 0]), (18, .int .i64 2)]) (fun _ => bx (γ189 0) (#[.slice none 0 0]) 24 :: bx (γ179 0) (#[.slice q178 n cq178]) 24 :: bx (γ4 1) (#[.slice none 0 0]) 24 :: bx (γ4 0) (#[.slice p n cap]) 24 :: bx (γ2 0) (#[.int .i64 0, .int .i64 0, .int .u64 0, .int .u64 0, .int .u64 0]) 35 :: bx (γ1 3) (#[.int .i64 0, .int .i64 0, .int .u64 0, .int .u64 0, .int .u64 0]) 35 :: bx (γ1 2) (#[.slice none 0 0]) 24 :: bx (γ1 1) (#[.int .i64 k]) 3 :: bx (γ1 0) (#[.slice p n cap]) 24 :: (Y178 ++ [])) ?_ (fun hmx3 => ?_)
    ·
     rintro _ _
     refine a1 3 rfl ?_
     refine qo0 1 [(3, .go (owns 6 0 1))] [4, 5, 17, 18] [] ?_
     refine od_ ?_
     exact wk (hmx5 () trivial) [4, 5, 17, 18] [[_], [_], [_], [_], [_], [_], [_], [_], [_], _] [0, 1, 2, 3, 4, 5, 6, 7, 8, 9] rfl rfl
    refine any_cutX (V := Unit) (fun _ => True) 4 #[false, true, true, false, false, false] (fun _ => [(4, .pointer (some ⟨γ1 2, 0, none⟩)), (5, .pointer (some ⟨γ1 3, 0, none⟩)), (8, .pointer (some ⟨γ189 0, 0, none⟩)), (17, .agg #[.int .i64 0, .int .i64 0, .int .u64 0, .int .u64 0, .int .u64 0]), (18, .int .i64 2)]) (fun _ => bx (γ189 0) (#[.slice none 0 0]) 24 :: bx (γ179 0) (#[.slice q178 n cq178]) 24 :: bx (γ4 1) (#[.slice none 0 0]) 24 :: bx (γ4 0) (#[.slice p n cap]) 24 :: bx (γ2 0) (#[.int .i64 0, .int .i64 0, .int .u64 0, .int .u64 0, .int .u64 0]) 35 :: bx (γ1 3) (#[.int .i64 0, .int .i64 0, .int .u64 0, .int .u64 0, .int .u64 0]) 35 :: bx (γ1 2) (#[.slice none 0 0]) 24 :: bx (γ1 1) (#[.int .i64 k]) 3 :: bx (γ1 0) (#[.slice p n cap]) 24 :: (Y178 ++ [])) ?_ (fun hmx2 => ?_)
    ·
     rintro _ _
     refine a1 0 rfl ?_
     refine qo0 1 [(0, .go (owns 0 0 1))] [4, 5, 17, 18] [(16, .agg #[.slice none 0 0])] ?_
     refine od_ ?_
     exact wk (hmx3 () trivial) [4, 5, 16, 17, 18] [[_], [_], [_], [_], [_], [_], [_], [_], [_], _] [0, 1, 2, 3, 4, 5, 6, 7, 8, 9] rfl rfl
    refine any_cutX (V := Unit) (fun _ => True) 4 #[true, false, true, false, false, false] (fun _ => [(4, .pointer (some ⟨γ1 2, 0, none⟩)), (5, .pointer (some ⟨γ1 3, 0, none⟩)), (7, .pointer (some ⟨γ2 0, 0, none⟩)), (16, .agg #[.slice none 0 0]), (18, .int .i64 2)]) (fun _ => bx (γ189 0) (#[.slice none 0 0]) 24 :: bx (γ179 0) (#[.slice q178 n cq178]) 24 :: bx (γ4 1) (#[.slice none 0 0]) 24 :: bx (γ4 0) (#[.slice p n cap]) 24 :: bx (γ2 0) (#[.int .i64 0, .int .i64 0, .int .u64 0, .int .u64 0, .int .u64 0]) 35 :: bx (γ1 3) (#[.int .i64 0, .int .i64 0, .int .u64 0, .int .u64 0, .int .u64 0]) 35 :: bx (γ1 2) (#[.slice none 0 0]) 24 :: bx (γ1 1) (#[.int .i64 k]) 3 :: bx (γ1 0) (#[.slice p n cap]) 24 :: (Y178 ++ [])) ?_ (fun hmx1 => ?_)
    ·
     rintro _ _
     refine any_fork [1, 3] (by kernel_rfl) (by simp) (each_cons _ rfl ?_ (each_cons _ rfl ?_ (each_nil)))
     ·
      refine qo0 1 [(1, .go (owns 4 0 5))] [4, 5, 16, 18] [(17, .agg #[.int .i64 0, .int .i64 0, .int .u64 0, .int .u64 0, .int .u64 0])] ?_
      refine od_ ?_
      exact wk (hmx3 () trivial) [4, 5, 16, 17, 18] [[_], [_], [_], [_], [_], [_], [_], [_], [_], _] [0, 1, 2, 3, 4, 5, 6, 7, 8, 9] rfl rfl
     ·
      refine qo0 1 [(3, .go (owns 6 0 1))] [4, 5, 7, 18] [] ?_
      refine od_ ?_
      exact wk (hmx4 () trivial) [4, 5, 7, 18] [[_], [_], [_], [_], [_], [_], [_], [_], [_], _] [0, 1, 2, 3, 4, 5, 6, 7, 8, 9] rfl rfl
    refine any_fork [0, 1] (by kernel_rfl) (by simp) (each_cons _ rfl ?_ (each_cons _ rfl ?_ (each_nil)))
    ·
     refine qo0 1 [(0, .go (owns 0 0 1))] [4, 5, 7, 18] [(16, .agg #[.slice none 0 0])] ?_
     refine od_ ?_
     exact wk (hmx1 () trivial) [4, 5, 7, 16, 18] [[_], [_], [_], [_], [_], [_], [_], [_], [_], _] [0, 1, 2, 3, 4, 5, 6, 7, 8, 9] rfl rfl
    ·
     refine qo0 1 [(1, .go (owns 4 0 5))] [4, 5, 8, 18] [(17, .agg #[.int .i64 0, .int .i64 0, .int .u64 0, .int .u64 0, .int .u64 0])] ?_
     refine od_ ?_
     exact wk (hmx2 () trivial) [4, 5, 8, 17, 18] [[_], [_], [_], [_], [_], [_], [_], [_], [_], _] [0, 1, 2, 3, 4, 5, 6, 7, 8, 9] rfl rfl
   rintro _ _
   refine any_nil (by kernel_rfl) ?_
   refine ds_ (rt (owns 6 0 1 ++ owns 5 0 5) (.tuple #[.agg #[.slice none 0 0], .agg #[.int .i64 0, .int .i64 0, .int .u64 0, .int .u64 0, .int .u64 0], .int .i64 2]) ?_)
   exact fun w' hw => by rw [leave_arg q6 q183]; exact ⟨none, 0, 0, [], rfl, SlO.nil, hw.below, hw.sub (List.nil_sublist _)⟩
  ·
   refine cD (.bool true) Try.call52 (fun w hw => by have := id_t k w; rw [q183] at this; exact this) (qo0 1 [] [0, 1, 2] [(9, .bool false)] (on_ (ds_ (f_ (at_skip (ds_ (sq_ ?_)))))))
   refine at_calm rfl (by kernel_rfl) (by kernel_rfl) ?_
   refine cm 5 [(3, .go (owns 0 0 1)), (4, .go (owns 6 0 1))] [0, 2] [(14, .slice q178 n cq178), (15, .int .i64 k)] ([]) (by kernel_rfl) rfl al0 ?_
   rcases hg356 : getK Rn.id ts k with _ | y356
   ·
    have hpl356 := (pos_cut (k := k) hgq.rs).2.2
    refine cK (.tuple #[.int .i64 (posK Rn.id ts k : Nat), .bool false]) Try.call34 (fun w hw => by have := at_t q178 n cq178 ts k w (hO178.atN (A := [_, _, _, _, _, _, _, _]) hw) hO178.len (by omega) hgq q183; rw [hasK_none hg356] at this; exact this) ?_
    refine cm 5 [] [0, 2] [(5, .int .i64 (posK Rn.id ts k : Nat)), (6, .bool false)] ([]) (by kernel_rfl) rfl al0 ?_
    refine calm_nil' ?_
    refine ds_ (sq_ (sq_ (qa0 [] [0, 2, 5] [(20, .bool true)] (ds_ (t_ (sq_ (qa0 [] [] [(4, .int .i64 4)] (ds_ (bk ([]) (.int .i64 4) (qo0 1 [] [4, 7] [(8, .int .i64 4)] (on_ (ds_ (sq_ (qa0 [] [4, 7, 8] [(22, .bool true)] (ds_ (t_ (sq_ (qa0 [(2, .go (owns 1 0 1))] [4] [(5, .int .i64 4)] (ds_ (bk (owns 1 0 1) (.tuple #[.agg #[.slice none 0 0], .int .i64 4]) (mo0 6 [(7, .go (owns 0 0 1))] [4, 5, 7] (fun γ363 => [(8, .pointer (some ⟨γ363 0, 0, none⟩)), (9, .int .i64 4)]) (fun γ363 L => bx (γ363 0) (#[.slice none 0 0]) 24 :: L) (fun γ363 => on_ (ds_ (sq_ ?_))))))))))))))))))))))))
    refine at_any (by kernel_rfl) ?_
    refine tk (m := 5) [2] [] [4, 5, 7, 8] [(18, .int .i64 4)] ([]) #[false, false, true, false, false, false] al0 ?_
    refine any_cutX (V := Unit) (fun _ => True) 0 #[true, true, true, true, true, true] (fun _ => [(4, .pointer (some ⟨γ1 2, 0, none⟩)), (5, .pointer (some ⟨γ1 3, 0, none⟩)), (6, .int .i64 4)]) (fun _ => bx (γ363 0) (#[.slice none 0 0]) 24 :: bx (γ179 0) (#[.slice q178 n cq178]) 24 :: bx (γ4 1) (#[.slice none 0 0]) 24 :: bx (γ4 0) (#[.slice p n cap]) 24 :: bx (γ2 0) (#[.int .i64 0, .int .i64 0, .int .u64 0, .int .u64 0, .int .u64 0]) 35 :: bx (γ1 3) (#[.int .i64 0, .int .i64 0, .int .u64 0, .int .u64 0, .int .u64 0]) 35 :: bx (γ1 2) (#[.slice none 0 0]) 24 :: bx (γ1 1) (#[.int .i64 k]) 3 :: bx (γ1 0) (#[.slice p n cap]) 24 :: (Y178 ++ [])) ?_ (fun hmx6 => ?_)
    rotate_left
    ·
     refine any_cutX (V := Unit) (fun _ => True) 2 #[true, true, true, true, false, false] (fun _ => [(4, .pointer (some ⟨γ1 2, 0, none⟩)), (5, .pointer (some ⟨γ1 3, 0, none⟩)), (17, .agg #[.int .i64 0, .int .i64 0, .int .u64 0, .int .u64 0, .int .u64 0]), (18, .int .i64 4)]) (fun _ => bx (γ363 0) (#[.slice none 0 0]) 24 :: bx (γ179 0) (#[.slice q178 n cq178]) 24 :: bx (γ4 1) (#[.slice none 0 0]) 24 :: bx (γ4 0) (#[.slice p n cap]) 24 :: bx (γ2 0) (#[.int .i64 0, .int .i64 0, .int .u64 0, .int .u64 0, .int .u64 0]) 35 :: bx (γ1 3) (#[.int .i64 0, .int .i64 0, .int .u64 0, .int .u64 0, .int .u64 0]) 35 :: bx (γ1 2) (#[.slice none 0 0]) 24 :: bx (γ1 1) (#[.int .i64 k]) 3 :: bx (γ1 0) (#[.slice p n cap]) 24 :: (Y178 ++ [])) ?_ (fun hmx5 => ?_)
     ·
      rintro _ _
      refine a1 4 rfl ?_
      refine qo0 1 [(4, .go (owns 5 0 5))] [4, 5, 18] [] ?_
      refine od_ ?_
      refine tk (m := 0) [5] [] [4, 5] [(6, .int .i64 4)] ([]) #[true, true, true, true, true, true] al0 ?_
      exact wk (hmx6 () trivial) [4, 5, 6] [[_], [_], [_], [_], [_], [_], [_], [_], [_], _] [0, 1, 2, 3, 4, 5, 6, 7, 8, 9] rfl rfl
     refine any_cutX (V := Unit) (fun _ => True) 3 #[true, false, true, true, false, false] (fun _ => [(4, .pointer (some ⟨γ1 2, 0, none⟩)), (5, .pointer (some ⟨γ1 3, 0, none⟩)), (7, .pointer (some ⟨γ2 0, 0, none⟩)), (18, .int .i64 4)]) (fun _ => bx (γ363 0) (#[.slice none 0 0]) 24 :: bx (γ179 0) (#[.slice q178 n cq178]) 24 :: bx (γ4 1) (#[.slice none 0 0]) 24 :: bx (γ4 0) (#[.slice p n cap]) 24 :: bx (γ2 0) (#[.int .i64 0, .int .i64 0, .int .u64 0, .int .u64 0, .int .u64 0]) 35 :: bx (γ1 3) (#[.int .i64 0, .int .i64 0, .int .u64 0, .int .u64 0, .int .u64 0]) 35 :: bx (γ1 2) (#[.slice none 0 0]) 24 :: bx (γ1 1) (#[.int .i64 k]) 3 :: bx (γ1 0) (#[.slice p n cap]) 24 :: (Y178 ++ [])) ?_ (fun hmx4 => ?_)
     ·
      rintro _ _
      refine a1 1 rfl ?_
      refine qo0 1 [(1, .go (owns 4 0 5))] [4, 5, 18] [(17, .agg #[.int .i64 0, .int .i64 0, .int .u64 0, .int .u64 0, .int .u64 0])] ?_
      refine od_ ?_
      exact wk (hmx5 () trivial) [4, 5, 17, 18] [[_], [_], [_], [_], [_], [_], [_], [_], [_], _] [0, 1, 2, 3, 4, 5, 6, 7, 8, 9] rfl rfl
     refine any_cutX (V := Unit) (fun _ => True) 3 #[true, true, true, false, false, false] (fun _ => [(4, .pointer (some ⟨γ1 2, 0, none⟩)), (5, .pointer (some ⟨γ1 3, 0, none⟩)), (16, .agg #[.slice none 0 0]), (17, .agg #[.int .i64 0, .int .i64 0, .int .u64 0, .int .u64 0, .int .u64 0]), (18, .int .i64 4)]) (fun _ => bx (γ363 0) (#[.slice none 0 0]) 24 :: bx (γ179 0) (#[.slice q178 n cq178]) 24 :: bx (γ4 1) (#[.slice none 0 0]) 24 :: bx (γ4 0) (#[.slice p n cap]) 24 :: bx (γ2 0) (#[.int .i64 0, .int .i64 0, .int .u64 0, .int .u64 0, .int .u64 0]) 35 :: bx (γ1 3) (#[.int .i64 0, .int .i64 0, .int .u64 0, .int .u64 0, .int .u64 0]) 35 :: bx (γ1 2) (#[.slice none 0 0]) 24 :: bx (γ1 1) (#[.int .i64 k]) 3 :: bx (γ1 0) (#[.slice p n cap]) 24 :: (Y178 ++ [])) ?_ (fun hmx3 => ?_)
     ·
      rintro _ _
      refine a1 3 rfl ?_
      refine qo0 1 [(3, .go (owns 6 0 1))] [4, 5, 17, 18] [] ?_
      refine od_ ?_
      exact wk (hmx5 () trivial) [4, 5, 17, 18] [[_], [_], [_], [_], [_], [_], [_], [_], [_], _] [0, 1, 2, 3, 4, 5, 6, 7, 8, 9] rfl rfl
     refine any_cutX (V := Unit) (fun _ => True) 4 #[false, true, true, false, false, false] (fun _ => [(4, .pointer (some ⟨γ1 2, 0, none⟩)), (5, .pointer (some ⟨γ1 3, 0, none⟩)), (8, .pointer (some ⟨γ363 0, 0, none⟩)), (17, .agg #[.int .i64 0, .int .i64 0, .int .u64 0, .int .u64 0, .int .u64 0]), (18, .int .i64 4)]) (fun _ => bx (γ363 0) (#[.slice none 0 0]) 24 :: bx (γ179 0) (#[.slice q178 n cq178]) 24 :: bx (γ4 1) (#[.slice none 0 0]) 24 :: bx (γ4 0) (#[.slice p n cap]) 24 :: bx (γ2 0) (#[.int .i64 0, .int .i64 0, .int .u64 0, .int .u64 0, .int .u64 0]) 35 :: bx (γ1 3) (#[.int .i64 0, .int .i64 0, .int .u64 0, .int .u64 0, .int .u64 0]) 35 :: bx (γ1 2) (#[.slice none 0 0]) 24 :: bx (γ1 1) (#[.int .i64 k]) 3 :: bx (γ1 0) (#[.slice p n cap]) 24 :: (Y178 ++ [])) ?_ (fun hmx2 => ?_)
     ·
      rintro _ _
      refine a1 0 rfl ?_
      refine qo0 1 [(0, .go (owns 0 0 1))] [4, 5, 17, 18] [(16, .agg #[.slice none 0 0])] ?_
      refine od_ ?_
      exact wk (hmx3 () trivial) [4, 5, 16, 17, 18] [[_], [_], [_], [_], [_], [_], [_], [_], [_], _] [0, 1, 2, 3, 4, 5, 6, 7, 8, 9] rfl rfl
     refine any_cutX (V := Unit) (fun _ => True) 4 #[true, false, true, false, false, false] (fun _ => [(4, .pointer (some ⟨γ1 2, 0, none⟩)), (5, .pointer (some ⟨γ1 3, 0, none⟩)), (7, .pointer (some ⟨γ2 0, 0, none⟩)), (16, .agg #[.slice none 0 0]), (18, .int .i64 4)]) (fun _ => bx (γ363 0) (#[.slice none 0 0]) 24 :: bx (γ179 0) (#[.slice q178 n cq178]) 24 :: bx (γ4 1) (#[.slice none 0 0]) 24 :: bx (γ4 0) (#[.slice p n cap]) 24 :: bx (γ2 0) (#[.int .i64 0, .int .i64 0, .int .u64 0, .int .u64 0, .int .u64 0]) 35 :: bx (γ1 3) (#[.int .i64 0, .int .i64 0, .int .u64 0, .int .u64 0, .int .u64 0]) 35 :: bx (γ1 2) (#[.slice none 0 0]) 24 :: bx (γ1 1) (#[.int .i64 k]) 3 :: bx (γ1 0) (#[.slice p n cap]) 24 :: (Y178 ++ [])) ?_ (fun hmx1 => ?_)
     ·
      rintro _ _
      refine any_fork [1, 3] (by kernel_rfl) (by simp) (each_cons _ rfl ?_ (each_cons _ rfl ?_ (each_nil)))
      ·
       refine qo0 1 [(1, .go (owns 4 0 5))] [4, 5, 16, 18] [(17, .agg #[.int .i64 0, .int .i64 0, .int .u64 0, .int .u64 0, .int .u64 0])] ?_
       refine od_ ?_
       exact wk (hmx3 () trivial) [4, 5, 16, 17, 18] [[_], [_], [_], [_], [_], [_], [_], [_], [_], _] [0, 1, 2, 3, 4, 5, 6, 7, 8, 9] rfl rfl
      ·
       refine qo0 1 [(3, .go (owns 6 0 1))] [4, 5, 7, 18] [] ?_
       refine od_ ?_
       exact wk (hmx4 () trivial) [4, 5, 7, 18] [[_], [_], [_], [_], [_], [_], [_], [_], [_], _] [0, 1, 2, 3, 4, 5, 6, 7, 8, 9] rfl rfl
     refine any_fork [0, 1] (by kernel_rfl) (by simp) (each_cons _ rfl ?_ (each_cons _ rfl ?_ (each_nil)))
     ·
      refine qo0 1 [(0, .go (owns 0 0 1))] [4, 5, 7, 18] [(16, .agg #[.slice none 0 0])] ?_
      refine od_ ?_
      exact wk (hmx1 () trivial) [4, 5, 7, 16, 18] [[_], [_], [_], [_], [_], [_], [_], [_], [_], _] [0, 1, 2, 3, 4, 5, 6, 7, 8, 9] rfl rfl
     ·
      refine qo0 1 [(1, .go (owns 4 0 5))] [4, 5, 8, 18] [(17, .agg #[.int .i64 0, .int .i64 0, .int .u64 0, .int .u64 0, .int .u64 0])] ?_
      refine od_ ?_
      exact wk (hmx2 () trivial) [4, 5, 8, 17, 18] [[_], [_], [_], [_], [_], [_], [_], [_], [_], _] [0, 1, 2, 3, 4, 5, 6, 7, 8, 9] rfl rfl
    rintro _ _
    refine any_nil (by kernel_rfl) ?_
    refine ds_ (rt (owns 6 0 1 ++ owns 5 0 5) (.tuple #[.agg #[.slice none 0 0], .agg #[.int .i64 0, .int .i64 0, .int .u64 0, .int .u64 0, .int .u64 0], .int .i64 4]) ?_)
    exact fun w' hw => by rw [leave_none q6 q183 hg356]; exact ⟨none, 0, 0, [], rfl, SlO.nil, hw.below, hw.sub (List.nil_sublist _)⟩
   ·
    have hp_y356 := pos_getK hgq.rs hg356
    have hl_y356 := (List.getElem?_eq_some_iff.1 hp_y356).1
    refine cK (.tuple #[.int .i64 (posK Rn.id ts k : Nat), .bool true]) Try.call34 (fun w hw => by have := at_t q178 n cq178 ts k w (hO178.atN (A := [_, _, _, _, _, _, _, _]) hw) hO178.len (by omega) hgq q183; rw [hasK_some hg356] at this; exact this) ?_
    refine cm 5 [] [0, 2] [(5, .int .i64 (posK Rn.id ts k : Nat)), (6, .bool true)] ([]) (by kernel_rfl) rfl al0 ?_
    refine calm_nil' ?_
    refine ds_ (sq_ (sq_ (qa0 [] [0, 2, 5] [(20, .bool false)] (ds_ (f_ (at_skip (ds_ (sq_ ?_))))))))
    have hln531 := hO178.len
    obtain ⟨g531, cs531, rfl, rfl, hOw531⟩ := hO178.rowOf (i := posK Rn.id ts k) (by omega)
    refine ma [(3, .go (owns 0 0 1)), (5, .at g531 0 (posK Rn.id ts k)), (6, .go (ownps 8 (0 + (posK Rn.id ts k) * 5) [.int .i64 y356.id, .int .i64 y356.each, .int .u64 y356.th, .int .u64 y356.tl, .int .u64 y356.tw])), (7, .go (owns 3 0 5))] [0, 5] (fun _ => []) (fun _ L => (L.set 3 (bx (γ2 0) (#[.int .i64 y356.id, .int .i64 y356.each, .int .u64 y356.th, .int .u64 y356.tl, .int .u64 y356.tw]) 35))) (fun _ => [(some ⟨g531, 0, none⟩ : Option Addr) = some ⟨g531, 0, none⟩, (posK Rn.id ts k : Nat) = ((posK Rn.id ts k : Nat) : Int), posK Rn.id ts k < n] ++ (acellsP cs531 (0 + (posK Rn.id ts k) * 5) [.int .i64 y356.id, .int .i64 y356.each, .int .u64 y356.th, .int .u64 y356.tl, .int .u64 y356.tw])) (fun _ => (alA (al2 rfl (al2 rfl (al1 (by omega)))) (rda_pre (hOw531.rdx hO178.len hp_y356) _ rfl))) (fun _ => ds_ (sq_ (At.pick [[bx (γ179 0) (#[.slice (some ⟨g531, 0, none⟩) n cq178]) 24], [bx (γ4 1) (#[.slice none 0 0]) 24], [bx (γ4 0) (#[.slice p n cap]) 24], [bx (γ2 0) (#[.int .i64 y356.id, .int .i64 y356.each, .int .u64 y356.th, .int .u64 y356.tl, .int .u64 y356.tw]) 35], [bx (γ1 3) (#[.int .i64 0, .int .i64 0, .int .u64 0, .int .u64 0, .int .u64 0]) 35], [bx (γ1 2) (#[.slice none 0 0]) 24], [bx (γ1 1) (#[.int .i64 k]) 3], [bx (γ1 0) (#[.slice p n cap]) 24], [bx g531 cs531 35]] [0, 1, 2, 3, 4, 5, 6, 7, 8] [] (bx (γ179 0) (#[.slice (some ⟨g531, 0, none⟩) n cq178]) 24 :: bx (γ4 1) (#[.slice none 0 0]) 24 :: bx (γ4 0) (#[.slice p n cap]) 24 :: bx (γ2 0) (#[.int .i64 y356.id, .int .i64 y356.each, .int .u64 y356.th, .int .u64 y356.tl, .int .u64 y356.tw]) 35 :: bx (γ1 3) (#[.int .i64 0, .int .i64 0, .int .u64 0, .int .u64 0, .int .u64 0]) 35 :: bx (γ1 2) (#[.slice none 0 0]) 24 :: bx (γ1 1) (#[.int .i64 k]) 3 :: bx (γ1 0) (#[.slice p n cap]) 24 :: ([bx g531 cs531 35])) (by kernel_rfl) rfl rfl (ao_ (qo 8 [(4, .go (owns 0 0 1)), (7, .fit)] [] [(28, .pointer (some ⟨γ179 0, 0, none⟩)), (32, .slice (some ⟨g531, 0, none⟩) n cq178), (33, .int .i64 (posK Rn.id ts k : Nat)), (35, .int .i64 (posK Rn.id ts k + 1 : Nat))] ([Fit .i64 ((posK Rn.id ts k + 1 : Nat))]) (al1 (fit64 (by omega) (by omega))) (cP (fun v L' => ∃ q_ c_ Y_, v = .slice q_ ((posK Rn.id ts k) + (n - (posK Rn.id ts k + 1))) c_ ∧ L' = [bx (γ179 0) (#[.slice (some ⟨g531, 0, none⟩) n cq178]) 24, bx (γ4 1) (#[.slice none 0 0]) 24, bx (γ4 0) (#[.slice p n cap]) 24, bx (γ2 0) (#[.int .i64 y356.id, .int .i64 y356.each, .int .u64 y356.th, .int .u64 y356.tl, .int .u64 y356.tw]) 35, bx (γ1 3) (#[.int .i64 0, .int .i64 0, .int .u64 0, .int .u64 0, .int .u64 0]) 35, bx (γ1 2) (#[.slice none 0 0]) 24, bx (γ1 1) (#[.int .i64 k]) 3, bx (γ1 0) (#[.slice p n cap]) 24] ++ (Y_ ++ []) ∧ SlO 35 Y_ q_ ((posK Rn.id ts k) + (n - (posK Rn.id ts k + 1))) c_ (ts.take (posK Rn.id ts k) ++ ts.drop (posK Rn.id ts k + 1))) Try.call58 (fun w hw => (qdelete_t _ ([bx (γ179 0) (#[.slice (some ⟨g531, 0, none⟩) n cq178]) 24, bx (γ4 1) (#[.slice none 0 0]) 24, bx (γ4 0) (#[.slice p n cap]) 24, bx (γ2 0) (#[.int .i64 y356.id, .int .i64 y356.each, .int .u64 y356.th, .int .u64 y356.tl, .int .u64 y356.tw]) 35, bx (γ1 3) (#[.int .i64 0, .int .i64 0, .int .u64 0, .int .u64 0, .int .u64 0]) 35, bx (γ1 2) (#[.slice none 0 0]) 24, bx (γ1 1) (#[.int .i64 k]) 3, bx (γ1 0) (#[.slice p n cap]) 24] ++ []) [bx g531 cs531 35] (some ⟨g531, 0, none⟩) n cq178 ts (posK Rn.id ts k) (posK Rn.id ts k + 1) w (Hs.front (A := [bx (γ179 0) (#[.slice (some ⟨g531, 0, none⟩) n cq178]) 24, bx (γ4 1) (#[.slice none 0 0]) 24, bx (γ4 0) (#[.slice p n cap]) 24, bx (γ2 0) (#[.int .i64 y356.id, .int .i64 y356.each, .int .u64 y356.th, .int .u64 y356.tl, .int .u64 y356.tw]) 35, bx (γ1 3) (#[.int .i64 0, .int .i64 0, .int .u64 0, .int .u64 0, .int .u64 0]) 35, bx (γ1 2) (#[.slice none 0 0]) 24, bx (γ1 1) (#[.int .i64 k]) 3, bx (γ1 0) (#[.slice p n cap]) 24]) (Y := [bx g531 cs531 35]) (R := []) hw) hO178 (by omega) (by omega) (by omega)).mono fun e w' ⟨q_, c_, Y_, he, hO, hY⟩ => ⟨_, _, he, ⟨q_, c_, Y_, rfl, rfl, hO⟩, hY.push⟩) ?_))))))
    rintro v534 L534 ⟨q534, cq534, Y534, rfl, rfl, hO534⟩
    refine mo0 3 [(11, .go (owns 0 0 1))] [] (fun _ => []) (fun _ L => (L.set 0 (bx (γ179 0) (#[.slice q534 ((posK Rn.id ts k) + (n - (posK Rn.id ts k + 1))) cq534]) 24))) (fun _ => on_ (ds_ (sq_ (qa0 [] [] [(4, .int .i64 0)] (ds_ (bk ([]) (.int .i64 0) (qo0 1 [] [4, 7] [(8, .int .i64 0)] (on_ (ds_ (sq_ (qa0 [] [4, 7, 8] [(22, .bool false)] (ds_ (f_ (at_skip (ds_ (sq_ (ma0 [(0, .go (owns 0 0 1)), (1, .go (owns 1 0 1))] [4] (fun _ => [(5, .int .i64 0)]) (fun _ L => (L.set 1 (bx (γ4 1) (#[.slice q534 ((posK Rn.id ts k) + (n - (posK Rn.id ts k + 1))) cq534]) 24))) (fun _ => ds_ (bk (owns 1 0 1) (.tuple #[.agg #[.slice q534 ((posK Rn.id ts k) + (n - (posK Rn.id ts k + 1))) cq534], .int .i64 0]) (mo0 6 [(7, .go (owns 0 0 1))] [4, 5, 7] (fun γ540 => [(8, .pointer (some ⟨γ540 0, 0, none⟩)), (9, .int .i64 0)]) (fun γ540 L => bx (γ540 0) (#[.slice q534 ((posK Rn.id ts k) + (n - (posK Rn.id ts k + 1))) cq534]) 24 :: L) (fun γ540 => on_ (ds_ (sq_ ?_)))))))))))))))))))))))
    refine at_any (by kernel_rfl) ?_
    refine tk (m := 5) [2] [] [4, 5, 7, 8] [(18, .int .i64 0)] ([]) #[false, false, true, false, false, false] al0 ?_
    refine any_cutX (V := Unit) (fun _ => True) 0 #[true, true, true, true, true, true] (fun _ => [(4, .pointer (some ⟨γ1 2, 0, none⟩)), (5, .pointer (some ⟨γ1 3, 0, none⟩)), (6, .int .i64 0)]) (fun _ => bx (γ540 0) (#[.slice q534 ((posK Rn.id ts k) + (n - (posK Rn.id ts k + 1))) cq534]) 24 :: bx (γ179 0) (#[.slice q534 ((posK Rn.id ts k) + (n - (posK Rn.id ts k + 1))) cq534]) 24 :: bx (γ4 1) (#[.slice q534 ((posK Rn.id ts k) + (n - (posK Rn.id ts k + 1))) cq534]) 24 :: bx (γ4 0) (#[.slice p n cap]) 24 :: bx (γ2 0) (#[.int .i64 y356.id, .int .i64 y356.each, .int .u64 y356.th, .int .u64 y356.tl, .int .u64 y356.tw]) 35 :: bx (γ1 3) (#[.int .i64 y356.id, .int .i64 y356.each, .int .u64 y356.th, .int .u64 y356.tl, .int .u64 y356.tw]) 35 :: bx (γ1 2) (#[.slice q534 ((posK Rn.id ts k) + (n - (posK Rn.id ts k + 1))) cq534]) 24 :: bx (γ1 1) (#[.int .i64 k]) 3 :: bx (γ1 0) (#[.slice p n cap]) 24 :: (Y534 ++ [])) ?_ (fun hmx6 => ?_)
    rotate_left
    ·
     refine any_cutX (V := Unit) (fun _ => True) 2 #[true, true, true, true, false, false] (fun _ => [(4, .pointer (some ⟨γ1 2, 0, none⟩)), (5, .pointer (some ⟨γ1 3, 0, none⟩)), (17, .agg #[.int .i64 y356.id, .int .i64 y356.each, .int .u64 y356.th, .int .u64 y356.tl, .int .u64 y356.tw]), (18, .int .i64 0)]) (fun _ => bx (γ540 0) (#[.slice q534 ((posK Rn.id ts k) + (n - (posK Rn.id ts k + 1))) cq534]) 24 :: bx (γ179 0) (#[.slice q534 ((posK Rn.id ts k) + (n - (posK Rn.id ts k + 1))) cq534]) 24 :: bx (γ4 1) (#[.slice q534 ((posK Rn.id ts k) + (n - (posK Rn.id ts k + 1))) cq534]) 24 :: bx (γ4 0) (#[.slice p n cap]) 24 :: bx (γ2 0) (#[.int .i64 y356.id, .int .i64 y356.each, .int .u64 y356.th, .int .u64 y356.tl, .int .u64 y356.tw]) 35 :: bx (γ1 3) (#[.int .i64 0, .int .i64 0, .int .u64 0, .int .u64 0, .int .u64 0]) 35 :: bx (γ1 2) (#[.slice q534 ((posK Rn.id ts k) + (n - (posK Rn.id ts k + 1))) cq534]) 24 :: bx (γ1 1) (#[.int .i64 k]) 3 :: bx (γ1 0) (#[.slice p n cap]) 24 :: (Y534 ++ [])) ?_ (fun hmx5 => ?_)
     ·
      rintro _ _
      refine a1 4 rfl ?_
      refine mo0 1 [(4, .go (owns 5 0 5))] [4, 5, 18] (fun _ => []) (fun _ L => (L.set 5 (bx (γ1 3) (#[.int .i64 y356.id, .int .i64 y356.each, .int .u64 y356.th, .int .u64 y356.tl, .int .u64 y356.tw]) 35))) (fun _ => ?_)
      refine od_ ?_
      refine tk (m := 0) [5] [] [4, 5] [(6, .int .i64 0)] ([]) #[true, true, true, true, true, true] al0 ?_
      exact wk (hmx6 () trivial) [4, 5, 6] [[_], [_], [_], [_], [_], [_], [_], [_], [_], _] [0, 1, 2, 3, 4, 5, 6, 7, 8, 9] rfl rfl
     refine any_cutX (V := Unit) (fun _ => True) 3 #[true, false, true, true, false, false] (fun _ => [(4, .pointer (some ⟨γ1 2, 0, none⟩)), (5, .pointer (some ⟨γ1 3, 0, none⟩)), (7, .pointer (some ⟨γ2 0, 0, none⟩)), (18, .int .i64 0)]) (fun _ => bx (γ540 0) (#[.slice q534 ((posK Rn.id ts k) + (n - (posK Rn.id ts k + 1))) cq534]) 24 :: bx (γ179 0) (#[.slice q534 ((posK Rn.id ts k) + (n - (posK Rn.id ts k + 1))) cq534]) 24 :: bx (γ4 1) (#[.slice q534 ((posK Rn.id ts k) + (n - (posK Rn.id ts k + 1))) cq534]) 24 :: bx (γ4 0) (#[.slice p n cap]) 24 :: bx (γ2 0) (#[.int .i64 y356.id, .int .i64 y356.each, .int .u64 y356.th, .int .u64 y356.tl, .int .u64 y356.tw]) 35 :: bx (γ1 3) (#[.int .i64 0, .int .i64 0, .int .u64 0, .int .u64 0, .int .u64 0]) 35 :: bx (γ1 2) (#[.slice q534 ((posK Rn.id ts k) + (n - (posK Rn.id ts k + 1))) cq534]) 24 :: bx (γ1 1) (#[.int .i64 k]) 3 :: bx (γ1 0) (#[.slice p n cap]) 24 :: (Y534 ++ [])) ?_ (fun hmx4 => ?_)
     ·
      rintro _ _
      refine a1 1 rfl ?_
      refine qo0 1 [(1, .go (owns 4 0 5))] [4, 5, 18] [(17, .agg #[.int .i64 y356.id, .int .i64 y356.each, .int .u64 y356.th, .int .u64 y356.tl, .int .u64 y356.tw])] ?_
      refine od_ ?_
      exact wk (hmx5 () trivial) [4, 5, 17, 18] [[_], [_], [_], [_], [_], [_], [_], [_], [_], _] [0, 1, 2, 3, 4, 5, 6, 7, 8, 9] rfl rfl
     refine any_cutX (V := Unit) (fun _ => True) 3 #[true, true, true, false, false, false] (fun _ => [(4, .pointer (some ⟨γ1 2, 0, none⟩)), (5, .pointer (some ⟨γ1 3, 0, none⟩)), (16, .agg #[.slice q534 ((posK Rn.id ts k) + (n - (posK Rn.id ts k + 1))) cq534]), (17, .agg #[.int .i64 y356.id, .int .i64 y356.each, .int .u64 y356.th, .int .u64 y356.tl, .int .u64 y356.tw]), (18, .int .i64 0)]) (fun _ => bx (γ540 0) (#[.slice q534 ((posK Rn.id ts k) + (n - (posK Rn.id ts k + 1))) cq534]) 24 :: bx (γ179 0) (#[.slice q534 ((posK Rn.id ts k) + (n - (posK Rn.id ts k + 1))) cq534]) 24 :: bx (γ4 1) (#[.slice q534 ((posK Rn.id ts k) + (n - (posK Rn.id ts k + 1))) cq534]) 24 :: bx (γ4 0) (#[.slice p n cap]) 24 :: bx (γ2 0) (#[.int .i64 y356.id, .int .i64 y356.each, .int .u64 y356.th, .int .u64 y356.tl, .int .u64 y356.tw]) 35 :: bx (γ1 3) (#[.int .i64 0, .int .i64 0, .int .u64 0, .int .u64 0, .int .u64 0]) 35 :: bx (γ1 2) (#[.slice none 0 0]) 24 :: bx (γ1 1) (#[.int .i64 k]) 3 :: bx (γ1 0) (#[.slice p n cap]) 24 :: (Y534 ++ [])) ?_ (fun hmx3 => ?_)
     ·
      rintro _ _
      refine a1 3 rfl ?_
      refine mo0 1 [(3, .go (owns 6 0 1))] [4, 5, 17, 18] (fun _ => []) (fun _ L => (L.set 6 (bx (γ1 2) (#[.slice q534 ((posK Rn.id ts k) + (n - (posK Rn.id ts k + 1))) cq534]) 24))) (fun _ => ?_)
      refine od_ ?_
      exact wk (hmx5 () trivial) [4, 5, 17, 18] [[_], [_], [_], [_], [_], [_], [_], [_], [_], _] [0, 1, 2, 3, 4, 5, 6, 7, 8, 9] rfl rfl
     refine any_cutX (V := Unit) (fun _ => True) 4 #[false, true, true, false, false, false] (fun _ => [(4, .pointer (some ⟨γ1 2, 0, none⟩)), (5, .pointer (some ⟨γ1 3, 0, none⟩)), (8, .pointer (some ⟨γ540 0, 0, none⟩)), (17, .agg #[.int .i64 y356.id, .int .i64 y356.each, .int .u64 y356.th, .int .u64 y356.tl, .int .u64 y356.tw]), (18, .int .i64 0)]) (fun _ => bx (γ540 0) (#[.slice q534 ((posK Rn.id ts k) + (n - (posK Rn.id ts k + 1))) cq534]) 24 :: bx (γ179 0) (#[.slice q534 ((posK Rn.id ts k) + (n - (posK Rn.id ts k + 1))) cq534]) 24 :: bx (γ4 1) (#[.slice q534 ((posK Rn.id ts k) + (n - (posK Rn.id ts k + 1))) cq534]) 24 :: bx (γ4 0) (#[.slice p n cap]) 24 :: bx (γ2 0) (#[.int .i64 y356.id, .int .i64 y356.each, .int .u64 y356.th, .int .u64 y356.tl, .int .u64 y356.tw]) 35 :: bx (γ1 3) (#[.int .i64 0, .int .i64 0, .int .u64 0, .int .u64 0, .int .u64 0]) 35 :: bx (γ1 2) (#[.slice none 0 0]) 24 :: bx (γ1 1) (#[.int .i64 k]) 3 :: bx (γ1 0) (#[.slice p n cap]) 24 :: (Y534 ++ [])) ?_ (fun hmx2 => ?_)
     ·
      rintro _ _
      refine a1 0 rfl ?_
      refine qo0 1 [(0, .go (owns 0 0 1))] [4, 5, 17, 18] [(16, .agg #[.slice q534 ((posK Rn.id ts k) + (n - (posK Rn.id ts k + 1))) cq534])] ?_
      refine od_ ?_
      exact wk (hmx3 () trivial) [4, 5, 16, 17, 18] [[_], [_], [_], [_], [_], [_], [_], [_], [_], _] [0, 1, 2, 3, 4, 5, 6, 7, 8, 9] rfl rfl
     refine any_cutX (V := Unit) (fun _ => True) 4 #[true, false, true, false, false, false] (fun _ => [(4, .pointer (some ⟨γ1 2, 0, none⟩)), (5, .pointer (some ⟨γ1 3, 0, none⟩)), (7, .pointer (some ⟨γ2 0, 0, none⟩)), (16, .agg #[.slice q534 ((posK Rn.id ts k) + (n - (posK Rn.id ts k + 1))) cq534]), (18, .int .i64 0)]) (fun _ => bx (γ540 0) (#[.slice q534 ((posK Rn.id ts k) + (n - (posK Rn.id ts k + 1))) cq534]) 24 :: bx (γ179 0) (#[.slice q534 ((posK Rn.id ts k) + (n - (posK Rn.id ts k + 1))) cq534]) 24 :: bx (γ4 1) (#[.slice q534 ((posK Rn.id ts k) + (n - (posK Rn.id ts k + 1))) cq534]) 24 :: bx (γ4 0) (#[.slice p n cap]) 24 :: bx (γ2 0) (#[.int .i64 y356.id, .int .i64 y356.each, .int .u64 y356.th, .int .u64 y356.tl, .int .u64 y356.tw]) 35 :: bx (γ1 3) (#[.int .i64 0, .int .i64 0, .int .u64 0, .int .u64 0, .int .u64 0]) 35 :: bx (γ1 2) (#[.slice none 0 0]) 24 :: bx (γ1 1) (#[.int .i64 k]) 3 :: bx (γ1 0) (#[.slice p n cap]) 24 :: (Y534 ++ [])) ?_ (fun hmx1 => ?_)
     ·
      rintro _ _
      refine any_fork [1, 3] (by kernel_rfl) (by simp) (each_cons _ rfl ?_ (each_cons _ rfl ?_ (each_nil)))
      ·
       refine qo0 1 [(1, .go (owns 4 0 5))] [4, 5, 16, 18] [(17, .agg #[.int .i64 y356.id, .int .i64 y356.each, .int .u64 y356.th, .int .u64 y356.tl, .int .u64 y356.tw])] ?_
       refine od_ ?_
       exact wk (hmx3 () trivial) [4, 5, 16, 17, 18] [[_], [_], [_], [_], [_], [_], [_], [_], [_], _] [0, 1, 2, 3, 4, 5, 6, 7, 8, 9] rfl rfl
      ·
       refine mo0 1 [(3, .go (owns 6 0 1))] [4, 5, 7, 18] (fun _ => []) (fun _ L => (L.set 6 (bx (γ1 2) (#[.slice q534 ((posK Rn.id ts k) + (n - (posK Rn.id ts k + 1))) cq534]) 24))) (fun _ => ?_)
       refine od_ ?_
       exact wk (hmx4 () trivial) [4, 5, 7, 18] [[_], [_], [_], [_], [_], [_], [_], [_], [_], _] [0, 1, 2, 3, 4, 5, 6, 7, 8, 9] rfl rfl
     refine any_fork [0, 1] (by kernel_rfl) (by simp) (each_cons _ rfl ?_ (each_cons _ rfl ?_ (each_nil)))
     ·
      refine qo0 1 [(0, .go (owns 0 0 1))] [4, 5, 7, 18] [(16, .agg #[.slice q534 ((posK Rn.id ts k) + (n - (posK Rn.id ts k + 1))) cq534])] ?_
      refine od_ ?_
      exact wk (hmx1 () trivial) [4, 5, 7, 16, 18] [[_], [_], [_], [_], [_], [_], [_], [_], [_], _] [0, 1, 2, 3, 4, 5, 6, 7, 8, 9] rfl rfl
     ·
      refine qo0 1 [(1, .go (owns 4 0 5))] [4, 5, 8, 18] [(17, .agg #[.int .i64 y356.id, .int .i64 y356.each, .int .u64 y356.th, .int .u64 y356.tl, .int .u64 y356.tw])] ?_
      refine od_ ?_
      exact wk (hmx2 () trivial) [4, 5, 8, 17, 18] [[_], [_], [_], [_], [_], [_], [_], [_], [_], _] [0, 1, 2, 3, 4, 5, 6, 7, 8, 9] rfl rfl
    rintro _ _
    refine any_nil (by kernel_rfl) ?_
    refine ds_ (rt (owns 6 0 1 ++ owns 5 0 5) (.tuple #[.agg #[.slice q534 ((posK Rn.id ts k) + (n - (posK Rn.id ts k + 1))) cq534], .agg #[.int .i64 y356.id, .int .i64 y356.each, .int .u64 y356.th, .int .u64 y356.tl, .int .u64 y356.tw], .int .i64 0]) ?_)
    exact fun w' hw => by rw [leave_ok q6 q183 hg356]; exact ⟨_, _, _, _, rfl, hO534, hw.below, one_tail (Hs.pick [[bx (γ540 0) (#[.slice q534 ((posK Rn.id ts k) + (n - (posK Rn.id ts k + 1))) cq534]) 24], [bx (γ179 0) (#[.slice q534 ((posK Rn.id ts k) + (n - (posK Rn.id ts k + 1))) cq534]) 24], [bx (γ4 1) (#[.slice q534 ((posK Rn.id ts k) + (n - (posK Rn.id ts k + 1))) cq534]) 24], [bx (γ4 0) (#[.slice p n cap]) 24], [bx (γ2 0) (#[.int .i64 y356.id, .int .i64 y356.each, .int .u64 y356.th, .int .u64 y356.tl, .int .u64 y356.tw]) 35], [bx (γ1 3) (#[.int .i64 y356.id, .int .i64 y356.each, .int .u64 y356.th, .int .u64 y356.tl, .int .u64 y356.tw]) 35], [bx (γ1 2) (#[.slice q534 ((posK Rn.id ts k) + (n - (posK Rn.id ts k + 1))) cq534]) 24], [bx (γ1 1) (#[.int .i64 k]) 3], [bx (γ1 0) (#[.slice p n cap]) 24], Y534] [9] [0, 1, 2, 3, 4, 5, 6, 7, 8] (by kernel_rfl) hw)⟩
end Go.Proofs.Ytnhkecfapohlgaa

/-! What comes of joining and leaving; plain. -/
namespace Go.Proofs.Ytnhkecfapohlgaa
open Go Go.RowKit

section
variable {a b f t : Fq} {n w s x y d : Int}
theorem fq_ext (ha : a.U) (hb : b.U) (hn : a.num = b.num) (hw : a.w = b.w) : a = b := by
  have h1 := ha.hl
  have h2 := hb.hl
  rw [hn] at h1
  have e1 : a.hi = b.hi := h1.1.symm.trans h2.1
  have e2 : a.lo = b.lo := h1.2.symm.trans h2.2
  cases a; cases b
  simp only at e1 e2 hw
  subst e1; subst e2; subst hw; rfl
theorem mul_lt_iff (hd : 0 < d) : x * d < y * d ↔ x < y := ⟨fun h => Int.lt_of_mul_lt_mul_right h (by omega), fun h => Int.mul_lt_mul_of_pos_right h hd⟩
theorem cmp_same (ha : a.ok = true) (hb : b.ok = true) (hw : a.w = b.w) : (cmpF a b < 0 ↔ a.num < b.num) ∧ (0 < cmpF a b ↔ b.num < a.num) := by
  have h1 := ok_iff.1 hb
  rw [cmp_yes ha hb, cmpI_neg, cmpI_pos, hw]
  exact ⟨mul_lt_iff (by omega), mul_lt_iff (by omega)⟩
theorem maxS_same (ha : a.ok = true) (hb : b.ok = true) (hw : a.w = b.w) : (maxS a b = a ∧ b.num ≤ a.num) ∨ (maxS a b = b ∧ a.num < b.num) := by
  have h := (cmp_same hb ha hw.symm).2
  by_cases h1 : 0 < cmpF b a
  · exact .inr ⟨maxS_yes h1, h.1 h1⟩
  · exact .inl ⟨maxS_no h1, by have := mt h.2 h1; omega⟩
/-- What a raise answers. -/
structure RaiseOk (t : Fq) (w : Int) (R : Fq) : Prop where
  U : R.U
  ok : R.ok = true
  wt : R.w = w
  ge : subV t.num (268435456 * t.w) * w ≤ R.num * t.w
  le : R.num ≤ upD (t.num * w) t.w
theorem floor_num : (floorV t s).num = subV t.num (s * t.w) := num_mk
theorem raise_cases (hV : t.U) (hk : t.ok = true) (hw : wB w = true) : ((raiseV ⟨0, 0, w⟩ t 268435456).2 = 0 ∧ RaiseOk t w (raiseV ⟨0, 0, w⟩ t 268435456).1) ∨ (raiseV ⟨0, 0, w⟩ t 268435456).2 = 131 := by
  have hw2 := wB_iff.1 hw
  have hk2 := ok_iff.1 hk
  have h0ok : (⟨0, 0, w⟩ : Fq).ok = true := ok_yes hw2.1 hw2.2 (by show (0 : Int) < _; decide)
  have h0U : (⟨0, 0, w⟩ : Fq).U := w_U (by omega) (by omega)
  have h0n : (⟨0, 0, w⟩ : Fq).num = 0 := rfl
  have hN := up_r (mul_lt hV.n0 (num_lt hV hk) (show 0 ≤ w by omega) hw2.2).1 hk2.1.1
  have hboth : ((⟨0, 0, w⟩ : Fq).ok && t.ok) = true := by rw [h0ok, hk]; rfl
  have hfk := floor_ok hV hk (show (0 : Int) ≤ 268435456 by decide)
  have hfU := floor_U hV hk (show (0 : Int) ≤ 268435456 by decide)
  cases hb : behV ⟨0, 0, w⟩ t 268435456 with
  | false =>
    rw [raise_same hboth hb]
    refine .inl ⟨rfl, h0U, h0ok, rfl, ?_, by rw [h0n]; exact hN.1⟩
    rw [beh_yes hboth] at hb
    have h1 := of_decide_eq_false hb
    rw [cmp_yes h0ok hfk, cmpI_neg, floor_num, h0n] at h1
    rw [h0n]
    simp only [Int.zero_mul] at h1 ⊢
    omega
  | true =>
    rw [raise_up hboth hb]
    have hw3 : (floorV t 268435456).w = t.w := rfl
    rcases over_cases hfU hfk hw with h1 | h1
    · refine .inl ⟨h1.1, h1.2.U, h1.2.ok, by rw [h1.2.eq], ?_, ?_⟩
      · rw [h1.2.num, floor_num, hw3]; exact up_le hk2.1.1
      · rw [h1.2.num, floor_num, hw3]
        refine up_least hk2.1.1 (Int.le_trans (Int.mul_le_mul_of_nonneg_right ?_ (by omega)) (up_le hk2.1.1))
        exact (sub_r hV.n0 (Int.mul_nonneg (by decide) hV.w0)).2
    · exact .inr h1.1
/-- Where one is held. -/
structure HeldOk (t : Fq) (r : Rn) (boost : Int) (R : Fq) : Prop where
  U : R.U
  ok : R.ok = true
  w : R.w = r.tw
  le : R.num ≤ upD (t.num * r.tw) t.w
  ge : subV t.num (268435456 * t.w) * r.tw ≤ R.num * t.w
  b0 : boost = 0 → R.num = upD (t.num * r.tw) t.w
  same : r.t.num = upD (t.num * r.tw) t.w → R = r.t
theorem bounds_cases {r : Rn} {boost : Int} (hV : t.U) (hk : t.ok = true) (hr : r.U) (hb : rnB r = true) (h0 : 0 ≤ boost) : (timeV (t, true) r boost).2 = 0 ∧ HeldOk t r boost (timeV (t, true) r boost).1 ∨ (timeV (t, true) r boost).2 = 131 := by
  have hb2 := rnB_iff.1 hb
  have hw : wB r.tw = true := wB_of hb2.2.2
  have hw2 := wB_iff.1 hw
  have hk2 := ok_iff.1 hk
  have hm : 0 ≤ boost * r.each := Int.mul_nonneg h0 (by omega)
  have e2 : (timeV (t, true) r boost).2 = (boundsV t r boost).2.2 := rfl
  rcases over_cases hV hk hw with ⟨h1, o⟩ | ⟨h1, _⟩
  · obtain ⟨l0, l1, l2, l3⟩ := less_ok o.U o.ok hm
    have lU := less_U o.U hm
    rcases raise_cases hV hk hw with ⟨r0, ra⟩ | r0
    · have eb := bounds_4 (t := t) (r := r) (boost := boost) (by omega) (by omega) (by omega)
      left
      rw [e2, eb]
      refine ⟨rfl, ?_⟩
      generalize hL : (lessV (overV t r.tw).1 (boost * r.each)).1 = L at l1 l2 l3 lU eb
      generalize hF : (raiseV ⟨0, 0, r.tw⟩ t 268435456).1 = F at ra eb
      have ow : (overV t r.tw).1.w = r.tw := by rw [o.eq]
      have oN := o.num
      have oU := o.U
      have oK := o.ok
      generalize hO : (overV t r.tw).1 = O at l2 l3 ow oN oU oK eb
      rw [ow] at l3
      -- low
      have hlow : ∃ W : Fq, greatV L F = W ∧ W.U ∧ W.ok = true ∧ W.w = r.tw ∧ L.num ≤ W.num ∧ F.num ≤ W.num ∧ W.num ≤ O.num := by
        have hLO : L.num ≤ O.num := by rw [l2]; exact (sub_r oU.n0 hm).2
        have hFO : F.num ≤ O.num := by rw [oN]; exact ra.le
        rcases maxS_same l1 ra.ok (l3.trans ra.wt.symm) with ⟨e, h⟩ | ⟨e, h⟩
        · exact ⟨L, e, lU, l1, l3, Int.le_refl _, h, hLO⟩
        · exact ⟨F, e, ra.U, ra.ok, ra.wt, by omega, Int.le_refl _, hFO⟩
      obtain ⟨W, eW, WU, WK, WW, hLW, hFW, hWO⟩ := hlow
      have hrw : r.t.w = r.tw := rfl
      have hmid : ∃ M : Fq, greatV W r.t = M ∧ M.U ∧ M.ok = true ∧ M.w = r.tw ∧ W.num ≤ M.num ∧ r.t.num ≤ M.num ∧ (M = W ∨ M = r.t) ∧ (M.num ≤ W.num ∨ M.num ≤ r.t.num) := by
        rcases maxS_same WK hb2.2.2 (WW.trans hrw.symm) with ⟨e, h⟩ | ⟨e, h⟩
        · exact ⟨W, e, WU, WK, WW, Int.le_refl _, h, .inl rfl, .inl (Int.le_refl _)⟩
        · exact ⟨r.t, e, hr.t, hb2.2.2, hrw, by omega, Int.le_refl _, .inr rfl, .inr (Int.le_refl _)⟩
      obtain ⟨M, eM, MU, MK, MW, hWM, hrM, hMc, hMn⟩ := hmid
      have hb1 : (boundsV t r boost).1 = W := by rw [eb]; exact eW
      have hb3 : (boundsV t r boost).2.1 = O := by rw [eb]
      have hb0L : boost = 0 → L.num = O.num := fun h => by rw [l2, h, Int.zero_mul, sub_ge (by have := oU.n0; omega)]; omega
      have hcmp := (cmp_same MK oK (MW.trans ow.symm)).2
      have hgeF : ∀ Z : Fq, F.num ≤ Z.num → subV t.num (268435456 * t.w) * r.tw ≤ Z.num * t.w := fun Z h => Int.le_trans ra.ge (Int.mul_le_mul_of_nonneg_right h (by omega))
      by_cases hc : 0 < cmpF M O
      · have hlt := hcmp.1 hc
        have e1 : (timeV (t, true) r boost).1 = O := by
          rw [time_hi rfl (by rw [hb1, hb3]; show 0 < cmpF (greatV W r.t) O; rw [eM]; exact hc)]; exact hb3
        rw [e1]
        refine ⟨oU, oK, ow, by rw [oN]; exact Int.le_refl _, hgeF O (by omega), fun _ => oN, fun hs => ?_⟩
        rw [← oN] at hs
        rcases hMn with h | h <;> omega
      · have hle : M.num ≤ O.num := by have := mt hcmp.2 hc; omega
        have e1 : (timeV (t, true) r boost).1 = M := by
          rw [time_lo rfl (by rw [hb1, hb3]; show ¬ 0 < cmpF (greatV W r.t) O; rw [eM]; exact hc), hb1]; exact eM
        rw [e1]
        refine ⟨MU, MK, MW, by rw [← oN]; exact hle, hgeF M (by omega), fun h => ?_, fun hs => ?_⟩
        · have := hb0L h; omega
        · rw [← oN] at hs
          exact fq_ext MU hr.t (by omega) (MW.trans hrw.symm)
    · right; rw [e2, bounds_3 (by omega) (by omega) (by omega)]; exact r0
  · right; rw [e2, bounds_1 (by omega)]; exact h1
end
section
variable {ts : List Rn} {r x : Rn} {k boost : Int}
theorem top_mem (h : (topV ts).2 = true) : ∃ r ∈ ts, (topV ts).1 = r.t := by
  have := topV_ind (ts := ts) (P := fun s => s.2 = true → ∃ r ∈ ts, s.1 = r.t) (fun h => by cases h) (fun s r hr _ _ => ⟨r, hr, rfl⟩)
  exact this h
theorem top_ok (hg : GoodQ ts) (h : (topV ts).2 = true) : (topV ts).1.ok = true := by
  obtain ⟨r, hr, e⟩ := top_mem h
  rw [e]; exact (hg.bnd hr).2.2.2.2
structure JoinOk (ts : List Rn) (r : Rn) (boost : Int) : Prop where
  good : GoodQ ts
  rn : rnB r = true
  none : getK Rn.id ts r.id = none
  b0 : boost ≤ 10000000
  time : (timeV (topV ts) r boost).2 = 0
  eq : (joinV ts r boost).1 = insK Rn.id ts (newR ts r boost)
theorem join_yes (h : (joinV ts r boost).2 = 0) : JoinOk ts r boost := by
  by_cases hb : 10000000 < boost
  · rw [join_big hb] at h
    split at h <;> cases h
  · cases hc : chkQ ts with
    | false => rw [join_bad hb hc] at h; cases h
    | true =>
      cases hr : rnB r with
      | false => rw [join_arg hb hc hr] at h; cases h
      | true =>
        cases hg : getK Rn.id ts r.id with
        | some x => rw [join_there hb hc hr hg] at h; cases h
        | none =>
          by_cases ht : (timeV (topV ts) r boost).2 = 0
          · exact ⟨chk_iff.1 hc, hr, hg, by omega, ht, by rw [join_ok hb hc hr hg ht]⟩
          · rw [join_err hb hc hr hg ht] at h; exact absurd h ht
theorem join_nil (h : (joinV ts r boost).2 ≠ 0) : (joinV ts r boost).1 = [] := by
  by_cases hb : 10000000 < boost
  · rw [join_big hb]
  · cases hc : chkQ ts with
    | false => rw [join_bad hb hc]
    | true =>
      cases hr : rnB r with
      | false => rw [join_arg hb hc hr]
      | true =>
        cases hg : getK Rn.id ts r.id with
        | some x => rw [join_there hb hc hr hg]
        | none =>
          by_cases ht : (timeV (topV ts) r boost).2 = 0
          · rw [join_ok hb hc hr hg ht] at h; exact absurd rfl h
          · rw [join_err hb hc hr hg ht]
theorem insK_len {z : Rn} : (insK Rn.id ts z).length = ts.length + 1 := by
  unfold insK
  simp only [List.length_append, List.length_take, List.length_drop, List.length_cons, List.length_nil]
  omega
theorem join_len : (joinV ts r boost).1.length ≤ ts.length + 1 := by
  by_cases h : (joinV ts r boost).2 = 0
  · rw [(join_yes h).eq, insK_len]; exact Nat.le_refl _
  · rw [join_nil h]; simp
theorem time_split : timeV (topV ts) r boost = timeV ((topV ts).1, (topV ts).2) r boost := rfl
/-- What is held of who joins. -/
theorem new_facts (hU : ∀ x ∈ ts, x.U) (hr : r.U) (h0 : 0 ≤ boost) (J : JoinOk ts r boost) : (newR ts r boost).U ∧ rnB (newR ts r boost) = true ∧ (newR ts r boost).t.w = r.tw ∧ ((topV ts).2 = false → newR ts r boost = r) ∧ ((topV ts).2 = true → HeldOk (topV ts).1 r boost (newR ts r boost).t) := by
  have hb2 := rnB_iff.1 J.rn
  have et : (newR ts r boost).t = (timeV (topV ts) r boost).1 := rfl
  cases ha : (topV ts).2 with
  | false =>
    have e : newR ts r boost = r := by unfold newR; rw [time_none ha]; rfl
    rw [e]
    exact ⟨hr, J.rn, rfl, fun _ => rfl, fun h => by cases h⟩
  | true =>
    have hs : timeV (topV ts) r boost = timeV ((topV ts).1, true) r boost := by rw [time_split, ha]
    rcases bounds_cases (topV_U hU) (top_ok J.good ha) hr J.rn h0 with ⟨_, H⟩ | h
    · rw [← hs, ← et] at H
      exact ⟨⟨hr.i0, hr.i1, hr.e0, hr.e1, H.U⟩, rnB_iff.2 ⟨hb2.1, hb2.2.1, H.ok⟩, H.w, (fun h => by cases h), fun _ => H⟩
    · have := J.time; rw [hs] at this; omega
theorem JoinOk.chk (J : JoinOk ts r boost) (hU : ∀ x ∈ ts, x.U) (hr : r.U) (h0 : 0 ≤ boost) : GoodQ (insK Rn.id ts (newR ts r boost)) ∧ ∀ x ∈ insK Rn.id ts (newR ts r boost), x.U := by
  have N := new_facts hU hr h0 J
  refine ⟨⟨ris_insK J.good.rs J.none, fun x hx => ?_⟩, fun x hx => ?_⟩
  · rcases mem_insK.1 hx with rfl | hx
    · exact N.2.1
    · exact J.good.rn x hx
  · rcases mem_insK.1 hx with rfl | hx
    · exact N.1
    · exact hU x hx
theorem JoinOk.get (J : JoinOk ts r boost) (hU : ∀ x ∈ ts, x.U) (hr : r.U) (h0 : 0 ≤ boost) : getQ (joinV ts r boost).1 r.id = some (newR ts r boost) := by
  rw [J.eq, getQ_ok (chk_iff.2 (J.chk hU hr h0).1)]
  exact (getK_iff (J.chk hU hr h0).1.rs).2 ⟨mem_insK.2 (.inl rfl), rfl⟩
theorem join_U (hU : ∀ x ∈ ts, x.U) (hr : r.U) (h0 : 0 ≤ boost) : ∀ x ∈ (joinV ts r boost).1, x.U := by
  by_cases h : (joinV ts r boost).2 = 0
  · rw [(join_yes h).eq]; exact ((join_yes h).chk hU hr h0).2
  · rw [join_nil h]; intro x hx; cases hx
theorem del_ins (J : JoinOk ts r boost) (hU : ∀ x ∈ ts, x.U) (hr : r.U) (h0 : 0 ≤ boost) : delK Rn.id (insK Rn.id ts (newR ts r boost)) r.id = ts := by
  have C := J.chk hU hr h0
  have hg : getK Rn.id (insK Rn.id ts (newR ts r boost)) r.id = some (newR ts r boost) := (getK_iff C.1.rs).2 ⟨mem_insK.2 (.inl rfl), rfl⟩
  refine ris_ext (ris_delK C.1.rs hg) J.good.rs fun x => ?_
  rw [mem_delK C.1.rs hg, mem_insK]
  have hn := getK_none.1 J.none
  constructor
  · rintro ⟨rfl | h, hne⟩
    · exact absurd rfl hne
    · exact h
  · intro h; exact ⟨.inr h, hn x h⟩
/-- One who joins leaves again. -/
theorem leave_join (J : JoinOk ts r boost) (hU : ∀ x ∈ ts, x.U) (hr : r.U) (h0 : 0 ≤ boost) : leaveV (joinV ts r boost).1 r.id = (ts, some (newR ts r boost), 0) := by
  have C := J.chk hU hr h0
  rw [J.eq, leave_ok (chk_iff.2 C.1) (idV_iff.2 (rnB_iff.1 J.rn).1) ((getK_iff C.1.rs).2 ⟨mem_insK.2 (.inl rfl), rfl⟩), del_ins J hU hr h0]
theorem leave_len : (leaveV ts k).1.length ≤ ts.length := by
  unfold leaveV
  split
  · split
    · split
      · unfold delK; simp only [List.length_append, List.length_take, List.length_drop]; omega
      · simp
    · simp
  · simp
theorem leave_U (hU : ∀ x ∈ ts, x.U) : ∀ x ∈ (leaveV ts k).1, x.U := by
  unfold leaveV
  split
  · split
    · split
      · intro x hx
        unfold delK at hx
        rcases List.mem_append.1 hx with h | h
        · exact hU x (List.mem_of_mem_take h)
        · exact hU x (List.mem_of_mem_drop h)
      · intro x hx; cases hx
    · intro x hx; cases hx
  · intro x hx; cases hx
/-- VtimeNear, told by what is reckoned. -/
structure NearFacts (ts : List Rn) (r : Rn) (boost : Int) (own : Rn) (s : Fq × Bool) : Prop where
  U : own.U
  get : getQ (joinV ts r boost).1 r.id = some own
  chk : chkQ (joinV ts r boost).1 = true
  len : (joinV ts r boost).1.length = ts.length + 1
  each : own.each = r.each
  w : own.tw = r.tw
  tU : s.1.U
  empty : s.2 = false → own = r
  less : (lessV own.t 1).2 = 0
  beh : s.2 = true → behV own.t s.1 268435456 = false
  near : s.2 = true → ¬ (own.th = 0 ∧ own.tl = 0) → cmpF (lessV own.t 1).1 s.1 < 0
  b0 : s.2 = true → boost = 0 → 0 ≤ cmpF own.t s.1
  same : s.2 = true → cmpF r.t s.1 = 0 → own.t = r.t
  leave : leaveV (joinV ts r boost).1 r.id = (ts, some own, 0)
theorem near_facts (hU : ∀ x ∈ ts, x.U) (hr : r.U) (h0 : 0 ≤ boost) (h : (joinV ts r boost).2 = 0) : NearFacts ts r boost (newR ts r boost) (topV ts) := by
  have J := join_yes h
  have N := new_facts hU hr h0 J
  have C := J.chk hU hr h0
  have hnk := (rnB_iff.1 N.2.1).2.2
  have L := less_ok N.1.t hnk (show (0 : Int) ≤ 1 by decide)
  have hb2 := rnB_iff.1 J.rn
  have hw2 := wB_iff.1 (wB_of hb2.2.2)
  have hrw : r.t.w = r.tw := rfl
  refine ⟨N.1, J.get hU hr h0, by rw [J.eq]; exact chk_iff.2 C.1, by rw [J.eq, insK_len], rfl, N.2.2.1, topV_U hU, N.2.2.2.1, L.1, fun ha => ?_, fun ha hn => ?_, fun ha hb => ?_, fun ha hc => ?_, leave_join J hU hr h0⟩
  all_goals
    have H := N.2.2.2.2 ha
    have tk := top_ok J.good ha
    have tU := topV_U hU
    have tk2 := ok_iff.1 tk
  · rw [beh_yes (by rw [hnk, tk]; rfl)]
    refine decide_eq_false ?_
    rw [cmp_yes hnk (floor_ok tU tk (by decide)), cmpI_neg, floor_num, H.w]
    have := H.ge
    show ¬ (newR ts r boost).t.num * (topV ts).1.w < _
    omega
  · rw [cmp_yes L.2.1 tk, cmpI_neg, L.2.2.1, L.2.2.2, H.w]
    have hn0 : ¬ (newR ts r boost).t.num = 0 := fun hz => hn ((num_zero N.1.t).1 hz)
    have hn1 := N.1.t.n0
    rw [sub_ge (by omega)]
    have h1 : ((newR ts r boost).t.num - 1) * (topV ts).1.w ≤ (upD ((topV ts).1.num * r.tw) (topV ts).1.w - 1) * (topV ts).1.w := Int.mul_le_mul_of_nonneg_right (by have := H.le; omega) (by omega)
    have h2 := up_lt (x := (topV ts).1.num * r.tw) tk2.1.1
    omega
  · have h1 := H.b0 hb
    have h2 := up_le (x := (topV ts).1.num * r.tw) tk2.1.1
    have h3 := cmpI_neg (x := (newR ts r boost).t.num * (topV ts).1.w) (y := (topV ts).1.num * r.tw)
    rw [cmp_yes hnk tk, H.w]
    rw [h1] at h3 ⊢
    omega
  · rw [cmp_yes hb2.2.2 tk, cmpI_zero, hrw] at hc
    refine H.same ?_
    have h1 := up_least tk2.1.1 (Int.le_of_eq hc.symm)
    have h2 := up_le (x := (topV ts).1.num * r.tw) tk2.1.1
    rw [← hc] at h2 ⊢
    have h3 := Int.le_of_mul_le_mul_right h2 (show 0 < (topV ts).1.w by omega)
    rw [← hc] at h1
    omega
theorem near_factsQ (hU : ∀ x ∈ ts, x.U) (hr : r.U) (h0 : 0 ≤ boost) (h : (joinV ts r boost).2 = 0) : NearFacts ts r boost (newR ts r boost) (topQ ts) := by
  have := near_facts hU hr h0 h
  rwa [← topQ_ok (chk_iff.2 (join_yes h).good)] at this
theorem leave_nil (h : (leaveV ts k).2.2 ≠ 0) : (leaveV ts k).1 = [] ∧ (leaveV ts k).2.1 = none := by
  cases hc : chkQ ts with
  | false => rw [leave_bad hc]; exact ⟨rfl, rfl⟩
  | true =>
    cases hi : idV k with
    | false => rw [leave_arg hc hi]; exact ⟨rfl, rfl⟩
    | true =>
      cases hg : getK Rn.id ts k with
      | none => rw [leave_none hc hi hg]; exact ⟨rfl, rfl⟩
      | some r => rw [leave_ok hc hi hg] at h; exact absurd rfl h
theorem leave_yes (h : (leaveV ts k).2.2 = 0) : ∃ r, GoodQ ts ∧ getK Rn.id ts k = some r ∧ leaveV ts k = (delK Rn.id ts k, some r, 0) := by
  cases hc : chkQ ts with
  | false => rw [leave_bad hc] at h; cases h
  | true =>
    cases hi : idV k with
    | false => rw [leave_arg hc hi] at h; cases h
    | true =>
      cases hg : getK Rn.id ts k with
      | none => rw [leave_none hc hi hg] at h; cases h
      | some r => exact ⟨r, chk_iff.1 hc, rfl, leave_ok hc hi hg⟩
/-- VtimeGains, told by what is reckoned. -/
structure GainFacts (n : List Rn) (r : Rn) (k : Int) : Prop where
  U : r.U
  UL : ∀ x ∈ n, x.U
  none : getQ n k = none
  err : (joinV n r 0).2 = 0 ∨ (joinV n r 0).2 = 131
  get : (joinV n r 0).2 = 0 → getQ (joinV n r 0).1 k = some (newR n r 0)
  nU : (joinV n r 0).2 = 0 → (newR n r 0).U
  ge : (joinV n r 0).2 = 0 → 0 ≤ cmpF (newR n r 0).t r.t ∨ ((topQ n).2 = true ∧ 0 < cmpF r.t (topQ n).1)
  top : (joinV n r 0).2 = 0 → (topQ n).2 = true → 0 ≤ cmpF (newR n r 0).t (topQ n).1
theorem topQ_U (hU : ∀ x ∈ ts, x.U) : (topQ ts).1.U := by
  unfold topQ
  split
  · exact topV_U hU
  · exact z_U
theorem gain_facts (hU : ∀ x ∈ ts, x.U) (h : (leaveV ts k).2.2 = 0) : GainFacts (leaveV ts k).1 ((leaveV ts k).2.1.getD zR) k := by
  obtain ⟨r, hg, hgk, e⟩ := leave_yes h
  rw [e]
  show GainFacts (delK Rn.id ts k) r k
  obtain ⟨hm, hid⟩ := (getK_iff hg.rs).1 hgk
  have hUr := hU r hm
  have hbn := hg.rn r hm
  have hb2 := rnB_iff.1 hbn
  have hUd : ∀ x ∈ delK Rn.id ts k, x.U := fun x hx => hU x ((mem_delK hg.rs hgk).1 hx).1
  have hgd : GoodQ (delK Rn.id ts k) := ⟨ris_delK hg.rs hgk, fun x hx => hg.rn x ((mem_delK hg.rs hgk).1 hx).1⟩
  have hck := chk_iff.2 hgd
  have hno : getK Rn.id (delK Rn.id ts k) k = none := getK_none.2 fun x hx => ((mem_delK hg.rs hgk).1 hx).2
  have hno2 : getK Rn.id (delK Rn.id ts k) r.id = none := by rw [hid]; exact hno
  have hje : (joinV (delK Rn.id ts k) r 0).2 = (timeV (topV (delK Rn.id ts k)) r 0).2 := by
    by_cases ht : (timeV (topV (delK Rn.id ts k)) r 0).2 = 0
    · rw [join_ok (by decide) hck hbn hno2 ht, ht]
    · rw [join_err (by decide) hck hbn hno2 ht]
  refine ⟨hUr, hUd, by rw [getQ_ok hck]; exact hno, ?_, fun h0 => ?_, fun h0 => (new_facts hUd hUr (Int.le_refl 0) (join_yes h0)).1, fun h0 => ?_, fun h0 ha => ?_⟩
  · rw [hje]
    cases ha : (topV (delK Rn.id ts k)).2 with
    | false => rw [time_none ha]; exact .inl rfl
    | true =>
      have hs : timeV (topV (delK Rn.id ts k)) r 0 = timeV ((topV (delK Rn.id ts k)).1, true) r 0 := by rw [time_split, ha]
      rw [hs]
      rcases bounds_cases (topV_U hUd) (top_ok hgd ha) hUr hbn (Int.le_refl 0) with ⟨h1, _⟩ | h1
      · exact .inl h1
      · exact .inr h1
  · have := (near_facts hUd hUr (Int.le_refl 0) h0).get
    rwa [hid] at this
  · rw [topQ_ok hck]
    have N := new_facts hUd hUr (Int.le_refl 0) (join_yes h0)
    have hnk := (rnB_iff.1 N.2.1).2.2
    have hrw : r.t.w = r.tw := rfl
    cases ha : (topV (delK Rn.id ts k)).2 with
    | false =>
      rw [N.2.2.2.1 ha]
      left
      have := (cmp_same hb2.2.2 hb2.2.2 rfl).1
      omega
    | true =>
      have H := N.2.2.2.2 ha
      have tk := top_ok hgd ha
      have tk2 := ok_iff.1 tk
      have hb0 := H.b0 rfl
      by_cases hc : r.t.num ≤ (newR (delK Rn.id ts k) r 0).t.num
      · left
        have := (cmp_same hnk hb2.2.2 (H.w.trans hrw.symm)).1
        omega
      · right
        refine ⟨rfl, ?_⟩
        rw [cmp_yes hb2.2.2 tk, cmpI_pos, hrw]
        have h2 := up_le (x := (topV (delK Rn.id ts k)).1.num * r.tw) tk2.1.1
        rw [← hb0] at h2
        have h3 : (newR (delK Rn.id ts k) r 0).t.num * (topV (delK Rn.id ts k)).1.w < r.t.num * (topV (delK Rn.id ts k)).1.w := Int.mul_lt_mul_of_pos_right (by omega) (by omega)
        omega
  · have N := near_factsQ hUd hUr (Int.le_refl 0) h0
    exact N.b0 ha rfl
end
end Go.Proofs.Ytnhkecfapohlgaa

/-! The statement VtimeGains, walked. -/
namespace Go.Proofs.Ytnhkecfapohlgaa
open Go Go.RowKit

set_option maxRecDepth 100000 in
theorem gains_law (p : Option Addr) (n cap : Nat) (ts : List Rn) (k : Int) (w : World)
 (hts : Sv w p ts) (hn : n = ts.length) (hcp : n ≤ cap) (hb : n ≤ 9223372036854775807)
 (hU : ∀ r ∈ ts, r.U)
 (hk0 : -9223372036854775808 ≤ k) (hk1 : k ≤ 9223372036854775807)
 : Calls Try.prog 6 #[.agg #[.slice p n cap], .int .i64 k] w fun e w' => e = .returned (.bool true) ∧ Below w.heap.size w w' := by
 refine enter (Hs.start w) Try.func6 rfl Try.ntmps6 rfl (sq_ (ma0 [] [1] (fun γ1 => [(2, .pointer (some ⟨γ1 0, 0, none⟩))]) (fun γ1 L => bx (γ1 0) (#[.slice p n cap]) 24 :: L) (fun γ1 => ds_ (sq_ (sq_ (ao_ (cD (.bool true) Try.call9 (fun w hw => wakes_t w) (qo0 1 [] [1, 2] [(17, .bool false)] (on_ (ds_ (f_ (at_skip (ds_ (sq_ (ao_ (qo0 1 [(0, .go (owns 0 0 1))] [1] [(18, .agg #[.slice p n cap])] (cP (fun v L' => ∃ q_ n_ c_ Y_, v = .agg #[.slice q_ n_ c_] ∧ L' = List.take 1 ([bx (γ1 0) (#[.slice p n cap]) 24]) ++ (Y_ ++ List.drop 1 ([bx (γ1 0) (#[.slice p n cap]) 24])) ∧ SlO 35 Y_ q_ n_ c_ (ts.take 17)) Try.call10 (fun w hw => (short_t p n cap ts w (hts.kept hw.below) hn hcp hb).mono fun e w' ⟨q_, n_, c_, Y_, he, hO, hb, hY⟩ => ⟨_, _, he, ⟨q_, n_, c_, Y_, rfl, rfl, hO⟩, hw.join hb hY 1⟩) ?_)))))))))))))))))
 rintro v5 L5 ⟨q5, n5, c5, Y5, rfl, rfl, hO5⟩
 have hl5 := hO5.len
 have hbd5 : n5 ≤ 17 := by rw [hl5, List.length_take]; omega
 refine mo0 2 [(3, .go (owns 0 0 1))] [1] (fun γ6 => [(5, .pointer (some ⟨γ6 0, 0, none⟩))]) (fun γ6 L => bx (γ6 0) (#[.slice q5 n5 c5]) 24 :: L) (fun γ6 => on_ (ds_ (sq_ (ao_ (qo0 2 [(0, .go (owns 0 0 1))] [1] [(21, .agg #[.slice q5 n5 c5]), (22, .int .i64 k)] (cP (fun v L' => ∃ q_ n_ c_ Y_, v = .tuple #[.agg #[.slice q_ n_ c_], .agg #[.int .i64 (((leaveV (ts.take 17) k).2.1.getD zR).id), .int .i64 (((leaveV (ts.take 17) k).2.1.getD zR).each), .int .u64 (((leaveV (ts.take 17) k).2.1.getD zR).th), .int .u64 (((leaveV (ts.take 17) k).2.1.getD zR).tl), .int .u64 (((leaveV (ts.take 17) k).2.1.getD zR).tw)], .int .i64 ((leaveV (ts.take 17) k).2.2)] ∧ L' = List.take 2 (bx (γ6 0) (#[.slice q5 n5 c5]) 24 :: bx (γ1 0) (#[.slice p n cap]) 24 :: (Y5 ++ [])) ++ (Y_ ++ List.drop 2 (bx (γ6 0) (#[.slice q5 n5 c5]) 24 :: bx (γ1 0) (#[.slice p n cap]) 24 :: (Y5 ++ []))) ∧ SlO 35 Y_ q_ n_ c_ ((leaveV (ts.take 17) k).1)) Try.call27 (fun w hw => (leave_t q5 n5 c5 (ts.take 17) k w (hO5.atN (A := [_, _]) hw) hO5.len (by omega) (take_U hU)).mono fun e w' ⟨q_, n_, c_, Y_, he, hO, hb, hY⟩ => by exact ⟨_, _, he, ⟨q_, n_, c_, Y_, rfl, rfl, hO⟩, hw.join hb hY 2⟩) ?_))))))
 rintro v8 L8 ⟨q8, n8, c8, Y8, rfl, rfl, hO8⟩
 have hl8 := hO8.len
 have hbd8 : n8 ≤ 18 := by rw [hl8]; exact Nat.le_trans leave_len (by rw [← hl5]; omega)
 refine mo0 9 [(9, .go (owns 1 0 1)), (10, .go (owns 0 0 5))] [1] (fun γ9 => [(6, .pointer (some ⟨γ9 0, 0, none⟩)), (7, .pointer (some ⟨γ9 1, 0, none⟩)), (8, .int .i64 ((leaveV (ts.take 17) k).2.2))]) (fun γ9 L => bx (γ9 1) (#[.int .i64 (((leaveV (ts.take 17) k).2.1.getD zR).id), .int .i64 (((leaveV (ts.take 17) k).2.1.getD zR).each), .int .u64 (((leaveV (ts.take 17) k).2.1.getD zR).th), .int .u64 (((leaveV (ts.take 17) k).2.1.getD zR).tl), .int .u64 (((leaveV (ts.take 17) k).2.1.getD zR).tw)]) 35 :: bx (γ9 0) (#[.slice q8 n8 c8]) 24 :: L) (fun γ9 => on_ (ds_ (sq_ (sq_ ?_))))
 by_cases q11 : ((leaveV (ts.take 17) k).2.2 : Int) ≠ (0 : Int)
 ·
  refine qa [(1, .yes)] [1, 6, 7] [(28, .bool true)] ([((leaveV (ts.take 17) k).2.2 : Int) ≠ (0 : Int)]) (al1 q11) (ds_ (t_ (sq_ ?_)))
  have hz6 := leave_nil q11
  have hz7 : n8 = 0 := by rw [hl8, hz6.1]; rfl
  have hz8 : ((leaveV (ts.take 17) k).2.1.getD zR) = (⟨0, 0, 0, 0, 0⟩ : Rn) := by rw [hz6.2]; rfl
  refine qa [(1, .go (owns 1 0 1)), (3, .yes), (5, .go (owns 0 0 5)), (7, .eqs true)] [] [(4, .bool true)] ([((n8 : Nat) : Int) = (0 : Int)] ++ ([EqRun Try.prog .eql 35 (.tmp 34) (.tmp 35) (.agg #[.int .i64 (((leaveV (ts.take 17) k).2.1.getD zR).id), .int .i64 (((leaveV (ts.take 17) k).2.1.getD zR).each), .int .u64 (((leaveV (ts.take 17) k).2.1.getD zR).th), .int .u64 (((leaveV (ts.take 17) k).2.1.getD zR).tl), .int .u64 (((leaveV (ts.take 17) k).2.1.getD zR).tw)]) (.agg #[.int .i64 0, .int .i64 0, .int .u64 0, .int .u64 0, .int .u64 0]) true])) (alA (al1 (by omega)) (al1 (rn_eq_t (a := ((leaveV (ts.take 17) k).2.1.getD zR)) (b := (⟨0, 0, 0, 0, 0⟩ : Rn)) hz8))) (ds_ (rt ([]) (.bool true) ?_))
  exact fun w' hw => ⟨rfl, hw.below⟩
 ·
  refine qa [(1, .no)] [1, 6, 7] [(28, .bool false)] ([¬ (((leaveV (ts.take 17) k).2.2 : Int) ≠ (0 : Int))]) (al1 q11) (ds_ (f_ (at_skip (ds_ (sq_ (sq_ ?_))))))
  have hf := gain_facts (take_U hU) (show (leaveV (ts.take 17) k).2.2 = 0 by omega)
  refine ao_ (qo0 2 [(0, .go (owns 1 0 1))] [1, 6, 7] [(39, .agg #[.slice q8 n8 c8]), (40, .int .i64 k)] (cD (.tuple #[.agg #[.int .i64 0, .int .i64 0, .int .u64 0, .int .u64 0, .int .u64 0], .bool false]) Try.call11 (fun w hw => by have := getq_t q8 n8 c8 ((leaveV (ts.take 17) k).1) k w (hO8.atN (A := [_, _, _, _]) hw) hO8.len (by omega) (leave_U (take_U hU)) hk0 hk1; rw [hf.none] at this; exact this) (mo0 6 [(7, .go (owns 0 0 5))] [1, 6, 7] (fun γ16 => [(10, .bool false)]) (fun γ16 L => bx (γ16 0) (#[.int .i64 0, .int .i64 0, .int .u64 0, .int .u64 0, .int .u64 0]) 35 :: L) (fun γ16 => on_ (ds_ (sq_ (qa0 [] [1, 6, 7] [(44, .bool false)] (ds_ (f_ (at_skip (ds_ (sq_ (ao_ (qo0 2 [(0, .go (owns 2 0 1)), (1, .go (owns 1 0 5))] [1, 6, 7] [(46, .agg #[.slice q8 n8 c8]), (47, .agg #[.int .i64 (((leaveV (ts.take 17) k).2.1.getD zR).id), .int .i64 (((leaveV (ts.take 17) k).2.1.getD zR).each), .int .u64 (((leaveV (ts.take 17) k).2.1.getD zR).th), .int .u64 (((leaveV (ts.take 17) k).2.1.getD zR).tl), .int .u64 (((leaveV (ts.take 17) k).2.1.getD zR).tw)])] (cP (fun v L' => ∃ q_ n_ c_ Y_, v = .tuple #[.agg #[.slice q_ n_ c_], .int .i64 ((joinV ((leaveV (ts.take 17) k).1) ((leaveV (ts.take 17) k).2.1.getD zR) 0).2)] ∧ L' = List.take 5 (bx (γ16 0) (#[.int .i64 0, .int .i64 0, .int .u64 0, .int .u64 0, .int .u64 0]) 35 :: bx (γ9 1) (#[.int .i64 (((leaveV (ts.take 17) k).2.1.getD zR).id), .int .i64 (((leaveV (ts.take 17) k).2.1.getD zR).each), .int .u64 (((leaveV (ts.take 17) k).2.1.getD zR).th), .int .u64 (((leaveV (ts.take 17) k).2.1.getD zR).tl), .int .u64 (((leaveV (ts.take 17) k).2.1.getD zR).tw)]) 35 :: bx (γ9 0) (#[.slice q8 n8 c8]) 24 :: bx (γ6 0) (#[.slice q5 n5 c5]) 24 :: bx (γ1 0) (#[.slice p n cap]) 24 :: (Y8 ++ (Y5 ++ []))) ++ (Y_ ++ List.drop 5 (bx (γ16 0) (#[.int .i64 0, .int .i64 0, .int .u64 0, .int .u64 0, .int .u64 0]) 35 :: bx (γ9 1) (#[.int .i64 (((leaveV (ts.take 17) k).2.1.getD zR).id), .int .i64 (((leaveV (ts.take 17) k).2.1.getD zR).each), .int .u64 (((leaveV (ts.take 17) k).2.1.getD zR).th), .int .u64 (((leaveV (ts.take 17) k).2.1.getD zR).tl), .int .u64 (((leaveV (ts.take 17) k).2.1.getD zR).tw)]) 35 :: bx (γ9 0) (#[.slice q8 n8 c8]) 24 :: bx (γ6 0) (#[.slice q5 n5 c5]) 24 :: bx (γ1 0) (#[.slice p n cap]) 24 :: (Y8 ++ (Y5 ++ [])))) ∧ SlO 35 Y_ q_ n_ c_ ((joinV ((leaveV (ts.take 17) k).1) ((leaveV (ts.take 17) k).2.1.getD zR) 0).1)) Try.call28 (fun w hw => (join_t q8 n8 c8 ((leaveV (ts.take 17) k).1) ((leaveV (ts.take 17) k).2.1.getD zR) 0 w (hO8.atN (A := [_, _, _, _, _]) hw) hO8.len (by omega) (leave_U (take_U hU)) hf.U (by omega)).mono fun e w' ⟨q_, n_, c_, Y_, he, hO, hb, hY⟩ => by exact ⟨_, _, he, ⟨q_, n_, c_, Y_, rfl, rfl, hO⟩, hw.join hb hY 5⟩) ?_)))))))))))))))
  rintro v19 L19 ⟨q19, n19, c19, Y19, rfl, rfl, hO19⟩
  have hl19 := hO19.len
  have hbd19 : n19 ≤ 40 := by rw [hl19]; exact Nat.le_trans join_len (by rw [← hl8]; omega)
  refine mo0 6 [(7, .go (owns 0 0 1))] [1, 6, 7] (fun γ20 => [(8, .int .i64 ((joinV ((leaveV (ts.take 17) k).1) ((leaveV (ts.take 17) k).2.1.getD zR) 0).2)), (11, .pointer (some ⟨γ20 0, 0, none⟩))]) (fun γ20 L => bx (γ20 0) (#[.slice q19 n19 c19]) 24 :: L) (fun γ20 => on_ (ds_ (sq_ (sq_ ?_))))
  by_cases q22 : ((joinV ((leaveV (ts.take 17) k).1) ((leaveV (ts.take 17) k).2.1.getD zR) 0).2 : Int) ≠ (0 : Int)
  ·
   refine qa [(1, .yes)] [1, 6, 7, 8, 11] [(52, .bool true)] ([((joinV ((leaveV (ts.take 17) k).1) ((leaveV (ts.take 17) k).2.1.getD zR) 0).2 : Int) ≠ (0 : Int)]) (al1 q22) (ds_ (t_ (sq_ ?_)))
   have her := hf.err
   refine qa [(1, .yes)] [] [(4, .bool true)] ([((joinV ((leaveV (ts.take 17) k).1) ((leaveV (ts.take 17) k).2.1.getD zR) 0).2 : Int) = (131 : Int)]) (al1 (by omega)) (ds_ (rt ([]) (.bool true) ?_))
   exact fun w' hw => ⟨rfl, hw.below⟩
  ·
   refine qa [(1, .no)] [1, 6, 7, 8, 11] [(52, .bool false)] ([¬ (((joinV ((leaveV (ts.take 17) k).1) ((leaveV (ts.take 17) k).2.1.getD zR) 0).2 : Int) ≠ (0 : Int))]) (al1 q22) (ds_ (f_ (at_skip (ds_ (sq_ ?_)))))
   have he0 : (joinV ((leaveV (ts.take 17) k).1) ((leaveV (ts.take 17) k).2.1.getD zR) 0).2 = 0 := by omega
   refine ao_ (qo0 2 [(0, .go (owns 0 0 1))] [6, 7] [(56, .agg #[.slice q19 n19 c19]), (57, .int .i64 k)] (cD (.tuple #[.agg #[.int .i64 ((newR ((leaveV (ts.take 17) k).1) ((leaveV (ts.take 17) k).2.1.getD zR) 0).id), .int .i64 ((newR ((leaveV (ts.take 17) k).1) ((leaveV (ts.take 17) k).2.1.getD zR) 0).each), .int .u64 ((newR ((leaveV (ts.take 17) k).1) ((leaveV (ts.take 17) k).2.1.getD zR) 0).th), .int .u64 ((newR ((leaveV (ts.take 17) k).1) ((leaveV (ts.take 17) k).2.1.getD zR) 0).tl), .int .u64 ((newR ((leaveV (ts.take 17) k).1) ((leaveV (ts.take 17) k).2.1.getD zR) 0).tw)], .bool true]) Try.call11 (fun w hw => by have := getq_t q19 n19 c19 ((joinV ((leaveV (ts.take 17) k).1) ((leaveV (ts.take 17) k).2.1.getD zR) 0).1) k w (hO19.atN (A := [_, _, _, _, _, _]) hw) hO19.len (by omega) (join_U (leave_U (take_U hU)) hf.U (by omega)) hk0 hk1; rw [hf.get he0] at this; exact this) (mo0 6 [(7, .go (owns 0 0 5))] [6, 7] (fun γ27 => [(12, .pointer (some ⟨γ27 0, 0, none⟩)), (13, .bool true)]) (fun γ27 L => bx (γ27 0) (#[.int .i64 ((newR ((leaveV (ts.take 17) k).1) ((leaveV (ts.take 17) k).2.1.getD zR) 0).id), .int .i64 ((newR ((leaveV (ts.take 17) k).1) ((leaveV (ts.take 17) k).2.1.getD zR) 0).each), .int .u64 ((newR ((leaveV (ts.take 17) k).1) ((leaveV (ts.take 17) k).2.1.getD zR) 0).th), .int .u64 ((newR ((leaveV (ts.take 17) k).1) ((leaveV (ts.take 17) k).2.1.getD zR) 0).tl), .int .u64 ((newR ((leaveV (ts.take 17) k).1) ((leaveV (ts.take 17) k).2.1.getD zR) 0).tw)]) 35 :: L) (fun γ27 => on_ (ds_ (sq_ (ao_ (qo0 1 [(0, .go (owns 4 0 1))] [7, 12, 13] [(62, .agg #[.slice q8 n8 c8])] (cD (.tuple #[.agg #[.int .u64 ((topQ ((leaveV (ts.take 17) k).1)).1.hi), .int .u64 ((topQ ((leaveV (ts.take 17) k).1)).1.lo), .int .u64 ((topQ ((leaveV (ts.take 17) k).1)).1.w)], .bool ((topQ ((leaveV (ts.take 17) k).1)).2)]) Try.call22 (fun w hw => topq_t q8 n8 c8 ((leaveV (ts.take 17) k).1) w (hO8.atN (A := (_ :: _ :: _ :: _ :: _ :: _ :: _ :: Y19)) hw) hO8.len (by omega) (leave_U (take_U hU))) (mo0 6 [(6, .go (owns 0 0 3))] [7, 12, 13] (fun γ29 => [(14, .pointer (some ⟨γ29 0, 0, none⟩)), (15, .bool ((topQ ((leaveV (ts.take 17) k).1)).2))]) (fun γ29 L => bx (γ29 0) (#[.int .u64 ((topQ ((leaveV (ts.take 17) k).1)).1.hi), .int .u64 ((topQ ((leaveV (ts.take 17) k).1)).1.lo), .int .u64 ((topQ ((leaveV (ts.take 17) k).1)).1.w)]) 33 :: L) (fun γ29 => on_ (ds_ (sq_ (ao_ (qo0 6 [(3, .go (owns 1 2 3)), (5, .go (owns 4 2 3))] [7, 12, 14, 15] [(67, .bool true), (69, .agg #[.int .u64 ((newR ((leaveV (ts.take 17) k).1) ((leaveV (ts.take 17) k).2.1.getD zR) 0).th), .int .u64 ((newR ((leaveV (ts.take 17) k).1) ((leaveV (ts.take 17) k).2.1.getD zR) 0).tl), .int .u64 ((newR ((leaveV (ts.take 17) k).1) ((leaveV (ts.take 17) k).2.1.getD zR) 0).tw)]), (71, .agg #[.int .u64 (((leaveV (ts.take 17) k).2.1.getD zR).th), .int .u64 (((leaveV (ts.take 17) k).2.1.getD zR).tl), .int .u64 (((leaveV (ts.take 17) k).2.1.getD zR).tw)])] ?_)))))))))))))))
   refine cD (.int .i64 (cmpF ((newR ((leaveV (ts.take 17) k).1) ((leaveV (ts.take 17) k).2.1.getD zR) 0).t) (((leaveV (ts.take 17) k).2.1.getD zR).t))) Try.call13 (fun w hw => fcmp_t ((newR ((leaveV (ts.take 17) k).1) ((leaveV (ts.take 17) k).2.1.getD zR) 0).t) (((leaveV (ts.take 17) k).2.1.getD zR).t) w (hf.nU he0).t hf.U.t) ?_
   by_cases q32 : ((cmpF ((newR ((leaveV (ts.take 17) k).1) ((leaveV (ts.take 17) k).2.1.getD zR) 0).t) (((leaveV (ts.take 17) k).2.1.getD zR).t)) : Int) ≥ (0 : Int)
   ·
    rcases q34 : (topQ ((leaveV (ts.take 17) k).1)).2 with _ | _
    ·
     refine qo 24 [(7, .yes)] [] [(4, .bool true)] ([((cmpF ((newR ((leaveV (ts.take 17) k).1) ((leaveV (ts.take 17) k).2.1.getD zR) 0).t) (((leaveV (ts.take 17) k).2.1.getD zR).t)) : Int) ≥ (0 : Int)]) (al1 q32) (on_ (ds_ (rt ([]) (.bool true) ?_)))
     exact fun w' hw => ⟨rfl, hw.below⟩
    ·
     refine qo 19 [(7, .yes), (24, .go (owns 1 2 3)), (25, .go (owns 0 0 3))] [] [(85, .bool true), (88, .bool false), (90, .agg #[.int .u64 ((newR ((leaveV (ts.take 17) k).1) ((leaveV (ts.take 17) k).2.1.getD zR) 0).th), .int .u64 ((newR ((leaveV (ts.take 17) k).1) ((leaveV (ts.take 17) k).2.1.getD zR) 0).tl), .int .u64 ((newR ((leaveV (ts.take 17) k).1) ((leaveV (ts.take 17) k).2.1.getD zR) 0).tw)]), (91, .agg #[.int .u64 ((topQ ((leaveV (ts.take 17) k).1)).1.hi), .int .u64 ((topQ ((leaveV (ts.take 17) k).1)).1.lo), .int .u64 ((topQ ((leaveV (ts.take 17) k).1)).1.w)])] ([((cmpF ((newR ((leaveV (ts.take 17) k).1) ((leaveV (ts.take 17) k).2.1.getD zR) 0).t) (((leaveV (ts.take 17) k).2.1.getD zR).t)) : Int) ≥ (0 : Int)]) (al1 q32) (cD (.int .i64 (cmpF ((newR ((leaveV (ts.take 17) k).1) ((leaveV (ts.take 17) k).2.1.getD zR) 0).t) ((topQ ((leaveV (ts.take 17) k).1)).1))) Try.call13 (fun w hw => fcmp_t ((newR ((leaveV (ts.take 17) k).1) ((leaveV (ts.take 17) k).2.1.getD zR) 0).t) ((topQ ((leaveV (ts.take 17) k).1)).1) w (hf.nU he0).t (topQ_U hf.UL)) ?_)
     by_cases q38 : ((cmpF ((newR ((leaveV (ts.take 17) k).1) ((leaveV (ts.take 17) k).2.1.getD zR) 0).t) ((topQ ((leaveV (ts.take 17) k).1)).1)) : Int) ≥ (0 : Int)
     ·
      refine qo 4 [(27, .yes)] [] [(4, .bool true)] ([((cmpF ((newR ((leaveV (ts.take 17) k).1) ((leaveV (ts.take 17) k).2.1.getD zR) 0).t) ((topQ ((leaveV (ts.take 17) k).1)).1)) : Int) ≥ (0 : Int)]) (al1 q38) (on_ (ds_ (rt ([]) (.bool true) ?_)))
      exact fun w' hw => ⟨rfl, hw.below⟩
     ·
      refine qo 4 [(27, .no)] [] [(4, .bool false)] ([¬ (((cmpF ((newR ((leaveV (ts.take 17) k).1) ((leaveV (ts.take 17) k).2.1.getD zR) 0).t) ((topQ ((leaveV (ts.take 17) k).1)).1)) : Int) ≥ (0 : Int))]) (al1 q38) (on_ (ds_ (rt ([]) (.bool false) ?_)))
      exfalso
      rcases hf.ge he0 with h9 | ⟨h9, h10⟩ <;> first | omega | (have h7 := hf.top he0 q34; omega)
   ·
    rcases q42 : (topQ ((leaveV (ts.take 17) k).1)).2 with _ | _
    ·
     refine qo 24 [(7, .no)] [] [(4, .bool false)] ([¬ (((cmpF ((newR ((leaveV (ts.take 17) k).1) ((leaveV (ts.take 17) k).2.1.getD zR) 0).t) (((leaveV (ts.take 17) k).2.1.getD zR).t)) : Int) ≥ (0 : Int))]) (al1 q32) (on_ (ds_ (rt ([]) (.bool false) ?_)))
     exfalso
     rcases hf.ge he0 with h9 | ⟨h9, h10⟩ <;> first | omega | (rw [q42] at h9; cases h9)
    ·
     refine qo 7 [(7, .no), (12, .go (owns 4 2 3)), (13, .go (owns 0 0 3))] [12, 14, 15, 67] [(74, .bool false), (76, .bool true), (78, .agg #[.int .u64 (((leaveV (ts.take 17) k).2.1.getD zR).th), .int .u64 (((leaveV (ts.take 17) k).2.1.getD zR).tl), .int .u64 (((leaveV (ts.take 17) k).2.1.getD zR).tw)]), (79, .agg #[.int .u64 ((topQ ((leaveV (ts.take 17) k).1)).1.hi), .int .u64 ((topQ ((leaveV (ts.take 17) k).1)).1.lo), .int .u64 ((topQ ((leaveV (ts.take 17) k).1)).1.w)])] ([¬ (((cmpF ((newR ((leaveV (ts.take 17) k).1) ((leaveV (ts.take 17) k).2.1.getD zR) 0).t) (((leaveV (ts.take 17) k).2.1.getD zR).t)) : Int) ≥ (0 : Int))]) (al1 q32) (cD (.int .i64 (cmpF (((leaveV (ts.take 17) k).2.1.getD zR).t) ((topQ ((leaveV (ts.take 17) k).1)).1))) Try.call13 (fun w hw => fcmp_t (((leaveV (ts.take 17) k).2.1.getD zR).t) ((topQ ((leaveV (ts.take 17) k).1)).1) w hf.U.t (topQ_U hf.UL)) ?_)
     by_cases q46 : ((cmpF (((leaveV (ts.take 17) k).2.1.getD zR).t) ((topQ ((leaveV (ts.take 17) k).1)).1)) : Int) > (0 : Int)
     ·
      refine qo 11 [(15, .yes), (24, .go (owns 1 2 3)), (25, .go (owns 0 0 3))] [] [(85, .bool true), (88, .bool false), (90, .agg #[.int .u64 ((newR ((leaveV (ts.take 17) k).1) ((leaveV (ts.take 17) k).2.1.getD zR) 0).th), .int .u64 ((newR ((leaveV (ts.take 17) k).1) ((leaveV (ts.take 17) k).2.1.getD zR) 0).tl), .int .u64 ((newR ((leaveV (ts.take 17) k).1) ((leaveV (ts.take 17) k).2.1.getD zR) 0).tw)]), (91, .agg #[.int .u64 ((topQ ((leaveV (ts.take 17) k).1)).1.hi), .int .u64 ((topQ ((leaveV (ts.take 17) k).1)).1.lo), .int .u64 ((topQ ((leaveV (ts.take 17) k).1)).1.w)])] ([((cmpF (((leaveV (ts.take 17) k).2.1.getD zR).t) ((topQ ((leaveV (ts.take 17) k).1)).1)) : Int) > (0 : Int)]) (al1 q46) (cD (.int .i64 (cmpF ((newR ((leaveV (ts.take 17) k).1) ((leaveV (ts.take 17) k).2.1.getD zR) 0).t) ((topQ ((leaveV (ts.take 17) k).1)).1))) Try.call13 (fun w hw => fcmp_t ((newR ((leaveV (ts.take 17) k).1) ((leaveV (ts.take 17) k).2.1.getD zR) 0).t) ((topQ ((leaveV (ts.take 17) k).1)).1) w (hf.nU he0).t (topQ_U hf.UL)) ?_)
      by_cases q49 : ((cmpF ((newR ((leaveV (ts.take 17) k).1) ((leaveV (ts.take 17) k).2.1.getD zR) 0).t) ((topQ ((leaveV (ts.take 17) k).1)).1)) : Int) ≥ (0 : Int)
      ·
       refine qo 4 [(27, .yes)] [] [(4, .bool true)] ([((cmpF ((newR ((leaveV (ts.take 17) k).1) ((leaveV (ts.take 17) k).2.1.getD zR) 0).t) ((topQ ((leaveV (ts.take 17) k).1)).1)) : Int) ≥ (0 : Int)]) (al1 q49) (on_ (ds_ (rt ([]) (.bool true) ?_)))
       exact fun w' hw => ⟨rfl, hw.below⟩
      ·
       refine qo 4 [(27, .no)] [] [(4, .bool false)] ([¬ (((cmpF ((newR ((leaveV (ts.take 17) k).1) ((leaveV (ts.take 17) k).2.1.getD zR) 0).t) ((topQ ((leaveV (ts.take 17) k).1)).1)) : Int) ≥ (0 : Int))]) (al1 q49) (on_ (ds_ (rt ([]) (.bool false) ?_)))
       exfalso
       rcases hf.ge he0 with h9 | ⟨h9, h10⟩ <;> first | omega | (have h7 := hf.top he0 q42; omega)
     ·
      refine qo 16 [(15, .no)] [] [(4, .bool false)] ([¬ (((cmpF (((leaveV (ts.take 17) k).2.1.getD zR).t) ((topQ ((leaveV (ts.take 17) k).1)).1)) : Int) > (0 : Int))]) (al1 q46) (on_ (ds_ (rt ([]) (.bool false) ?_)))
      exfalso
      rcases hf.ge he0 with h9 | ⟨h9, h10⟩ <;> first | omega | (have h7 := hf.top he0 q42; omega)
end Go.Proofs.Ytnhkecfapohlgaa

/-! The walker: what a row's inputs are: slices and structs, opened into lists. -/
namespace Go.Proofs.Ytnhkecfapohlgaa
open Go Go.RowKit

section
variable {H : Type} {enc : TypeId × Value → H} {P : Program} {w : World} {base : Nat} {spare : Nat → Bool} {held : Bool}
theorem spot_none {a : Addr} (h : a.spot = none) : a = ⟨a.block, a.off, none⟩ := by
  cases a
  simp at h
  simp [h]
theorem trod_sv {α : Type} [Enc α] {t e : TypeId} {fuel : Nat} {cs : List Value} {x : DataW H × List MemPlace} {Good : α → Prop} (ht : P.underlying t = some (.slice e)) (hc : P.cellsOf e = Enc.k α)
    (hopen : ∀ (fuel : Nat) (cs : List Value) (x : DataW H × List MemPlace), DataW.trod enc P w base spare held fuel e cs = some x → ∃ a : α, cs = Enc.enc a ∧ Good a) (h : DataW.trod enc P w base spare held fuel t cs = some x) :
    ∃ (p : Option Addr) (n cap : Nat) (l : List α), cs = [.slice p n cap] ∧ Sv w p l ∧ n = l.length ∧ n ≤ cap ∧ cap ≤ maxLen ∧ ∀ y ∈ l, Good y := by
  rcases Deep.open_slice ht h with ⟨hcs, _⟩ | ⟨a, len, cap, m, n', D, Pl, hcs, _, hle, hmx, hm, _, hi⟩
  · exact ⟨none, 0, 0, [], hcs, Sv.nil, rfl, Nat.le_refl _, Nat.zero_le _, fun y hy => by cases hy⟩
  · have key : ∀ i, i < len → ∃ y : α, w.cells? base (a.add (i * Enc.k α)) (Enc.k α) = some (Enc.enc y) ∧ Good y := fun i hin => by
      have him : i < m := by rw [hm]; split <;> omega
      obtain ⟨cs', h1, h2⟩ := hi i him
      obtain ⟨y, rfl, hy⟩ := hopen _ _ _ h2
      rw [hc] at h1
      exact ⟨y, h1, hy⟩
    rcases Nat.eq_zero_or_pos len with h0 | h0
    · subst h0
      exact ⟨some a, 0, cap, [], hcs, Sv.nil, rfl, hle, hmx, fun y hy => by cases hy⟩
    · obtain ⟨y0, hy0, _⟩ := key 0 h0
      haveI : Inhabited α := ⟨y0⟩
      obtain ⟨f, hf⟩ := Deep.choose_lt key
      obtain ⟨_, _, hcell⟩ := World.cells?_some hy0
      have h00 := hcell 0 Enc.pos
      have hlen0 : 0 < (Enc.enc y0).length := by rw [Enc.len]; exact Enc.pos
      rw [List.getElem?_eq_getElem hlen0, Nat.zero_mul, show (a.add 0).add 0 = a by simp [Addr.add]] at h00
      have hsp := spot_none (World.cell?_spot h00)
      refine ⟨some a, len, cap, (List.range len).map f, hcs, ⟨fun _ => ⟨a.block, a.off, by rw [← hsp]⟩, fun b o hbo i hil => ?_⟩, by simp, hle, hmx, fun y hy => ?_⟩
      · have hil' : i < len := by simpa using hil
        obtain ⟨_, _, hc2⟩ := World.cells?_some (hf i hil').1
        have ha : a = ⟨b, o, none⟩ := by simpa using hbo
        subst ha
        intro j v hj
        have hjk : j < Enc.k α := by rw [← Enc.len (f i)]; have := (List.getElem?_eq_some_iff.1 hj).1; simpa using this
        have h3 := hc2 j hjk
        rw [Deep.add_add] at h3
        have h4 : (Enc.enc (f i))[j]? = some v := by simpa using hj
        rw [h4] at h3
        have h5 : (⟨b, o, none⟩ : Addr).add (i * Enc.k α + j) = ⟨b, o + i * Enc.k α + j, none⟩ := by
          unfold Addr.add; split <;> simp_all <;> omega
        rw [h5] at h3
        exact h3
      · obtain ⟨i, hir, rfl⟩ := List.mem_map.1 hy
        exact (hf i (List.mem_range.1 hir)).2
theorem list2' {α : Type} {cs : List α} (h : cs.length = 2) : ∃ c0 c1, cs = [c0, c1] := by
  match cs, h with
  | [a, b], _ => exact ⟨a, b, rfl⟩
end
end Go.Proofs.Ytnhkecfapohlgaa

/-! Chapter 10: what the rows' inputs are. -/
namespace Go.Proofs.Ytnhkecfapohlgaa
open Go Go.RowKit Go.ChangeShapes Go.WideShapes

section
variable {H : Type} {enc : TypeId × Value → H} {w : World} {base : Nat} {spare : Nat → Bool} {held : Bool}
theorem cInt0 : Try.prog.cellsOf 3 = 1 := by kernel_rfl
theorem cU64 : Try.prog.cellsOf 25 = 1 := by kernel_rfl
theorem cWid : Try.prog.cellsOf 31 = 2 := by kernel_rfl
theorem cFra : Try.prog.cellsOf 33 = 3 := by kernel_rfl
theorem cRun : Try.prog.cellsOf 35 = 5 := by kernel_rfl
theorem cRuns : Try.prog.cellsOf 22 = 1 := by kernel_rfl
theorem cQue : Try.prog.cellsOf 24 = 1 := by kernel_rfl
theorem list3u {α : Type} {cs : List α} (h : cs.length = 3) : ∃ a b c, cs = [a, b, c] := by
  match cs, h with
  | [a, b, c], _ => exact ⟨a, b, c, rfl⟩
theorem list5u {α : Type} {cs : List α} (h : cs.length = 5) : ∃ a b c d e, cs = [a, b, c, d, e] := by
  match cs, h with
  | [a, b, c, d, e], _ => exact ⟨a, b, c, d, e, rfl⟩
theorem u64_wf {n : Int} (h : (Lit.int .u64 n).wf = true) : 0 ≤ n ∧ n < 18446744073709551616 := by
  simp only [Lit.wf, Bool.and_eq_true, decide_eq_true_eq] at h
  have h1 : (0 : Int) ≤ n := h.1
  have h2 : n ≤ 18446744073709551615 := h.2
  omega
theorem i64_wf {n : Int} (h : (Lit.int .i64 n).wf = true) : -9223372036854775808 ≤ n ∧ n ≤ 9223372036854775807 := by
  simp only [Lit.wf, Bool.and_eq_true, decide_eq_true_eq] at h
  exact ⟨h.1, h.2⟩
set_option maxRecDepth 100000 in
theorem wide_open {fuel : Nat} {cs : List Value} {x : DataW H × List MemPlace} (h : DataW.trod enc Try.prog w base spare held fuel 31 cs = some x) : ∃ a b : Int, cs = [.int .u64 a, .int .u64 b] ∧ (0 ≤ a ∧ a < 18446744073709551616) ∧ (0 ≤ b ∧ b < 18446744073709551616) := by
  obtain ⟨xs, n, _, rfl, hl, hlen, hf⟩ := DataW.trod_struct Try.underlying31 h
  rw [cWid] at hl
  obtain ⟨c0, c1, rfl⟩ := list2' hl
  obtain ⟨y0, y1, rfl⟩ := list2' hlen
  have h0 : DataW.trod enc Try.prog w base spare held n 25 (([c0, c1].drop 0).take (Try.prog.cellsOf 25)) = some y0 := hf 0 _ rfl
  have h1 : DataW.trod enc Try.prog w base spare held n 25 (([c0, c1].drop 1).take (Try.prog.cellsOf 25)) = some y1 := hf 1 _ rfl
  clear hf hl hlen h
  rw [cU64] at h0 h1
  simp only [List.drop_zero, List.take_succ_cons, List.take_zero, List.drop_succ_cons] at h0 h1
  obtain ⟨a, e0, _, f0⟩ := DataW.trod_int Try.underlying25 h0
  obtain ⟨b, e1, _, f1⟩ := DataW.trod_int Try.underlying25 h1
  simp only [List.cons.injEq, and_true] at e0 e1
  subst e0; subst e1
  exact ⟨a, b, rfl, u64_wf f0, u64_wf f1⟩
set_option maxRecDepth 100000 in
theorem fq_open {fuel : Nat} {cs : List Value} {x : DataW H × List MemPlace} (h : DataW.trod enc Try.prog w base spare held fuel 33 cs = some x) : ∃ a : Fq, cs = Enc.enc a ∧ a.U := by
  obtain ⟨xs, n, _, rfl, hl, hlen, hf⟩ := DataW.trod_struct Try.underlying33 h
  rw [cFra] at hl
  obtain ⟨c0, c1, c2, rfl⟩ := list3u hl
  obtain ⟨y0, y1, rfl⟩ := list2' hlen
  have h0 : DataW.trod enc Try.prog w base spare held n 31 (([c0, c1, c2].drop 0).take (Try.prog.cellsOf 31)) = some y0 := hf 0 _ rfl
  have h1 : DataW.trod enc Try.prog w base spare held n 25 (([c0, c1, c2].drop 2).take (Try.prog.cellsOf 25)) = some y1 := hf 1 _ rfl
  clear hf hl hlen h
  rw [cWid] at h0
  rw [cU64] at h1
  simp only [List.drop_zero, List.take_succ_cons, List.take_zero, List.drop_succ_cons] at h0 h1
  obtain ⟨a, b, e0, fa, fb⟩ := wide_open h0
  obtain ⟨c, e1, _, f1⟩ := DataW.trod_int Try.underlying25 h1
  simp only [List.cons.injEq, and_true] at e0 e1
  obtain ⟨rfl, rfl⟩ := e0
  subst e1
  have fc := u64_wf f1
  exact ⟨⟨a, b, c⟩, rfl, ⟨fa.1, fa.2, fb.1, fb.2, fc.1, fc.2⟩⟩
set_option maxRecDepth 100000 in
theorem rn_open {fuel : Nat} {cs : List Value} {x : DataW H × List MemPlace} (h : DataW.trod enc Try.prog w base spare held fuel 35 cs = some x) : ∃ a : Rn, cs = Enc.enc a ∧ a.U := by
  obtain ⟨xs, n, _, rfl, hl, hlen, hf⟩ := DataW.trod_struct Try.underlying35 h
  rw [cRun] at hl
  obtain ⟨c0, c1, c2, c3, c4, rfl⟩ := list5u hl
  obtain ⟨y0, y1, y2, rfl⟩ := list3u hlen
  have h0 : DataW.trod enc Try.prog w base spare held n 3 (([c0, c1, c2, c3, c4].drop 0).take (Try.prog.cellsOf 3)) = some y0 := hf 0 _ rfl
  have h1 : DataW.trod enc Try.prog w base spare held n 3 (([c0, c1, c2, c3, c4].drop 1).take (Try.prog.cellsOf 3)) = some y1 := hf 1 _ rfl
  have h2 : DataW.trod enc Try.prog w base spare held n 33 (([c0, c1, c2, c3, c4].drop 2).take (Try.prog.cellsOf 33)) = some y2 := hf 2 _ rfl
  clear hf hl hlen h
  rw [cInt0] at h0 h1
  rw [cFra] at h2
  simp only [List.drop_zero, List.take_succ_cons, List.take_zero, List.drop_succ_cons] at h0 h1 h2
  obtain ⟨a, e0, _, f0⟩ := DataW.trod_int Try.underlying3 h0
  obtain ⟨b, e1, _, f1⟩ := DataW.trod_int Try.underlying3 h1
  obtain ⟨t, e2, ht⟩ := fq_open h2
  simp only [List.cons.injEq, and_true] at e0 e1
  subst e0; subst e1
  have e2' : [c2, c3, c4] = [.int .u64 t.hi, .int .u64 t.lo, .int .u64 t.w] := e2
  simp only [List.cons.injEq, and_true] at e2'
  obtain ⟨rfl, rfl, rfl⟩ := e2'
  have g0 := i64_wf f0
  have g1 := i64_wf f1
  exact ⟨⟨a, b, t.hi, t.lo, t.w⟩, rfl, ⟨g0.1, g0.2, g1.1, g1.2, ht⟩⟩
set_option maxRecDepth 100000 in
theorem queue_open {v : Value} {d : DataW H} {pl : List MemPlace} (hv : Value.okWide Try.prog w .any base 24 v) (h : DataW.Trod enc Try.prog w 0 spare held 24 v d pl) :
    ∃ (p : Option Addr) (n cap : Nat) (ts : List Rn), v = .agg #[.slice p n cap] ∧ Sv w p ts ∧ n = ts.length ∧ n ≤ cap ∧ cap ≤ 9223372036854775807 ∧ ∀ r ∈ ts, r.U := by
  obtain ⟨cs, rfl, hsz⟩ := okWide_struct Try.underlying24 hv
  obtain ⟨fuel, hf⟩ := h
  obtain ⟨xs, n, _, _, hl, hlen, hf⟩ := DataW.trod_struct Try.underlying24 hf
  obtain ⟨y0, rfl⟩ := List.length_eq_one_iff.1 hlen
  have h0 : DataW.trod enc Try.prog w 0 spare held n 22 ((((Value.agg cs).cells.toList).drop 0).take (Try.prog.cellsOf 22)) = some y0 := hf 0 _ rfl
  rw [cQue] at hl
  obtain ⟨c0, hc0⟩ := List.length_eq_one_iff.1 hl
  rw [hc0, cRuns] at h0
  simp only [List.drop_zero, List.take_succ_cons, List.take_zero] at h0
  obtain ⟨q, m, capv, l2, he2, hs2, hm, hle2, hmx2, hw⟩ := trod_sv (α := Rn) (Good := fun r => r.U) Try.underlying22 cRun (fun _ _ _ h => rn_open h) h0
  simp only [List.cons.injEq, and_true] at he2
  subst he2
  refine ⟨q, m, capv, l2, ?_, hs2, hm, hle2, hmx2, hw⟩
  congr 1
  exact Array.toList_inj.1 (by simpa [Value.cells] using hc0)
set_option maxRecDepth 100000 in
theorem intR_open {v : Value} {d : DataW H} {pl : List MemPlace} (hv : Value.okWide Try.prog w .any base 3 v) (h : DataW.Trod enc Try.prog w 0 spare held 3 v d pl) : ∃ k : Int, v = .int .i64 k ∧ -9223372036854775808 ≤ k ∧ k ≤ 9223372036854775807 := by
  obtain ⟨k, rfl⟩ := okWide_int Try.underlying3 hv
  obtain ⟨fuel, hf⟩ := h
  obtain ⟨z, e, _, f⟩ := DataW.trod_int Try.underlying3 hf
  have ez : k = z := by simpa [Value.cells] using e
  subst ez
  exact ⟨k, rfl, i64_wf f⟩
end
end Go.Proofs.Ytnhkecfapohlgaa
