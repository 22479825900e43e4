/- Texts of this proof, one behind the other. -/
import Derived.Test.YtnhkecfapohlgaaZd
import Derived.Test.YtnhkecfapohlgaaZc
import Derived.Test.YtnhkecfapohlgaaZb
import Derived.Test.YtnhkecfapohlgaaZa
import Derived.ProofKit
import Derived.Carry
import Derived.Deep.Slices
import Derived.Lib.SmallJoins
import Derived.Test.YtnhkecfapohlgaaProg
/-! Queues: Weigh. -/
namespace Go.Proofs.Ytnhkecfapohlgaa
open Go Go.RowKit

set_option maxRecDepth 100000 in
theorem weigh_t (p : Option Addr) (n cap : Nat) (ts : List Rn) (pi : Option Addr) (m capi : Nat) (il : List Int) (wt many : Int) (w : World)
 (hts : Sv w p ts) (hn : n = ts.length) (hb : n ≤ 1000)
 (hU : ∀ r ∈ ts, r.U)
 (hil : Sv w pi il) (hmi : m = il.length) (hbi : m ≤ 1000)
 : Calls Try.prog 12 #[.agg #[.slice p n cap], .slice pi m capi, .int .u64 wt, .int .i64 many] w fun e w' => ∃ q' n' c' Y, e = .returned (.tuple #[.agg #[.slice q' n' c'], .int .i64 (weighV ts il wt many).2]) ∧ SlO 35 Y q' n' c' (weighV ts il wt many).1 ∧ Below w.heap.size w w' ∧ Hs w Y w' := by
 refine enter (Hs.start w) Try.func12 rfl Try.ntmps12 rfl (sq_ (ma0 [] [1] (fun γ1 => [(4, .pointer (some ⟨γ1 0, 0, none⟩)), (6, .pointer (some ⟨γ1 1, 0, none⟩)), (7, .pointer (some ⟨γ1 2, 0, none⟩)), (8, .pointer (some ⟨γ1 3, 0, none⟩))]) (fun γ1 L => bx (γ1 3) (#[.slice none 0 0]) 24 :: bx (γ1 2) (#[.int .i64 many]) 3 :: bx (γ1 1) (#[.int .u64 wt]) 25 :: bx (γ1 0) (#[.slice p n cap]) 24 :: L) (fun γ1 => ds_ (sq_ ?_))))
 by_cases q3 : (wt : Int) ≥ (1 : Int)
 ·
  by_cases q5 : (wt : Int) ≤ (65535 : Int)
  ·
   refine ao_ (qo 8 [(0, .go (owns 2 0 1)), (1, .yes), (3, .go (owns 2 0 1)), (4, .yes), (7, .go (owns 1 0 1))] [1, 4, 6, 7, 8] [(17, .bool true), (18, .int .i64 many)] ([(wt : Int) ≥ (1 : Int)] ++ ([(wt : Int) ≤ (65535 : Int)])) (alA (al1 q3) (al1 q5)) ?_)
   rcases q7 : eachV many with _ | _
   ·
    refine cD (.bool false) Try.call35 (fun w hw => by have := each_t many w; rw [q7] at this; exact this) (qo0 2 [] [1, 4, 6, 7, 8] [(10, .bool false)] (on_ (ds_ (sq_ (ao_ (qo0 4 [(0, .go (owns 3 0 1))] [8] [(21, .agg #[.slice p n cap]), (22, .bool false), (23, .slice pi m capi), (24, .func (.func 37) #[] #[.pointer (some ⟨γ1 2, 0, none⟩), .pointer (some ⟨γ1 1, 0, none⟩)])] (ops_inline (g := 36) (args := #[.agg #[.slice p n cap], .bool false, .slice pi m capi, .func (.func 37) #[] #[.pointer (some ⟨γ1 2, 0, none⟩), .pointer (some ⟨γ1 1, 0, none⟩)]]) (by kernel_rfl) (by kernel_rfl) (by kernel_rfl) (fun args w => Try.call36 args w) Try.func36 rfl Try.ntmps36 rfl (sq_ (ma0 [] [] (fun γ10 => [(4, .pointer (some ⟨γ10 0, 0, none⟩)), (5, .pointer (some ⟨γ10 1, 0, none⟩)), (6, .pointer (some ⟨γ10 2, 0, none⟩)), (7, .pointer (some ⟨γ10 3, 0, none⟩)), (8, .pointer (some ⟨γ10 4, 0, none⟩))]) (fun γ10 L => bx (γ10 4) (#[.slice none 0 0]) 24 :: bx (γ10 3) (#[.func (.func 37) #[] #[.pointer (some ⟨γ1 2, 0, none⟩), .pointer (some ⟨γ1 1, 0, none⟩)]]) 77 :: bx (γ10 2) (#[.slice pi m capi]) 41 :: bx (γ10 1) (#[.bool false]) 4 :: bx (γ10 0) (#[.slice p n cap]) 24 :: L) (fun γ10 => ds_ (sq_ (ao_ (qo0 2 [(0, .go (owns 4 0 1))] [8] [(10, .agg #[.slice p n cap]), (11, .func (.func 68) #[] #[.pointer (some ⟨γ10 1, 0, none⟩), .pointer (some ⟨γ10 2, 0, none⟩), .pointer (some ⟨γ10 3, 0, none⟩)])] (ops_inline (g := 56) (args := #[.agg #[.slice p n cap], .func (.func 68) #[] #[.pointer (some ⟨γ10 1, 0, none⟩), .pointer (some ⟨γ10 2, 0, none⟩), .pointer (some ⟨γ10 3, 0, none⟩)]]) (by kernel_rfl) (by kernel_rfl) (by kernel_rfl) (fun args w => Try.call56 args w) Try.func56 rfl Try.ntmps56 rfl (sq_ (ma0 [] [1] (fun γ12 => [(2, .pointer (some ⟨γ12 0, 0, none⟩)), (4, .pointer (some ⟨γ12 1, 0, none⟩))]) (fun γ12 L => bx (γ12 1) (#[.slice none 0 0]) 24 :: bx (γ12 0) (#[.slice p n cap]) 24 :: L) (fun γ12 => ds_ (sq_ (sq_ (ao_ (qo0 1 [(0, .go (owns 1 0 1))] [1, 2, 4] [(9, .agg #[.slice p n cap])] ?_)))))))))))))))))))))
    rcases q14 : chkQ ts with _ | _
    ·
     refine cD (.int .i64 200) Try.call20 (fun w hw => by have := qcheck_t p n cap ts w (hts.kept hw.below) hn (by omega); rw [q14] at this; exact this) (qo0 1 [] [1, 2, 4] [(6, .int .i64 200)] (on_ (ds_ (sq_ (qa0 [] [1, 2, 4, 6] [(12, .bool true)] (ds_ (t_ (sq_ (qa0 [(2, .go (owns 0 0 1))] [4] [(5, .int .i64 200)] (ds_ (bk (owns 0 0 1) (.tuple #[.agg #[.slice none 0 0], .int .i64 200]) (qo0 4 [(5, .go (owns 2 0 1))] [8] [(9, .int .i64 200)] (on_ (ds_ (bk (owns 2 0 1) (.tuple #[.agg #[.slice none 0 0], .int .i64 200]) (qo0 4 [(7, .go (owns 7 0 1))] [8] [(9, .int .i64 200)] (on_ (ds_ (rt (owns 7 0 1) (.tuple #[.agg #[.slice none 0 0], .int .i64 200]) ?_)))))))))))))))))))
     exact fun w' hw => by rw [show weighV ts il wt many = alterV (weighF wt many) ts (wB wt && eachV many) il from rfl, alter_bad q14]; exact ⟨none, 0, 0, [], rfl, SlO.nil, hw.below, hw.sub (List.nil_sublist _)⟩
    ·
     refine cD (.int .i64 0) Try.call20 (fun w hw => by have := qcheck_t p n cap ts w (hts.kept hw.below) hn (by omega); rw [q14] at this; exact this) (qo0 1 [] [1, 2, 4] [(6, .int .i64 0)] (on_ (ds_ (sq_ (qa0 [] [1, 2, 4, 6] [(12, .bool false)] (ds_ (f_ (at_skip (ds_ (sq_ ?_))))))))))
     have hgq := chk_iff.1 q14
     have hlq := hgq.len
     refine ao_ (qo0 2 [(1, .go (owns 1 0 1))] [1, 4] [(16, .slice p n cap)] (cP (fun v L' => ∃ q_ c_ Y_, v = .slice q_ n c_ ∧ L' = List.take 11 ([bx (γ12 1) (#[.slice none 0 0]) 24, bx (γ12 0) (#[.slice p n cap]) 24, bx (γ10 4) (#[.slice none 0 0]) 24, bx (γ10 3) (#[.func (.func 37) #[] #[.pointer (some ⟨γ1 2, 0, none⟩), .pointer (some ⟨γ1 1, 0, none⟩)]]) 77, bx (γ10 2) (#[.slice pi m capi]) 41, bx (γ10 1) (#[.bool false]) 4, bx (γ10 0) (#[.slice p n cap]) 24, bx (γ1 3) (#[.slice none 0 0]) 24, bx (γ1 2) (#[.int .i64 many]) 3, bx (γ1 1) (#[.int .u64 wt]) 25, bx (γ1 0) (#[.slice p n cap]) 24]) ++ (Y_ ++ List.drop 11 ([bx (γ12 1) (#[.slice none 0 0]) 24, bx (γ12 0) (#[.slice p n cap]) 24, bx (γ10 4) (#[.slice none 0 0]) 24, bx (γ10 3) (#[.func (.func 37) #[] #[.pointer (some ⟨γ1 2, 0, none⟩), .pointer (some ⟨γ1 1, 0, none⟩)]]) 77, bx (γ10 2) (#[.slice pi m capi]) 41, bx (γ10 1) (#[.bool false]) 4, bx (γ10 0) (#[.slice p n cap]) 24, bx (γ1 3) (#[.slice none 0 0]) 24, bx (γ1 2) (#[.int .i64 many]) 3, bx (γ1 1) (#[.int .u64 wt]) 25, bx (γ1 0) (#[.slice p n cap]) 24])) ∧ SlO 35 Y_ q_ n c_ ts) Try.call78 (fun w hw => (qclone_t p n cap ts w (hts.kept hw.below) hn (by omega)).mono fun e w' ⟨q_, c_, Y_, he, hO, hb, hY⟩ => ⟨_, _, he, ⟨q_, c_, Y_, rfl, rfl, hO⟩, hw.join hb hY 11⟩) ?_))
     rintro v23 L23 ⟨q23, cq23, Y23, rfl, rfl, hO23⟩
     refine mo0 3 [(5, .go (owns 0 0 1))] [1, 4] (fun γ24 => [(7, .pointer (some ⟨γ24 0, 0, none⟩))]) (fun γ24 L => bx (γ24 0) (#[.slice q23 n cq23]) 24 :: L) (fun γ24 => on_ (ds_ (sq_ (sq_ (ao_ (qo0 1 [] [4, 7] [(19, .func (.func 68) #[] #[.pointer (some ⟨γ10 1, 0, none⟩), .pointer (some ⟨γ10 2, 0, none⟩), .pointer (some ⟨γ10 3, 0, none⟩)])] (ops_inline (g := 68) (args := #[.pointer (some ⟨γ24 0, 0, none⟩), .pointer (some ⟨γ10 1, 0, none⟩), .pointer (some ⟨γ10 2, 0, none⟩), .pointer (some ⟨γ10 3, 0, none⟩)]) (by kernel_rfl) (by kernel_rfl) (by kernel_rfl) (fun args w => Try.call68 args w) Try.func68 rfl Try.ntmps68 rfl (sq_ (qa0 [] [0, 1, 2, 3] [] (ds_ (sq_ (sq_ (qa0 [(0, .go (owns 6 0 1))] [0, 2, 3] [(11, .bool true)] (ds_ (t_ (sq_ (qa0 [] [] [(5, .int .i64 2)] (ds_ (bk ([]) (.int .i64 2) (qo0 1 [] [4, 7] [(8, .int .i64 2)] (on_ (ds_ (sq_ (qa0 [] [4, 7, 8] [(22, .bool true)] (ds_ (t_ (sq_ (qa0 [(2, .go (owns 1 0 1))] [4] [(5, .int .i64 2)] (ds_ (bk (owns 1 0 1) (.tuple #[.agg #[.slice none 0 0], .int .i64 2]) (qo0 4 [(5, .go (owns 3 0 1))] [8] [(9, .int .i64 2)] (on_ (ds_ (bk (owns 3 0 1) (.tuple #[.agg #[.slice none 0 0], .int .i64 2]) (qo0 4 [(7, .go (owns 8 0 1))] [8] [(9, .int .i64 2)] (on_ (ds_ (rt (owns 8 0 1) (.tuple #[.agg #[.slice none 0 0], .int .i64 2]) ?_))))))))))))))))))))))))))))))))))))))
     exact fun w' hw => by rw [show weighV ts il wt many = alterV (weighF wt many) ts (wB wt && eachV many) il from rfl, alter_arg q14 (by rw [show wB wt = true from decide_eq_true (by omega), q7]; rfl)]; exact ⟨none, 0, 0, [], rfl, SlO.nil, hw.below, hw.sub (List.nil_sublist _)⟩
   ·
    refine cD (.bool true) Try.call35 (fun w hw => by have := each_t many w; rw [q7] at this; exact this) (qo0 2 [] [1, 4, 6, 7, 8] [(10, .bool true)] (on_ (ds_ (sq_ (ao_ (qo0 4 [(0, .go (owns 3 0 1))] [8] [(21, .agg #[.slice p n cap]), (22, .bool true), (23, .slice pi m capi), (24, .func (.func 37) #[] #[.pointer (some ⟨γ1 2, 0, none⟩), .pointer (some ⟨γ1 1, 0, none⟩)])] (ops_inline (g := 36) (args := #[.agg #[.slice p n cap], .bool true, .slice pi m capi, .func (.func 37) #[] #[.pointer (some ⟨γ1 2, 0, none⟩), .pointer (some ⟨γ1 1, 0, none⟩)]]) (by kernel_rfl) (by kernel_rfl) (by kernel_rfl) (fun args w => Try.call36 args w) Try.func36 rfl Try.ntmps36 rfl (sq_ (ma0 [] [] (fun γ36 => [(4, .pointer (some ⟨γ36 0, 0, none⟩)), (5, .pointer (some ⟨γ36 1, 0, none⟩)), (6, .pointer (some ⟨γ36 2, 0, none⟩)), (7, .pointer (some ⟨γ36 3, 0, none⟩)), (8, .pointer (some ⟨γ36 4, 0, none⟩))]) (fun γ36 L => bx (γ36 4) (#[.slice none 0 0]) 24 :: bx (γ36 3) (#[.func (.func 37) #[] #[.pointer (some ⟨γ1 2, 0, none⟩), .pointer (some ⟨γ1 1, 0, none⟩)]]) 77 :: bx (γ36 2) (#[.slice pi m capi]) 41 :: bx (γ36 1) (#[.bool true]) 4 :: bx (γ36 0) (#[.slice p n cap]) 24 :: L) (fun γ36 => ds_ (sq_ (ao_ (qo0 2 [(0, .go (owns 4 0 1))] [8] [(10, .agg #[.slice p n cap]), (11, .func (.func 68) #[] #[.pointer (some ⟨γ36 1, 0, none⟩), .pointer (some ⟨γ36 2, 0, none⟩), .pointer (some ⟨γ36 3, 0, none⟩)])] (ops_inline (g := 56) (args := #[.agg #[.slice p n cap], .func (.func 68) #[] #[.pointer (some ⟨γ36 1, 0, none⟩), .pointer (some ⟨γ36 2, 0, none⟩), .pointer (some ⟨γ36 3, 0, none⟩)]]) (by kernel_rfl) (by kernel_rfl) (by kernel_rfl) (fun args w => Try.call56 args w) Try.func56 rfl Try.ntmps56 rfl (sq_ (ma0 [] [1] (fun γ38 => [(2, .pointer (some ⟨γ38 0, 0, none⟩)), (4, .pointer (some ⟨γ38 1, 0, none⟩))]) (fun γ38 L => bx (γ38 1) (#[.slice none 0 0]) 24 :: bx (γ38 0) (#[.slice p n cap]) 24 :: L) (fun γ38 => ds_ (sq_ (sq_ (ao_ (qo0 1 [(0, .go (owns 1 0 1))] [1, 2, 4] [(9, .agg #[.slice p n cap])] ?_)))))))))))))))))))))
    rcases q40 : chkQ ts with _ | _
    ·
     refine cD (.int .i64 200) Try.call20 (fun w hw => by have := qcheck_t p n cap ts w (hts.kept hw.below) hn (by omega); rw [q40] at this; exact this) (qo0 1 [] [1, 2, 4] [(6, .int .i64 200)] (on_ (ds_ (sq_ (qa0 [] [1, 2, 4, 6] [(12, .bool true)] (ds_ (t_ (sq_ (qa0 [(2, .go (owns 0 0 1))] [4] [(5, .int .i64 200)] (ds_ (bk (owns 0 0 1) (.tuple #[.agg #[.slice none 0 0], .int .i64 200]) (qo0 4 [(5, .go (owns 2 0 1))] [8] [(9, .int .i64 200)] (on_ (ds_ (bk (owns 2 0 1) (.tuple #[.agg #[.slice none 0 0], .int .i64 200]) (qo0 4 [(7, .go (owns 7 0 1))] [8] [(9, .int .i64 200)] (on_ (ds_ (rt (owns 7 0 1) (.tuple #[.agg #[.slice none 0 0], .int .i64 200]) ?_)))))))))))))))))))
     exact fun w' hw => by rw [show weighV ts il wt many = alterV (weighF wt many) ts (wB wt && eachV many) il from rfl, alter_bad q40]; exact ⟨none, 0, 0, [], rfl, SlO.nil, hw.below, hw.sub (List.nil_sublist _)⟩
    ·
     refine cD (.int .i64 0) Try.call20 (fun w hw => by have := qcheck_t p n cap ts w (hts.kept hw.below) hn (by omega); rw [q40] at this; exact this) (qo0 1 [] [1, 2, 4] [(6, .int .i64 0)] (on_ (ds_ (sq_ (qa0 [] [1, 2, 4, 6] [(12, .bool false)] (ds_ (f_ (at_skip (ds_ (sq_ ?_))))))))))
     have hgq := chk_iff.1 q40
     have hlq := hgq.len
     refine ao_ (qo0 2 [(1, .go (owns 1 0 1))] [1, 4] [(16, .slice p n cap)] (cP (fun v L' => ∃ q_ c_ Y_, v = .slice q_ n c_ ∧ L' = List.take 11 ([bx (γ38 1) (#[.slice none 0 0]) 24, bx (γ38 0) (#[.slice p n cap]) 24, bx (γ36 4) (#[.slice none 0 0]) 24, bx (γ36 3) (#[.func (.func 37) #[] #[.pointer (some ⟨γ1 2, 0, none⟩), .pointer (some ⟨γ1 1, 0, none⟩)]]) 77, bx (γ36 2) (#[.slice pi m capi]) 41, bx (γ36 1) (#[.bool true]) 4, bx (γ36 0) (#[.slice p n cap]) 24, bx (γ1 3) (#[.slice none 0 0]) 24, bx (γ1 2) (#[.int .i64 many]) 3, bx (γ1 1) (#[.int .u64 wt]) 25, bx (γ1 0) (#[.slice p n cap]) 24]) ++ (Y_ ++ List.drop 11 ([bx (γ38 1) (#[.slice none 0 0]) 24, bx (γ38 0) (#[.slice p n cap]) 24, bx (γ36 4) (#[.slice none 0 0]) 24, bx (γ36 3) (#[.func (.func 37) #[] #[.pointer (some ⟨γ1 2, 0, none⟩), .pointer (some ⟨γ1 1, 0, none⟩)]]) 77, bx (γ36 2) (#[.slice pi m capi]) 41, bx (γ36 1) (#[.bool true]) 4, bx (γ36 0) (#[.slice p n cap]) 24, bx (γ1 3) (#[.slice none 0 0]) 24, bx (γ1 2) (#[.int .i64 many]) 3, bx (γ1 1) (#[.int .u64 wt]) 25, bx (γ1 0) (#[.slice p n cap]) 24])) ∧ SlO 35 Y_ q_ n c_ ts) Try.call78 (fun w hw => (qclone_t p n cap ts w (hts.kept hw.below) hn (by omega)).mono fun e w' ⟨q_, c_, Y_, he, hO, hb, hY⟩ => ⟨_, _, he, ⟨q_, c_, Y_, rfl, rfl, hO⟩, hw.join hb hY 11⟩) ?_))
     rintro v49 L49 ⟨q49, cq49, Y49, rfl, rfl, hO49⟩
     refine mo0 3 [(5, .go (owns 0 0 1))] [1, 4] (fun γ50 => [(7, .pointer (some ⟨γ50 0, 0, none⟩))]) (fun γ50 L => bx (γ50 0) (#[.slice q49 n cq49]) 24 :: L) (fun γ50 => on_ (ds_ (sq_ (sq_ (ao_ (qo0 1 [] [4, 7] [(19, .func (.func 68) #[] #[.pointer (some ⟨γ36 1, 0, none⟩), .pointer (some ⟨γ36 2, 0, none⟩), .pointer (some ⟨γ36 3, 0, none⟩)])] (ops_inline (g := 68) (args := #[.pointer (some ⟨γ50 0, 0, none⟩), .pointer (some ⟨γ36 1, 0, none⟩), .pointer (some ⟨γ36 2, 0, none⟩), .pointer (some ⟨γ36 3, 0, none⟩)]) (by kernel_rfl) (by kernel_rfl) (by kernel_rfl) (fun args w => Try.call68 args w) Try.func68 rfl Try.ntmps68 rfl (sq_ (qa0 [] [0, 1, 2, 3] [] (ds_ (sq_ (sq_ (qa0 [(0, .go (owns 6 0 1))] [0, 2, 3] [(11, .bool false)] (ds_ (f_ (at_skip (ds_ (sq_ (ao_ (qo0 2 [(1, .go (owns 5 0 1))] [0, 3] [(13, .pointer (some ⟨γ50 0, 0, none⟩)), (14, .slice pi m capi)] (ops_inline (g := 69) (args := #[.pointer (some ⟨γ50 0, 0, none⟩), .slice pi m capi]) (by kernel_rfl) (by kernel_rfl) (by kernel_rfl) (fun args w => Try.call69 args w) Try.func69 rfl Try.ntmps69 rfl (sq_ (qa0 [] [0, 1] [] (ds_ (sq_ (qa0 [] [0, 1] [(6, .slice none 0 0)] (ds_ (sq_ (qa0 [] [0, 1, 6] [(7, .int .i64 0), (8, .int .i64 0)] (ds_ (sq_ (sq_ (qa0 [] [0, 6, 7, 8] [(13, .slice pi m capi), (14, .int .i64 (m : Nat)), (15, .int .i64 0)] (ds_ (at_block (at_loop (α := Nat × Int × Int × List Ob × Option Addr × Nat × Nat) [0, 6, 7, 8, 13, 14, 15] (fun ⟨j, la, er, Yo, po, nu, co⟩ => [(0, .pointer (some ⟨γ50 0, 0, none⟩)), (6, .slice po nu co), (7, .int .i64 la), (8, .int .i64 er), (13, .slice pi m capi), (14, .int .i64 (m : Nat)), (15, .int .i64 (j : Nat))]) (fun ⟨j, la, er, Yo, po, nu, co⟩ => bx (γ50 0) (#[.slice q49 n cq49]) 24 :: bx (γ38 1) (#[.slice none 0 0]) 24 :: bx (γ38 0) (#[.slice p n cap]) 24 :: bx (γ36 4) (#[.slice none 0 0]) 24 :: bx (γ36 3) (#[.func (.func 37) #[] #[.pointer (some ⟨γ1 2, 0, none⟩), .pointer (some ⟨γ1 1, 0, none⟩)]]) 77 :: bx (γ36 2) (#[.slice pi m capi]) 41 :: bx (γ36 1) (#[.bool true]) 4 :: bx (γ36 0) (#[.slice p n cap]) 24 :: bx (γ1 3) (#[.slice none 0 0]) 24 :: bx (γ1 2) (#[.int .i64 many]) 3 :: bx (γ1 1) (#[.int .u64 wt]) 25 :: bx (γ1 0) (#[.slice p n cap]) 24 :: (Yo ++ (Y49 ++ []))) (fun ⟨j, la, er, Yo, po, nu, co⟩ => j ≤ m ∧ lastN il j = la ∧ Ris (fun x : Int => x) (il.take j) ∧ (∀ y ∈ il.take j, idV y = true) ∧ foundE ts (il.take j) = er ∧ nu ≤ j ∧ SlO 3 Yo po nu co ((il.take j).map (posI ts))) (fun ⟨j, la, er, Yo, po, nu, co⟩ => m - j) (0, 0, 0, [], none, 0, 0) (by kernel_rfl) rfl ⟨Nat.zero_le _, rfl, ris_take0T, all_take0T, found_zero, Nat.le_refl _, SlO.nil⟩ ?_))))))))))))))))))))))))))))))))))))
     rintro ⟨j, la, er, Yo, po, nu, co⟩
     rintro ⟨hj, hla, hR, hA, her, hnu, hOo⟩
     refine sq_ ?_
     by_cases q60 : ((j : Nat) : Int) < ((m : Nat) : Int)
     ·
      refine qa [(0, .yes)] [0, 6, 7, 8, 13, 14, 15] [(16, .bool true)] ([((j : Nat) : Int) < ((m : Nat) : Int)]) (al1 q60) (ds_ (sq_ (t_ (at_skip (ds_ (sq_ (at_block (sq_ ?_))))))))
      obtain ⟨b63, o63, rfl⟩ := hil.pos (i := j) (by omega)
      obtain ⟨x65, hx65⟩ := get_some (l := il) (m := j) (by omega)
      refine qa [(0, .at b63 o63 j), (1, .go (outs b63 (o63 + j * 1) [.int .i64 x65]))] [0, 6, 7, 8, 13, 14, 15] [(10, .int .i64 x65)] ([(some ⟨b63, o63, none⟩ : Option Addr) = some ⟨b63, o63, none⟩, (j : Nat) = ((j : Nat) : Int), j < m] ++ (cellsP w b63 (o63 + j * 1) [.int .i64 x65])) (alA (al2 rfl (al2 rfl (al1 (by omega)))) (rd_pre (hil.get hx65) _ rfl)) (ds_ (sq_ (sq_ (ao_ (qo0 1 [] [0, 6, 7, 8, 10, 13, 14, 15] [(19, .int .i64 x65)] ?_)))))
      rcases q68 : idV x65 with _ | _
      ·
       refine cD (.bool false) Try.call52 (fun w hw => by have := id_t x65 w; rw [q68] at this; exact this) (qo0 6 [] [0, 6, 8, 10, 13, 14, 15] [(26, .bool true)] (on_ (ds_ (t_ (sq_ (qa0 [] [] [(4, .slice none 0 0), (5, .int .i64 2)] (ds_ (bk ([]) (.tuple #[.slice none 0 0, .int .i64 2]) ?_))))))))
       have hpe : placesE ts il = 2 := places_bad (risI_badI hx65 q68)
       refine qo0 5 [] [0, 3] [(6, .slice none 0 0), (7, .int .i64 2)] (on_ (ds_ (sq_ (sq_ (qa0 [] [0, 3, 7] [(18, .slice none 0 0), (19, .int .i64 0), (20, .int .i64 0)] (ds_ (at_block (at_loop (α := Nat × Int × List Ob × List Rn) [0, 3, 7, 18, 19, 20] (fun ⟨i, ez, Yq, L⟩ => [(0, .pointer (some ⟨γ50 0, 0, none⟩)), (3, .pointer (some ⟨γ36 3, 0, none⟩)), (7, .int .i64 ez), (18, .slice none 0 0), (19, .int .i64 0), (20, .int .i64 (i : Nat))]) (fun ⟨i, ez, Yq, L⟩ => bx (γ50 0) (#[.slice q49 n cq49]) 24 :: bx (γ38 1) (#[.slice none 0 0]) 24 :: bx (γ38 0) (#[.slice p n cap]) 24 :: bx (γ36 4) (#[.slice none 0 0]) 24 :: bx (γ36 3) (#[.func (.func 37) #[] #[.pointer (some ⟨γ1 2, 0, none⟩), .pointer (some ⟨γ1 1, 0, none⟩)]]) 77 :: bx (γ36 2) (#[.slice (some ⟨b63, o63, none⟩) m capi]) 41 :: bx (γ36 1) (#[.bool true]) 4 :: bx (γ36 0) (#[.slice p n cap]) 24 :: bx (γ1 3) (#[.slice none 0 0]) 24 :: bx (γ1 2) (#[.int .i64 many]) 3 :: bx (γ1 1) (#[.int .u64 wt]) 25 :: bx (γ1 0) (#[.slice p n cap]) 24 :: (Yo ++ (Yq ++ []))) (fun ⟨i, ez, Yq, L⟩ => i ≤ 0 ∧ altX (weighF wt many) ts (placesE ts il) (il.take i) = ez ∧ (ez = 0 → L = (altL (weighF wt many) ts (il.take i))) ∧ SlO 35 Yq q49 n cq49 L) (fun ⟨i, ez, Yq, L⟩ => 0 - i) (0, 2, Y49, ts) (by kernel_rfl) rfl ⟨Nat.zero_le _, by rw [altX_start]; exact hpe, fun _ => altL_nil.symm, hO49⟩ ?_))))))))
       rintro ⟨i, ez, Yq, L⟩
       rintro ⟨hi, hX, hL, hOq⟩
       refine sq_ (qa [(0, .no)] [0, 3, 7, 18, 19, 20] [(21, .bool false)] ([¬ (((i : Nat) : Int) < (0 : Int))]) (al1 (by omega)) (ds_ (sq_ (f_ (at_leave _ rfl (ds_ (sq_ ?_)))))))
       have hez : ez = 2 := by rw [← hX]; exact altX_ne (a := il.take 0) (by omega) (by rw [altX_start]; exact hpe)
       have hXf : altX (weighF wt many) ts (placesE ts il) il = ez := altX_ne (by omega) hX
       refine qa0 [] [] [(5, .int .i64 ez)] (ds_ (bk ([]) (.int .i64 ez) (qo0 1 [] [4, 7] [(8, .int .i64 ez)] (on_ (ds_ (sq_ (qa [(1, .yes)] [4, 7, 8] [(22, .bool true)] ([(ez : Int) ≠ (0 : Int)]) (al1 (by omega)) (ds_ (t_ (sq_ (qa0 [(2, .go (owns 1 0 1))] [4] [(5, .int .i64 ez)] (ds_ (bk (owns 1 0 1) (.tuple #[.agg #[.slice none 0 0], .int .i64 ez]) (qo0 4 [(5, .go (owns 3 0 1))] [8] [(9, .int .i64 ez)] (on_ (ds_ (bk (owns 3 0 1) (.tuple #[.agg #[.slice none 0 0], .int .i64 ez]) (qo0 4 [(7, .go (owns 8 0 1))] [8] [(9, .int .i64 ez)] (on_ (ds_ (rt (owns 8 0 1) (.tuple #[.agg #[.slice none 0 0], .int .i64 ez]) ?_)))))))))))))))))))))
       exact fun w' hw => by rw [show weighV ts il wt many = alterV (weighF wt many) ts (wB wt && eachV many) il from rfl, alter_err q40 (by rw [show wB wt = true from decide_eq_true (by omega), q7]; rfl) (by rw [hXf]; omega), hXf]; exact ⟨none, 0, 0, [], rfl, SlO.nil, hw.below, hw.sub (List.nil_sublist _)⟩
      ·
       refine cD (.bool true) Try.call52 (fun w hw => by have := id_t x65 w; rw [q68] at this; exact this) ?_
       by_cases q81 : (x65 : Int) ≤ (la : Int)
       ·
        refine qo 6 [(6, .yes)] [0, 6, 8, 10, 13, 14, 15] [(26, .bool true)] ([(x65 : Int) ≤ (la : Int)]) (al1 q81) (on_ (ds_ (t_ (sq_ (qa0 [] [] [(4, .slice none 0 0), (5, .int .i64 2)] (ds_ (bk ([]) (.tuple #[.slice none 0 0, .int .i64 2]) ?_)))))))
        have hpe : placesE ts il = 2 := places_bad (risI_badL hx65 hla q68 (by omega))
        refine qo0 5 [] [0, 3] [(6, .slice none 0 0), (7, .int .i64 2)] (on_ (ds_ (sq_ (sq_ (qa0 [] [0, 3, 7] [(18, .slice none 0 0), (19, .int .i64 0), (20, .int .i64 0)] (ds_ (at_block (at_loop (α := Nat × Int × List Ob × List Rn) [0, 3, 7, 18, 19, 20] (fun ⟨i, ez, Yq, L⟩ => [(0, .pointer (some ⟨γ50 0, 0, none⟩)), (3, .pointer (some ⟨γ36 3, 0, none⟩)), (7, .int .i64 ez), (18, .slice none 0 0), (19, .int .i64 0), (20, .int .i64 (i : Nat))]) (fun ⟨i, ez, Yq, L⟩ => bx (γ50 0) (#[.slice q49 n cq49]) 24 :: bx (γ38 1) (#[.slice none 0 0]) 24 :: bx (γ38 0) (#[.slice p n cap]) 24 :: bx (γ36 4) (#[.slice none 0 0]) 24 :: bx (γ36 3) (#[.func (.func 37) #[] #[.pointer (some ⟨γ1 2, 0, none⟩), .pointer (some ⟨γ1 1, 0, none⟩)]]) 77 :: bx (γ36 2) (#[.slice (some ⟨b63, o63, none⟩) m capi]) 41 :: bx (γ36 1) (#[.bool true]) 4 :: bx (γ36 0) (#[.slice p n cap]) 24 :: bx (γ1 3) (#[.slice none 0 0]) 24 :: bx (γ1 2) (#[.int .i64 many]) 3 :: bx (γ1 1) (#[.int .u64 wt]) 25 :: bx (γ1 0) (#[.slice p n cap]) 24 :: (Yo ++ (Yq ++ []))) (fun ⟨i, ez, Yq, L⟩ => i ≤ 0 ∧ altX (weighF wt many) ts (placesE ts il) (il.take i) = ez ∧ (ez = 0 → L = (altL (weighF wt many) ts (il.take i))) ∧ SlO 35 Yq q49 n cq49 L) (fun ⟨i, ez, Yq, L⟩ => 0 - i) (0, 2, Y49, ts) (by kernel_rfl) rfl ⟨Nat.zero_le _, by rw [altX_start]; exact hpe, fun _ => altL_nil.symm, hO49⟩ ?_))))))))
        rintro ⟨i, ez, Yq, L⟩
        rintro ⟨hi, hX, hL, hOq⟩
        refine sq_ (qa [(0, .no)] [0, 3, 7, 18, 19, 20] [(21, .bool false)] ([¬ (((i : Nat) : Int) < (0 : Int))]) (al1 (by omega)) (ds_ (sq_ (f_ (at_leave _ rfl (ds_ (sq_ ?_)))))))
        have hez : ez = 2 := by rw [← hX]; exact altX_ne (a := il.take 0) (by omega) (by rw [altX_start]; exact hpe)
        have hXf : altX (weighF wt many) ts (placesE ts il) il = ez := altX_ne (by omega) hX
        refine qa0 [] [] [(5, .int .i64 ez)] (ds_ (bk ([]) (.int .i64 ez) (qo0 1 [] [4, 7] [(8, .int .i64 ez)] (on_ (ds_ (sq_ (qa [(1, .yes)] [4, 7, 8] [(22, .bool true)] ([(ez : Int) ≠ (0 : Int)]) (al1 (by omega)) (ds_ (t_ (sq_ (qa0 [(2, .go (owns 1 0 1))] [4] [(5, .int .i64 ez)] (ds_ (bk (owns 1 0 1) (.tuple #[.agg #[.slice none 0 0], .int .i64 ez]) (qo0 4 [(5, .go (owns 3 0 1))] [8] [(9, .int .i64 ez)] (on_ (ds_ (bk (owns 3 0 1) (.tuple #[.agg #[.slice none 0 0], .int .i64 ez]) (qo0 4 [(7, .go (owns 8 0 1))] [8] [(9, .int .i64 ez)] (on_ (ds_ (rt (owns 8 0 1) (.tuple #[.agg #[.slice none 0 0], .int .i64 ez]) ?_)))))))))))))))))))))
        exact fun w' hw => by rw [show weighV ts il wt many = alterV (weighF wt many) ts (wB wt && eachV many) il from rfl, alter_err q40 (by rw [show wB wt = true from decide_eq_true (by omega), q7]; rfl) (by rw [hXf]; omega), hXf]; exact ⟨none, 0, 0, [], rfl, SlO.nil, hw.below, hw.sub (List.nil_sublist _)⟩
       ·
        refine qo 6 [(6, .no)] [0, 6, 8, 10, 13, 14, 15] [(26, .bool false)] ([¬ ((x65 : Int) ≤ (la : Int))]) (al1 q81) (on_ (ds_ (f_ (at_skip (ds_ (sq_ (qa0 [] [0, 6, 8, 10, 13, 14, 15] [(7, .int .i64 x65)] (ds_ (sq_ (ao_ (qo0 5 [(3, .go (owns 0 0 1))] [0, 6, 7, 8, 13, 14, 15] [(32, .slice q49 n cq49), (33, .int .i64 x65)] ?_)))))))))))
        rcases hg96 : getK Rn.id ts x65 with _ | y96
        ·
         have hpl96 := (pos_cut (k := x65) hgq.rs).2.2
         refine cD (.tuple #[.int .i64 (posK Rn.id ts x65 : Nat), .bool false]) Try.call34 (fun w hw => by have := at_t q49 n cq49 ts x65 w (hO49.atN (A := (_ :: _ :: _ :: _ :: _ :: _ :: _ :: _ :: _ :: _ :: _ :: _ :: Yo)) hw) hO49.len (by omega) hgq q68; rw [hasK_none hg96] at this; exact this) (qo0 5 [] [0, 6, 7, 8, 13, 14, 15] [(11, .int .i64 (posK Rn.id ts x65 : Nat)), (12, .bool false)] (on_ (ds_ (sq_ (sq_ (qa0 [] [0, 6, 7, 8, 11, 13, 14, 15] [(38, .bool true)] (ds_ (t_ (qa0 [] [0, 6, 7, 11, 13, 14, 15] [(8, .int .i64 4)] (ds_ (ao_ (mo0 3 [] [0, 7, 8, 13, 14, 15] (fun γ100 => [(39, .slice po nu co), (41, .slice (some ⟨γ100 0, 0, none⟩) 1 1)]) (fun γ100 L => bx (γ100 0) (#[.int .i64 (posK Rn.id ts x65 : Nat)]) 3 :: L) (fun γ100 => ops_append (α := Int) [bx (γ100 0) (#[.int .i64 (posK Rn.id ts x65 : Nat)]) 3, bx (γ50 0) (#[.slice q49 n cq49]) 24, bx (γ38 1) (#[.slice none 0 0]) 24, bx (γ38 0) (#[.slice p n cap]) 24, bx (γ36 4) (#[.slice none 0 0]) 24, bx (γ36 3) (#[.func (.func 37) #[] #[.pointer (some ⟨γ1 2, 0, none⟩), .pointer (some ⟨γ1 1, 0, none⟩)]]) 77, bx (γ36 2) (#[.slice (some ⟨b63, o63, none⟩) m capi]) 41, bx (γ36 1) (#[.bool true]) 4, bx (γ36 0) (#[.slice p n cap]) 24, bx (γ1 3) (#[.slice none 0 0]) 24, bx (γ1 2) (#[.int .i64 many]) 3, bx (γ1 1) (#[.int .u64 wt]) 25, bx (γ1 0) (#[.slice p n cap]) 24] Yo (Y49 ++ []) (.refl _) rfl (by kernel_rfl) (by kernel_rfl) (p := po) (n := nu) (cap := co) (m := 1) (yv := .slice (some ⟨γ100 0, 0, none⟩) 1 1) (by kernel_rfl) (by kernel_rfl) (T := 3) (by_ := 8) (by kernel_rfl) ((il.take j).map (posI ts)) ([(posK Rn.id ts x65 : Nat)]) hOo (fun w hw => src_svn Try.underlying41 (sv_row (hw.row 0 rfl) (by rfl)) (by rfl)) (by rfl) (by have hmx : maxLen = 9223372036854775807 := rfl; omega) (by have hmx : maxLen = 9223372036854775807 := rfl; omega) (fun Y101 p101 cap101 hO101 => qo0 1 [] [0, 7, 8, 13, 14, 15] [(6, .slice p101 (nu + 1) cap101)] (on_ (done_block (ds_ (qa [(0, .fit)] [0, 6, 7, 8, 13, 14] [(15, .int .i64 (j + 1 : Nat))] ([Fit .i64 ((j + 1 : Nat))]) (al1 (fit64 (by omega) (by omega))) (Done.pick [[bx (γ100 0) (#[.int .i64 (posK Rn.id ts x65 : Nat)]) 3], [bx (γ50 0) (#[.slice q49 n cq49]) 24], [bx (γ38 1) (#[.slice none 0 0]) 24], [bx (γ38 0) (#[.slice p n cap]) 24], [bx (γ36 4) (#[.slice none 0 0]) 24], [bx (γ36 3) (#[.func (.func 37) #[] #[.pointer (some ⟨γ1 2, 0, none⟩), .pointer (some ⟨γ1 1, 0, none⟩)]]) 77], [bx (γ36 2) (#[.slice (some ⟨b63, o63, none⟩) m capi]) 41], [bx (γ36 1) (#[.bool true]) 4], [bx (γ36 0) (#[.slice p n cap]) 24], [bx (γ1 3) (#[.slice none 0 0]) 24], [bx (γ1 2) (#[.int .i64 many]) 3], [bx (γ1 1) (#[.int .u64 wt]) 25], [bx (γ1 0) (#[.slice p n cap]) 24], Y101, Y49] [1, 2, 3, 4, 5, 6, 7, 8, 9, 10, 11, 12, 13, 14] [0] (bx (γ50 0) (#[.slice q49 n cq49]) 24 :: bx (γ38 1) (#[.slice none 0 0]) 24 :: bx (γ38 0) (#[.slice p n cap]) 24 :: bx (γ36 4) (#[.slice none 0 0]) 24 :: bx (γ36 3) (#[.func (.func 37) #[] #[.pointer (some ⟨γ1 2, 0, none⟩), .pointer (some ⟨γ1 1, 0, none⟩)]]) 77 :: bx (γ36 2) (#[.slice (some ⟨b63, o63, none⟩) m capi]) 41 :: bx (γ36 1) (#[.bool true]) 4 :: bx (γ36 0) (#[.slice p n cap]) 24 :: bx (γ1 3) (#[.slice none 0 0]) 24 :: bx (γ1 2) (#[.int .i64 many]) 3 :: bx (γ1 1) (#[.int .u64 wt]) 25 :: bx (γ1 0) (#[.slice p n cap]) 24 :: (Y101 ++ (Y49 ++ []))) (by kernel_rfl) rfl rfl ?_)))))))))))))))))))
         exact dr [0, 6, 7, 8, 13, 14, 15] (j + 1, x65, 4, Y101, p101, (nu + 1), cap101) ⟨by omega, lastN_on hx65, risN_on hR hx65 hla (by omega), all_onT hA hx65 q68, by rw [found_no hx65 hg96], by omega, by rw [map_on hx65]; exact hO101⟩
        ·
         have hp_y96 := pos_getK hgq.rs hg96
         have hl_y96 := (List.getElem?_eq_some_iff.1 hp_y96).1
         refine cD (.tuple #[.int .i64 (posK Rn.id ts x65 : Nat), .bool true]) Try.call34 (fun w hw => by have := at_t q49 n cq49 ts x65 w (hO49.atN (A := (_ :: _ :: _ :: _ :: _ :: _ :: _ :: _ :: _ :: _ :: _ :: _ :: Yo)) hw) hO49.len (by omega) hgq q68; rw [hasK_some hg96] at this; exact this) (qo0 5 [] [0, 6, 7, 8, 13, 14, 15] [(11, .int .i64 (posK Rn.id ts x65 : Nat)), (12, .bool true)] (on_ (ds_ (sq_ (sq_ (qa0 [] [0, 6, 7, 8, 11, 13, 14, 15] [(38, .bool false)] (ds_ (f_ (at_skip (ds_ (ao_ (mo0 3 [] [0, 7, 8, 13, 14, 15] (fun γ106 => [(39, .slice po nu co), (41, .slice (some ⟨γ106 0, 0, none⟩) 1 1)]) (fun γ106 L => bx (γ106 0) (#[.int .i64 (posK Rn.id ts x65 : Nat)]) 3 :: L) (fun γ106 => ops_append (α := Int) [bx (γ106 0) (#[.int .i64 (posK Rn.id ts x65 : Nat)]) 3, bx (γ50 0) (#[.slice q49 n cq49]) 24, bx (γ38 1) (#[.slice none 0 0]) 24, bx (γ38 0) (#[.slice p n cap]) 24, bx (γ36 4) (#[.slice none 0 0]) 24, bx (γ36 3) (#[.func (.func 37) #[] #[.pointer (some ⟨γ1 2, 0, none⟩), .pointer (some ⟨γ1 1, 0, none⟩)]]) 77, bx (γ36 2) (#[.slice (some ⟨b63, o63, none⟩) m capi]) 41, bx (γ36 1) (#[.bool true]) 4, bx (γ36 0) (#[.slice p n cap]) 24, bx (γ1 3) (#[.slice none 0 0]) 24, bx (γ1 2) (#[.int .i64 many]) 3, bx (γ1 1) (#[.int .u64 wt]) 25, bx (γ1 0) (#[.slice p n cap]) 24] Yo (Y49 ++ []) (.refl _) rfl (by kernel_rfl) (by kernel_rfl) (p := po) (n := nu) (cap := co) (m := 1) (yv := .slice (some ⟨γ106 0, 0, none⟩) 1 1) (by kernel_rfl) (by kernel_rfl) (T := 3) (by_ := 8) (by kernel_rfl) ((il.take j).map (posI ts)) ([(posK Rn.id ts x65 : Nat)]) hOo (fun w hw => src_svn Try.underlying41 (sv_row (hw.row 0 rfl) (by rfl)) (by rfl)) (by rfl) (by have hmx : maxLen = 9223372036854775807 := rfl; omega) (by have hmx : maxLen = 9223372036854775807 := rfl; omega) (fun Y107 p107 cap107 hO107 => qo0 1 [] [0, 7, 8, 13, 14, 15] [(6, .slice p107 (nu + 1) cap107)] (on_ (done_block (ds_ (qa [(0, .fit)] [0, 6, 7, 8, 13, 14] [(15, .int .i64 (j + 1 : Nat))] ([Fit .i64 ((j + 1 : Nat))]) (al1 (fit64 (by omega) (by omega))) (Done.pick [[bx (γ106 0) (#[.int .i64 (posK Rn.id ts x65 : Nat)]) 3], [bx (γ50 0) (#[.slice q49 n cq49]) 24], [bx (γ38 1) (#[.slice none 0 0]) 24], [bx (γ38 0) (#[.slice p n cap]) 24], [bx (γ36 4) (#[.slice none 0 0]) 24], [bx (γ36 3) (#[.func (.func 37) #[] #[.pointer (some ⟨γ1 2, 0, none⟩), .pointer (some ⟨γ1 1, 0, none⟩)]]) 77], [bx (γ36 2) (#[.slice (some ⟨b63, o63, none⟩) m capi]) 41], [bx (γ36 1) (#[.bool true]) 4], [bx (γ36 0) (#[.slice p n cap]) 24], [bx (γ1 3) (#[.slice none 0 0]) 24], [bx (γ1 2) (#[.int .i64 many]) 3], [bx (γ1 1) (#[.int .u64 wt]) 25], [bx (γ1 0) (#[.slice p n cap]) 24], Y107, Y49] [1, 2, 3, 4, 5, 6, 7, 8, 9, 10, 11, 12, 13, 14] [0] (bx (γ50 0) (#[.slice q49 n cq49]) 24 :: bx (γ38 1) (#[.slice none 0 0]) 24 :: bx (γ38 0) (#[.slice p n cap]) 24 :: bx (γ36 4) (#[.slice none 0 0]) 24 :: bx (γ36 3) (#[.func (.func 37) #[] #[.pointer (some ⟨γ1 2, 0, none⟩), .pointer (some ⟨γ1 1, 0, none⟩)]]) 77 :: bx (γ36 2) (#[.slice (some ⟨b63, o63, none⟩) m capi]) 41 :: bx (γ36 1) (#[.bool true]) 4 :: bx (γ36 0) (#[.slice p n cap]) 24 :: bx (γ1 3) (#[.slice none 0 0]) 24 :: bx (γ1 2) (#[.int .i64 many]) 3 :: bx (γ1 1) (#[.int .u64 wt]) 25 :: bx (γ1 0) (#[.slice p n cap]) 24 :: (Y107 ++ (Y49 ++ []))) (by kernel_rfl) rfl rfl ?_)))))))))))))))))))
         exact dr [0, 6, 7, 8, 13, 14, 15] (j + 1, x65, er, Y107, p107, (nu + 1), cap107) ⟨by omega, lastN_on hx65, risN_on hR hx65 hla (by omega), all_onT hA hx65 q68, by rw [found_yes hx65 hg96, her], by omega, by rw [map_on hx65]; exact hO107⟩
     ·
      refine qa [(0, .no)] [0, 6, 7, 8, 13, 14, 15] [(16, .bool false)] ([¬ (((j : Nat) : Int) < ((m : Nat) : Int))]) (al1 q60) (ds_ (sq_ (f_ (at_leave _ rfl (ds_ (sq_ (qa0 [] [] [(4, .slice po nu co), (5, .int .i64 er)] (ds_ (bk ([]) (.tuple #[.slice po nu co, .int .i64 er]) ?_)))))))))
      rw [List.take_of_length_le (by omega)] at her hOo
      have hpe : placesE ts il = er := by rw [places_ok (risI_good hR hA (by omega)), her]
      have hnl := hOo.len
      rw [List.length_map] at hnl
      refine qo0 5 [] [0, 3] [(6, .slice po nu co), (7, .int .i64 er)] (on_ (ds_ (sq_ (sq_ (qa0 [] [0, 3, 7] [(18, .slice po nu co), (19, .int .i64 (nu : Nat)), (20, .int .i64 0)] (ds_ (at_block (at_loop (α := Nat × Int × List Ob × List Rn) [0, 3, 7, 18, 19, 20] (fun ⟨i, ez, Yq, L⟩ => [(0, .pointer (some ⟨γ50 0, 0, none⟩)), (3, .pointer (some ⟨γ36 3, 0, none⟩)), (7, .int .i64 ez), (18, .slice po nu co), (19, .int .i64 (nu : Nat)), (20, .int .i64 (i : Nat))]) (fun ⟨i, ez, Yq, L⟩ => bx (γ50 0) (#[.slice q49 n cq49]) 24 :: bx (γ38 1) (#[.slice none 0 0]) 24 :: bx (γ38 0) (#[.slice p n cap]) 24 :: bx (γ36 4) (#[.slice none 0 0]) 24 :: bx (γ36 3) (#[.func (.func 37) #[] #[.pointer (some ⟨γ1 2, 0, none⟩), .pointer (some ⟨γ1 1, 0, none⟩)]]) 77 :: bx (γ36 2) (#[.slice pi m capi]) 41 :: bx (γ36 1) (#[.bool true]) 4 :: bx (γ36 0) (#[.slice p n cap]) 24 :: bx (γ1 3) (#[.slice none 0 0]) 24 :: bx (γ1 2) (#[.int .i64 many]) 3 :: bx (γ1 1) (#[.int .u64 wt]) 25 :: bx (γ1 0) (#[.slice p n cap]) 24 :: (Yo ++ (Yq ++ []))) (fun ⟨i, ez, Yq, L⟩ => i ≤ nu ∧ altX (weighF wt many) ts (placesE ts il) (il.take i) = ez ∧ (ez = 0 → L = (altL (weighF wt many) ts (il.take i))) ∧ SlO 35 Yq q49 n cq49 L) (fun ⟨i, ez, Yq, L⟩ => nu - i) (0, er, Y49, ts) (by kernel_rfl) rfl ⟨Nat.zero_le _, by rw [altX_start]; exact hpe, fun _ => altL_nil.symm, hO49⟩ ?_))))))))
      rintro ⟨i, ez, Yq, L⟩
      rintro ⟨hi, hX, hL, hOq⟩
      refine sq_ ?_
      by_cases q115 : ((i : Nat) : Int) < ((nu : Nat) : Int)
      ·
       refine qa [(0, .yes)] [0, 3, 7, 18, 19, 20] [(21, .bool true)] ([((i : Nat) : Int) < ((nu : Nat) : Int)]) (al1 q115) (ds_ (sq_ (t_ (at_skip (ds_ (sq_ (at_block (sq_ ?_))))))))
       have hln118 := hOo.len
       obtain ⟨g118, cs118, rfl, rfl, hOw118⟩ := hOo.rowOf (i := i) (by omega)
       obtain ⟨x120, hx120⟩ := get_some (l := (il.map (posI ts))) (m := i) (by omega)
       refine qa [(0, .at g118 0 i), (1, .go (ownps 12 (0 + i * 1) [.int .i64 x120]))] [0, 3, 7, 18, 19, 20] [(9, .int .i64 x120)] ([(some ⟨g118, 0, none⟩ : Option Addr) = some ⟨g118, 0, none⟩, (i : Nat) = ((i : Nat) : Int), i < nu] ++ (acellsP cs118 (0 + i * 1) [.int .i64 x120])) (alA (al2 rfl (al2 rfl (al1 (by omega)))) (rda_pre (hOw118.rdx hOo.len hx120) _ rfl)) (ds_ (sq_ (sq_ ?_)))
       by_cases q123 : (ez : Int) ≠ (0 : Int)
       ·
        refine qa [(1, .yes)] [0, 3, 7, 9, 18, 19, 20] [(25, .bool true)] ([(ez : Int) ≠ (0 : Int)]) (al1 q123) (ds_ (t_ (at_leave _ rfl (ds_ (sq_ ?_)))))
        have hXf : altX (weighF wt many) ts (placesE ts il) il = ez := (altX_stop (by rw [hX]; exact q123)).trans hX
        refine qa0 [] [] [(5, .int .i64 ez)] (ds_ (bk ([]) (.int .i64 ez) (qo0 1 [] [4, 7] [(8, .int .i64 ez)] (on_ (ds_ (sq_ (qa [(1, .yes)] [4, 7, 8] [(22, .bool true)] ([(ez : Int) ≠ (0 : Int)]) (al1 q123) (ds_ (t_ (sq_ (qa0 [(2, .go (owns 1 0 1))] [4] [(5, .int .i64 ez)] (ds_ (bk (owns 1 0 1) (.tuple #[.agg #[.slice none 0 0], .int .i64 ez]) (qo0 4 [(5, .go (owns 3 0 1))] [8] [(9, .int .i64 ez)] (on_ (ds_ (bk (owns 3 0 1) (.tuple #[.agg #[.slice none 0 0], .int .i64 ez]) (qo0 4 [(7, .go (owns 8 0 1))] [8] [(9, .int .i64 ez)] (on_ (ds_ (rt (owns 8 0 1) (.tuple #[.agg #[.slice none 0 0], .int .i64 ez]) ?_)))))))))))))))))))))
        exact fun w' hw => by rw [show weighV ts il wt many = alterV (weighF wt many) ts (wB wt && eachV many) il from rfl, alter_err q40 (by rw [show wB wt = true from decide_eq_true (by omega), q7]; rfl) (by rw [hXf]; omega), hXf]; exact ⟨none, 0, 0, [], rfl, SlO.nil, hw.below, hw.sub (List.nil_sublist _)⟩
       ·
        refine qa [(1, .no)] [0, 3, 7, 9, 18, 19, 20] [(25, .bool false)] ([¬ ((ez : Int) ≠ (0 : Int))]) (al1 q123) (ds_ (f_ (at_skip (ds_ ?_))))
        have her0 : ez = 0 := by omega
        obtain ⟨r132, hidr132, hgkr132, hp0r132, hp1r132, htsr132, hLrr132⟩ := round_at hgq (hX.trans her0) hx120
        have hLn := hOq.len
        have hLl : L.length = ts.length := by rw [hL her0, altL_len]
        rw [← hL her0] at hLrr132
        have hUr132 := hU r132 (List.mem_of_getElem? htsr132)
        have hbr132 := hgq.bnd (List.mem_of_getElem? htsr132)
        have hln134 := hOq.len
        obtain ⟨g134, cs134, rfl, rfl, hOw134⟩ := hOq.rowOf (i := (x120).toNat) (by omega)
        refine at_calmTo (f := 2) 7 rfl (by kernel_rfl) (by kernel_rfl) (by kernel_rfl) (by kernel_rfl) (by kernel_rfl) (by kernel_rfl) ?_
        refine cm 7 [(0, .go (owns 4 0 1)), (4, .go (owns 0 0 1)), (6, .at g134 0 ((x120).toNat))] [0, 3, 18, 19, 20] [(26, .func (.func 37) #[] #[.pointer (some ⟨γ1 2, 0, none⟩), .pointer (some ⟨γ1 1, 0, none⟩)]), (32, .pointer (some ⟨g134, 0 + ((x120).toNat) * 5, none⟩))] ([(some ⟨g134, 0, none⟩ : Option Addr) = some ⟨g134, 0, none⟩, x120 = (((x120).toNat : Nat) : Int), (x120).toNat < n]) (by kernel_rfl) rfl (al2 rfl (al2 (by omega) (al1 (by omega)))) ?_
        refine calm_nil' ?_
        refine done_pre (li' := #[true, true, true, true, true, true, true, false, false]) (by kernel_rfl) ?_
        refine a1 7 rfl ?_
        refine ops_inline (g := 37) (args := #[.pointer (some ⟨g134, 0 + ((x120).toNat) * 5, none⟩), .pointer (some ⟨γ1 2, 0, none⟩), .pointer (some ⟨γ1 1, 0, none⟩)]) (by kernel_rfl) (by kernel_rfl) (by kernel_rfl) (fun args w => Try.call37 args w) Try.func37 rfl Try.ntmps37 rfl (sq_ (qa0 [] [0, 1, 2] [] (ds_ (sq_ (ma [(1, .go (owns 9 0 1)), (4, .go (ownps 13 (0 + ((x120).toNat) * 5 + 1) [undef]))] [0, 2] (fun _ => []) (fun _ L => (L.set 13 (bx g134 ((cs134).setIfInBounds (0 + ((x120).toNat) * 5 + 1) (.int .i64 many)) 35))) (fun _ => [0 + ((x120).toNat) * 5 + 1 < (cs134).size]) (fun _ => (al1 (hOw134.room hOq.len hLrr132 (f := 1) (by decide)))) (fun _ => ds_ (sq_ ?_)))))))
        refine at_any (by kernel_rfl) ?_
        refine tk (m := 10) [0, 1, 2, 3] [] [2] [(10, .pointer (some ⟨g134, 0 + ((x120).toNat) * 5, none⟩)), (13, .pointer (some ⟨g134, 0 + ((x120).toNat) * 5 + 2, none⟩))] ([]) #[true, true, true, true, false, false, false, false, false, false, false, false, false, false] al0 ?_
        refine any_cut 8 #[true, true, true, true, true, true, false, false, false, false, false, false, false, false] ([(10, .pointer (some ⟨g134, 0 + ((x120).toNat) * 5, none⟩)), (14, .agg #[.int .u64 r132.th, .int .u64 r132.tl, .int .u64 r132.tw]), (15, .int .u64 wt)]) ([bx (γ50 0) (#[.slice (some ⟨g134, 0, none⟩) n cq49]) 24, bx (γ38 1) (#[.slice none 0 0]) 24, bx (γ38 0) (#[.slice p n cap]) 24, bx (γ36 4) (#[.slice none 0 0]) 24, bx (γ36 3) (#[.func (.func 37) #[] #[.pointer (some ⟨γ1 2, 0, none⟩), .pointer (some ⟨γ1 1, 0, none⟩)]]) 77, bx (γ36 2) (#[.slice pi m capi]) 41, bx (γ36 1) (#[.bool true]) 4, bx (γ36 0) (#[.slice p n cap]) 24, bx (γ1 3) (#[.slice none 0 0]) 24, bx (γ1 2) (#[.int .i64 many]) 3, bx (γ1 1) (#[.int .u64 wt]) 25, bx (γ1 0) (#[.slice p n cap]) 24, bx g118 cs118 3, bx g134 ((cs134).setIfInBounds (0 + ((x120).toNat) * 5 + 1) (.int .i64 many)) 35]) ?_ (fun hm => ?_)
        rotate_left
        ·
         refine any_fork [4, 5] (by kernel_rfl) (by simp) (each_cons _ rfl ?_ (each_cons _ rfl ?_ (each_nil)))
         ·
          refine qo 1 [(4, .go (ownps 13 (0 + ((x120).toNat) * 5 + 2) [.int .u64 r132.th, .int .u64 r132.tl, .int .u64 r132.tw]))] [2, 10] [(14, .agg #[.int .u64 r132.th, .int .u64 r132.tl, .int .u64 r132.tw])] (acellsP ((cs134).setIfInBounds (0 + ((x120).toNat) * 5 + 1) (.int .i64 many)) (0 + ((x120).toNat) * 5 + 2) [.int .u64 r132.th, .int .u64 r132.tl, .int .u64 r132.tw]) (rda_part ((hOw134.put (x' := (⟨r132.id, many, r132.th, r132.tl, r132.tw⟩ : Rn)) hOq.len hLrr132 (f := 1) (by decide) rfl).rdx (len_set hOq.len) (get_set hLrr132)) 2 _ rfl) ?_
          refine od_ ?_
          refine a1 5 rfl ?_
          refine qo0 1 [(5, .go (owns 10 0 1))] [10, 14] [(15, .int .u64 wt)] ?_
          refine od_ ?_
          exact any_weak hm [10, 14, 15] (by kernel_rfl) rfl rfl rfl
         ·
          refine qo0 1 [(5, .go (owns 10 0 1))] [10, 13] [(15, .int .u64 wt)] ?_
          refine od_ ?_
          refine a1 4 rfl ?_
          refine qo 1 [(4, .go (ownps 13 (0 + ((x120).toNat) * 5 + 2) [.int .u64 r132.th, .int .u64 r132.tl, .int .u64 r132.tw]))] [10, 15] [(14, .agg #[.int .u64 r132.th, .int .u64 r132.tl, .int .u64 r132.tw])] (acellsP ((cs134).setIfInBounds (0 + ((x120).toNat) * 5 + 1) (.int .i64 many)) (0 + ((x120).toNat) * 5 + 2) [.int .u64 r132.th, .int .u64 r132.tl, .int .u64 r132.tw]) (rda_part ((hOw134.put (x' := (⟨r132.id, many, r132.th, r132.tl, r132.tw⟩ : Rn)) hOq.len hLrr132 (f := 1) (by decide) rfl).rdx (len_set hOq.len) (get_set hLrr132)) 2 _ rfl) ?_
          refine od_ ?_
          exact any_weak hm [10, 14, 15] (by kernel_rfl) rfl rfl rfl
        refine a1 6 rfl ?_
        refine cD (.tuple #[.agg #[.int .u64 ((overV r132.t wt).1.hi), .int .u64 ((overV r132.t wt).1.lo), .int .u64 ((overV r132.t wt).1.w)], .int .i64 ((overV r132.t wt).2)]) Try.call38 (fun w hw => fover_t r132.t wt w hUr132.t) ?_
        refine od_ ?_
        refine tk (m := 2) [7, 8, 9, 10, 11] [] [] [(17, .agg #[.int .u64 ((overV r132.t wt).1.hi), .int .u64 ((overV r132.t wt).1.lo), .int .u64 ((overV r132.t wt).1.w)]), (18, .int .i64 ((overV r132.t wt).2)), (20, .pointer (some ⟨g134, 0 + ((x120).toNat) * 5 + 2, none⟩))] ([]) #[true, true, true, true, true, true, true, true, true, true, true, true, false, false] al0 ?_
        refine a1 12 rfl ?_
        refine mo 1 [(12, .go (ownps 13 (0 + ((x120).toNat) * 5 + 2) [undef, undef, undef]))] [18] (fun _ => []) (fun _ L => (L.set 13 (bx g134 (((((cs134).setIfInBounds (0 + ((x120).toNat) * 5 + 1) (.int .i64 many)).setIfInBounds (0 + ((x120).toNat) * 5 + 2) (.int .u64 ((overV r132.t wt).1.hi))).setIfInBounds (0 + ((x120).toNat) * 5 + 2 + 1) (.int .u64 ((overV r132.t wt).1.lo))).setIfInBounds (0 + ((x120).toNat) * 5 + 2 + 2) (.int .u64 ((overV r132.t wt).1.w))) 35))) (fun _ => [0 + ((x120).toNat) * 5 + 2 < ((cs134).setIfInBounds (0 + ((x120).toNat) * 5 + 1) (.int .i64 many)).size] ++ ([0 + ((x120).toNat) * 5 + 2 + 1 < (((cs134).setIfInBounds (0 + ((x120).toNat) * 5 + 1) (.int .i64 many)).setIfInBounds (0 + ((x120).toNat) * 5 + 2) (.int .u64 ((overV r132.t wt).1.hi))).size] ++ ([0 + ((x120).toNat) * 5 + 2 + 2 < ((((cs134).setIfInBounds (0 + ((x120).toNat) * 5 + 1) (.int .i64 many)).setIfInBounds (0 + ((x120).toNat) * 5 + 2) (.int .u64 ((overV r132.t wt).1.hi))).setIfInBounds (0 + ((x120).toNat) * 5 + 2 + 1) (.int .u64 ((overV r132.t wt).1.lo))).size]))) (fun _ => (alA (al1 (by exact (hOw134.put (x' := (⟨r132.id, many, r132.th, r132.tl, r132.tw⟩ : Rn)) hOq.len hLrr132 (f := 1) (by decide) rfl).room (len_set hOq.len) (get_set hLrr132) (f := 2) (by decide))) (alA (al1 (by have hrm := (hOw134.put (x' := (⟨r132.id, many, r132.th, r132.tl, r132.tw⟩ : Rn)) hOq.len hLrr132 (f := 1) (by decide) rfl).room (len_set hOq.len) (get_set hLrr132) (f := 3) (by decide); simp only [Array.size_setIfInBounds] at hrm ⊢; exact hrm)) (al1 (by have hrm := (hOw134.put (x' := (⟨r132.id, many, r132.th, r132.tl, r132.tw⟩ : Rn)) hOq.len hLrr132 (f := 1) (by decide) rfl).room (len_set hOq.len) (get_set hLrr132) (f := 4) (by decide); simp only [Array.size_setIfInBounds] at hrm ⊢; exact hrm))))) (fun _ => ?_)
        refine od_ ?_
        refine tk (m := 0) [13] [] [] [(4, .int .i64 ((overV r132.t wt).2))] ([]) #[true, true, true, true, true, true, true, true, true, true, true, true, true, true] al0 ?_
        refine any_nil (by kernel_rfl) ?_
        refine ds_ (sq_ (qa0 [] [] [(4, .int .i64 ((overV r132.t wt).2))] (ds_ (bk ([]) (.int .i64 ((overV r132.t wt).2)) ?_))))
        refine od_ ?_
        refine tk (m := 0) [8] [] [0, 3, 18, 19, 20] [(7, .int .i64 ((overV r132.t wt).2))] ([]) #[true, true, true, true, true, true, true, true, true] al0 ?_
        refine any_nil (by kernel_rfl) ?_
        refine done_block (ds_ (qa [(0, .fit)] [0, 3, 7, 18, 19] [(20, .int .i64 (i + 1 : Nat))] ([Fit .i64 ((i + 1 : Nat))]) (al1 (fit64 (by omega) (by omega))) ?_))
        exact dr [0, 3, 7, 18, 19, 20] (i + 1, (overV r132.t wt).2, [bx g134 (((((cs134).setIfInBounds (0 + ((x120).toNat) * 5 + 1) (.int .i64 many)).setIfInBounds (0 + ((x120).toNat) * 5 + 2) (.int .u64 ((overV r132.t wt).1.hi))).setIfInBounds (0 + ((x120).toNat) * 5 + 2 + 1) (.int .u64 ((overV r132.t wt).1.lo))).setIfInBounds (0 + ((x120).toNat) * 5 + 2 + 2) (.int .u64 ((overV r132.t wt).1.w))) 35], ((L.set ((x120).toNat) (⟨r132.id, many, r132.th, r132.tl, r132.tw⟩ : Rn)).set ((x120).toNat) (⟨r132.id, many, (overV r132.t wt).1.hi, (overV r132.t wt).1.lo, (overV r132.t wt).1.w⟩ : Rn))) ⟨by omega, by rw [altX_on (hX.trans her0) hidr132 hgkr132]; rfl, fun hz => (altS_eq hgq.rs htsr132 hidr132 (hL her0) (by first | rfl | simp only [List.set_set] <;> rfl)), (SlO.ofOwn ((hOw134.put (x' := (⟨r132.id, many, r132.th, r132.tl, r132.tw⟩ : Rn)) hOq.len hLrr132 (f := 1) (by decide) rfl).put3 (x' := (⟨r132.id, many, (overV r132.t wt).1.hi, (overV r132.t wt).1.lo, (overV r132.t wt).1.w⟩ : Rn)) (f := 2) (len_set hOq.len) (get_set hLrr132) (by decide) ⟨(⟨r132.id, many, (overV r132.t wt).1.hi, r132.tl, r132.tw⟩ : Rn), rfl⟩ ⟨(⟨r132.id, many, (overV r132.t wt).1.hi, (overV r132.t wt).1.lo, r132.tw⟩ : Rn), rfl⟩ rfl) (len_set (len_set hOq.len)))⟩
      ·
       refine qa [(0, .no)] [0, 3, 7, 18, 19, 20] [(21, .bool false)] ([¬ (((i : Nat) : Int) < ((nu : Nat) : Int))]) (al1 q115) (ds_ (sq_ (f_ (at_leave _ rfl (ds_ (sq_ ?_))))))
       have hXf : altX (weighF wt many) ts (placesE ts il) il = ez := (altX_all (by omega)).symm.trans hX
       refine qa0 [] [] [(5, .int .i64 ez)] (ds_ (bk ([]) (.int .i64 ez) (qo0 1 [] [4, 7] [(8, .int .i64 ez)] (on_ (ds_ (sq_ ?_))))))
       by_cases q158 : (ez : Int) ≠ (0 : Int)
       ·
        refine qa [(1, .yes)] [4, 7, 8] [(22, .bool true)] ([(ez : Int) ≠ (0 : Int)]) (al1 q158) (ds_ (t_ (sq_ (qa0 [(2, .go (owns 1 0 1))] [4] [(5, .int .i64 ez)] (ds_ (bk (owns 1 0 1) (.tuple #[.agg #[.slice none 0 0], .int .i64 ez]) (qo0 4 [(5, .go (owns 3 0 1))] [8] [(9, .int .i64 ez)] (on_ (ds_ (bk (owns 3 0 1) (.tuple #[.agg #[.slice none 0 0], .int .i64 ez]) (qo0 4 [(7, .go (owns 8 0 1))] [8] [(9, .int .i64 ez)] (on_ (ds_ (rt (owns 8 0 1) (.tuple #[.agg #[.slice none 0 0], .int .i64 ez]) ?_))))))))))))))
        exact fun w' hw => by rw [show weighV ts il wt many = alterV (weighF wt many) ts (wB wt && eachV many) il from rfl, alter_err q40 (by rw [show wB wt = true from decide_eq_true (by omega), q7]; rfl) (by rw [hXf]; omega), hXf]; exact ⟨none, 0, 0, [], rfl, SlO.nil, hw.below, hw.sub (List.nil_sublist _)⟩
       ·
        refine qa [(1, .no)] [4, 7, 8] [(22, .bool false)] ([¬ ((ez : Int) ≠ (0 : Int))]) (al1 q158) (ds_ (f_ (at_skip (ds_ (sq_ (ma0 [(0, .go (owns 0 0 1)), (1, .go (owns 1 0 1))] [4] (fun _ => [(5, .int .i64 0)]) (fun _ L => (L.set 1 (bx (γ38 1) (#[.slice q49 n cq49]) 24))) (fun _ => ds_ (bk (owns 1 0 1) (.tuple #[.agg #[.slice q49 n cq49], .int .i64 0]) (mo0 4 [(5, .go (owns 3 0 1))] [8] (fun _ => [(9, .int .i64 0)]) (fun _ L => (L.set 3 (bx (γ36 4) (#[.slice q49 n cq49]) 24))) (fun _ => on_ (ds_ (bk (owns 3 0 1) (.tuple #[.agg #[.slice q49 n cq49], .int .i64 0]) (mo0 4 [(7, .go (owns 8 0 1))] [8] (fun _ => [(9, .int .i64 0)]) (fun _ L => (L.set 8 (bx (γ1 3) (#[.slice q49 n cq49]) 24))) (fun _ => on_ (ds_ (rt (owns 8 0 1) (.tuple #[.agg #[.slice q49 n cq49], .int .i64 0]) ?_))))))))))))))))
        have hLf := hL (by omega)
        rw [altL_all (by omega)] at hLf
        subst hLf
        exact fun w' hw => by rw [show weighV ts il wt many = alterV (weighF wt many) ts (wB wt && eachV many) il from rfl, alter_ok q40 (by rw [show wB wt = true from decide_eq_true (by omega), q7]; rfl) (hXf.trans (by omega))]; exact ⟨_, _, _, _, rfl, hOq, hw.below, one_tail (Hs.pick [[bx (γ50 0) (#[.slice q49 n cq49]) 24], [bx (γ38 1) (#[.slice q49 n cq49]) 24], [bx (γ38 0) (#[.slice p n cap]) 24], [bx (γ36 4) (#[.slice q49 n cq49]) 24], [bx (γ36 3) (#[.func (.func 37) #[] #[.pointer (some ⟨γ1 2, 0, none⟩), .pointer (some ⟨γ1 1, 0, none⟩)]]) 77], [bx (γ36 2) (#[.slice pi m capi]) 41], [bx (γ36 1) (#[.bool true]) 4], [bx (γ36 0) (#[.slice p n cap]) 24], [bx (γ1 3) (#[.slice q49 n cq49]) 24], [bx (γ1 2) (#[.int .i64 many]) 3], [bx (γ1 1) (#[.int .u64 wt]) 25], [bx (γ1 0) (#[.slice p n cap]) 24], Yo, Yq] [13] [0, 1, 2, 3, 4, 5, 6, 7, 8, 9, 10, 11, 12] (by kernel_rfl) hw)⟩
  ·
   refine qa [(0, .go (owns 2 0 1)), (1, .yes), (3, .go (owns 2 0 1)), (4, .no)] [1, 4, 6, 7, 8] [(10, .bool false)] ([(wt : Int) ≥ (1 : Int)] ++ ([¬ ((wt : Int) ≤ (65535 : Int))])) (alA (al1 q3) (al1 q5)) (ds_ (sq_ (ao_ (qo0 4 [(0, .go (owns 3 0 1))] [8] [(21, .agg #[.slice p n cap]), (22, .bool false), (23, .slice pi m capi), (24, .func (.func 37) #[] #[.pointer (some ⟨γ1 2, 0, none⟩), .pointer (some ⟨γ1 1, 0, none⟩)])] (ops_inline (g := 36) (args := #[.agg #[.slice p n cap], .bool false, .slice pi m capi, .func (.func 37) #[] #[.pointer (some ⟨γ1 2, 0, none⟩), .pointer (some ⟨γ1 1, 0, none⟩)]]) (by kernel_rfl) (by kernel_rfl) (by kernel_rfl) (fun args w => Try.call36 args w) Try.func36 rfl Try.ntmps36 rfl (sq_ (ma0 [] [] (fun γ169 => [(4, .pointer (some ⟨γ169 0, 0, none⟩)), (5, .pointer (some ⟨γ169 1, 0, none⟩)), (6, .pointer (some ⟨γ169 2, 0, none⟩)), (7, .pointer (some ⟨γ169 3, 0, none⟩)), (8, .pointer (some ⟨γ169 4, 0, none⟩))]) (fun γ169 L => bx (γ169 4) (#[.slice none 0 0]) 24 :: bx (γ169 3) (#[.func (.func 37) #[] #[.pointer (some ⟨γ1 2, 0, none⟩), .pointer (some ⟨γ1 1, 0, none⟩)]]) 77 :: bx (γ169 2) (#[.slice pi m capi]) 41 :: bx (γ169 1) (#[.bool false]) 4 :: bx (γ169 0) (#[.slice p n cap]) 24 :: L) (fun γ169 => ds_ (sq_ (ao_ (qo0 2 [(0, .go (owns 4 0 1))] [8] [(10, .agg #[.slice p n cap]), (11, .func (.func 68) #[] #[.pointer (some ⟨γ169 1, 0, none⟩), .pointer (some ⟨γ169 2, 0, none⟩), .pointer (some ⟨γ169 3, 0, none⟩)])] (ops_inline (g := 56) (args := #[.agg #[.slice p n cap], .func (.func 68) #[] #[.pointer (some ⟨γ169 1, 0, none⟩), .pointer (some ⟨γ169 2, 0, none⟩), .pointer (some ⟨γ169 3, 0, none⟩)]]) (by kernel_rfl) (by kernel_rfl) (by kernel_rfl) (fun args w => Try.call56 args w) Try.func56 rfl Try.ntmps56 rfl (sq_ (ma0 [] [1] (fun γ171 => [(2, .pointer (some ⟨γ171 0, 0, none⟩)), (4, .pointer (some ⟨γ171 1, 0, none⟩))]) (fun γ171 L => bx (γ171 1) (#[.slice none 0 0]) 24 :: bx (γ171 0) (#[.slice p n cap]) 24 :: L) (fun γ171 => ds_ (sq_ (sq_ (ao_ (qo0 1 [(0, .go (owns 1 0 1))] [1, 2, 4] [(9, .agg #[.slice p n cap])] ?_)))))))))))))))))))
   rcases q173 : chkQ ts with _ | _
   ·
    refine cD (.int .i64 200) Try.call20 (fun w hw => by have := qcheck_t p n cap ts w (hts.kept hw.below) hn (by omega); rw [q173] at this; exact this) (qo0 1 [] [1, 2, 4] [(6, .int .i64 200)] (on_ (ds_ (sq_ (qa0 [] [1, 2, 4, 6] [(12, .bool true)] (ds_ (t_ (sq_ (qa0 [(2, .go (owns 0 0 1))] [4] [(5, .int .i64 200)] (ds_ (bk (owns 0 0 1) (.tuple #[.agg #[.slice none 0 0], .int .i64 200]) (qo0 4 [(5, .go (owns 2 0 1))] [8] [(9, .int .i64 200)] (on_ (ds_ (bk (owns 2 0 1) (.tuple #[.agg #[.slice none 0 0], .int .i64 200]) (qo0 4 [(7, .go (owns 7 0 1))] [8] [(9, .int .i64 200)] (on_ (ds_ (rt (owns 7 0 1) (.tuple #[.agg #[.slice none 0 0], .int .i64 200]) ?_)))))))))))))))))))
    exact fun w' hw => by rw [show weighV ts il wt many = alterV (weighF wt many) ts (wB wt && eachV many) il from rfl, alter_bad q173]; exact ⟨none, 0, 0, [], rfl, SlO.nil, hw.below, hw.sub (List.nil_sublist _)⟩
   ·
    refine cD (.int .i64 0) Try.call20 (fun w hw => by have := qcheck_t p n cap ts w (hts.kept hw.below) hn (by omega); rw [q173] at this; exact this) (qo0 1 [] [1, 2, 4] [(6, .int .i64 0)] (on_ (ds_ (sq_ (qa0 [] [1, 2, 4, 6] [(12, .bool false)] (ds_ (f_ (at_skip (ds_ (sq_ ?_))))))))))
    have hgq := chk_iff.1 q173
    have hlq := hgq.len
    refine ao_ (qo0 2 [(1, .go (owns 1 0 1))] [1, 4] [(16, .slice p n cap)] (cP (fun v L' => ∃ q_ c_ Y_, v = .slice q_ n c_ ∧ L' = List.take 11 ([bx (γ171 1) (#[.slice none 0 0]) 24, bx (γ171 0) (#[.slice p n cap]) 24, bx (γ169 4) (#[.slice none 0 0]) 24, bx (γ169 3) (#[.func (.func 37) #[] #[.pointer (some ⟨γ1 2, 0, none⟩), .pointer (some ⟨γ1 1, 0, none⟩)]]) 77, bx (γ169 2) (#[.slice pi m capi]) 41, bx (γ169 1) (#[.bool false]) 4, bx (γ169 0) (#[.slice p n cap]) 24, bx (γ1 3) (#[.slice none 0 0]) 24, bx (γ1 2) (#[.int .i64 many]) 3, bx (γ1 1) (#[.int .u64 wt]) 25, bx (γ1 0) (#[.slice p n cap]) 24]) ++ (Y_ ++ List.drop 11 ([bx (γ171 1) (#[.slice none 0 0]) 24, bx (γ171 0) (#[.slice p n cap]) 24, bx (γ169 4) (#[.slice none 0 0]) 24, bx (γ169 3) (#[.func (.func 37) #[] #[.pointer (some ⟨γ1 2, 0, none⟩), .pointer (some ⟨γ1 1, 0, none⟩)]]) 77, bx (γ169 2) (#[.slice pi m capi]) 41, bx (γ169 1) (#[.bool false]) 4, bx (γ169 0) (#[.slice p n cap]) 24, bx (γ1 3) (#[.slice none 0 0]) 24, bx (γ1 2) (#[.int .i64 many]) 3, bx (γ1 1) (#[.int .u64 wt]) 25, bx (γ1 0) (#[.slice p n cap]) 24])) ∧ SlO 35 Y_ q_ n c_ ts) Try.call78 (fun w hw => (qclone_t p n cap ts w (hts.kept hw.below) hn (by omega)).mono fun e w' ⟨q_, c_, Y_, he, hO, hb, hY⟩ => ⟨_, _, he, ⟨q_, c_, Y_, rfl, rfl, hO⟩, hw.join hb hY 11⟩) ?_))
    rintro v182 L182 ⟨q182, cq182, Y182, rfl, rfl, hO182⟩
    refine mo0 3 [(5, .go (owns 0 0 1))] [1, 4] (fun γ183 => [(7, .pointer (some ⟨γ183 0, 0, none⟩))]) (fun γ183 L => bx (γ183 0) (#[.slice q182 n cq182]) 24 :: L) (fun γ183 => on_ (ds_ (sq_ (sq_ (ao_ (qo0 1 [] [4, 7] [(19, .func (.func 68) #[] #[.pointer (some ⟨γ169 1, 0, none⟩), .pointer (some ⟨γ169 2, 0, none⟩), .pointer (some ⟨γ169 3, 0, none⟩)])] (ops_inline (g := 68) (args := #[.pointer (some ⟨γ183 0, 0, none⟩), .pointer (some ⟨γ169 1, 0, none⟩), .pointer (some ⟨γ169 2, 0, none⟩), .pointer (some ⟨γ169 3, 0, none⟩)]) (by kernel_rfl) (by kernel_rfl) (by kernel_rfl) (fun args w => Try.call68 args w) Try.func68 rfl Try.ntmps68 rfl (sq_ (qa0 [] [0, 1, 2, 3] [] (ds_ (sq_ (sq_ (qa0 [(0, .go (owns 6 0 1))] [0, 2, 3] [(11, .bool true)] (ds_ (t_ (sq_ (qa0 [] [] [(5, .int .i64 2)] (ds_ (bk ([]) (.int .i64 2) (qo0 1 [] [4, 7] [(8, .int .i64 2)] (on_ (ds_ (sq_ (qa0 [] [4, 7, 8] [(22, .bool true)] (ds_ (t_ (sq_ (qa0 [(2, .go (owns 1 0 1))] [4] [(5, .int .i64 2)] (ds_ (bk (owns 1 0 1) (.tuple #[.agg #[.slice none 0 0], .int .i64 2]) (qo0 4 [(5, .go (owns 3 0 1))] [8] [(9, .int .i64 2)] (on_ (ds_ (bk (owns 3 0 1) (.tuple #[.agg #[.slice none 0 0], .int .i64 2]) (qo0 4 [(7, .go (owns 8 0 1))] [8] [(9, .int .i64 2)] (on_ (ds_ (rt (owns 8 0 1) (.tuple #[.agg #[.slice none 0 0], .int .i64 2]) ?_))))))))))))))))))))))))))))))))))))))
    exact fun w' hw => by rw [show weighV ts il wt many = alterV (weighF wt many) ts (wB wt && eachV many) il from rfl, alter_arg q173 (by rw [show wB wt = false from decide_eq_false (by omega)]; rfl)]; exact ⟨none, 0, 0, [], rfl, SlO.nil, hw.below, hw.sub (List.nil_sublist _)⟩
 ·
  refine qa [(0, .go (owns 2 0 1)), (1, .no)] [1, 4, 6, 7, 8] [(10, .bool false)] ([¬ ((wt : Int) ≥ (1 : Int))]) (al1 q3) (ds_ (sq_ (ao_ (qo0 4 [(0, .go (owns 3 0 1))] [8] [(21, .agg #[.slice p n cap]), (22, .bool false), (23, .slice pi m capi), (24, .func (.func 37) #[] #[.pointer (some ⟨γ1 2, 0, none⟩), .pointer (some ⟨γ1 1, 0, none⟩)])] (ops_inline (g := 36) (args := #[.agg #[.slice p n cap], .bool false, .slice pi m capi, .func (.func 37) #[] #[.pointer (some ⟨γ1 2, 0, none⟩), .pointer (some ⟨γ1 1, 0, none⟩)]]) (by kernel_rfl) (by kernel_rfl) (by kernel_rfl) (fun args w => Try.call36 args w) Try.func36 rfl Try.ntmps36 rfl (sq_ (ma0 [] [] (fun γ195 => [(4, .pointer (some ⟨γ195 0, 0, none⟩)), (5, .pointer (some ⟨γ195 1, 0, none⟩)), (6, .pointer (some ⟨γ195 2, 0, none⟩)), (7, .pointer (some ⟨γ195 3, 0, none⟩)), (8, .pointer (some ⟨γ195 4, 0, none⟩))]) (fun γ195 L => bx (γ195 4) (#[.slice none 0 0]) 24 :: bx (γ195 3) (#[.func (.func 37) #[] #[.pointer (some ⟨γ1 2, 0, none⟩), .pointer (some ⟨γ1 1, 0, none⟩)]]) 77 :: bx (γ195 2) (#[.slice pi m capi]) 41 :: bx (γ195 1) (#[.bool false]) 4 :: bx (γ195 0) (#[.slice p n cap]) 24 :: L) (fun γ195 => ds_ (sq_ (ao_ (qo0 2 [(0, .go (owns 4 0 1))] [8] [(10, .agg #[.slice p n cap]), (11, .func (.func 68) #[] #[.pointer (some ⟨γ195 1, 0, none⟩), .pointer (some ⟨γ195 2, 0, none⟩), .pointer (some ⟨γ195 3, 0, none⟩)])] (ops_inline (g := 56) (args := #[.agg #[.slice p n cap], .func (.func 68) #[] #[.pointer (some ⟨γ195 1, 0, none⟩), .pointer (some ⟨γ195 2, 0, none⟩), .pointer (some ⟨γ195 3, 0, none⟩)]]) (by kernel_rfl) (by kernel_rfl) (by kernel_rfl) (fun args w => Try.call56 args w) Try.func56 rfl Try.ntmps56 rfl (sq_ (ma0 [] [1] (fun γ197 => [(2, .pointer (some ⟨γ197 0, 0, none⟩)), (4, .pointer (some ⟨γ197 1, 0, none⟩))]) (fun γ197 L => bx (γ197 1) (#[.slice none 0 0]) 24 :: bx (γ197 0) (#[.slice p n cap]) 24 :: L) (fun γ197 => ds_ (sq_ (sq_ (ao_ (qo0 1 [(0, .go (owns 1 0 1))] [1, 2, 4] [(9, .agg #[.slice p n cap])] ?_)))))))))))))))))))
  rcases q199 : chkQ ts with _ | _
  ·
   refine cD (.int .i64 200) Try.call20 (fun w hw => by have := qcheck_t p n cap ts w (hts.kept hw.below) hn (by omega); rw [q199] at this; exact this) (qo0 1 [] [1, 2, 4] [(6, .int .i64 200)] (on_ (ds_ (sq_ (qa0 [] [1, 2, 4, 6] [(12, .bool true)] (ds_ (t_ (sq_ (qa0 [(2, .go (owns 0 0 1))] [4] [(5, .int .i64 200)] (ds_ (bk (owns 0 0 1) (.tuple #[.agg #[.slice none 0 0], .int .i64 200]) (qo0 4 [(5, .go (owns 2 0 1))] [8] [(9, .int .i64 200)] (on_ (ds_ (bk (owns 2 0 1) (.tuple #[.agg #[.slice none 0 0], .int .i64 200]) (qo0 4 [(7, .go (owns 7 0 1))] [8] [(9, .int .i64 200)] (on_ (ds_ (rt (owns 7 0 1) (.tuple #[.agg #[.slice none 0 0], .int .i64 200]) ?_)))))))))))))))))))
   exact fun w' hw => by rw [show weighV ts il wt many = alterV (weighF wt many) ts (wB wt && eachV many) il from rfl, alter_bad q199]; exact ⟨none, 0, 0, [], rfl, SlO.nil, hw.below, hw.sub (List.nil_sublist _)⟩
  ·
   refine cD (.int .i64 0) Try.call20 (fun w hw => by have := qcheck_t p n cap ts w (hts.kept hw.below) hn (by omega); rw [q199] at this; exact this) (qo0 1 [] [1, 2, 4] [(6, .int .i64 0)] (on_ (ds_ (sq_ (qa0 [] [1, 2, 4, 6] [(12, .bool false)] (ds_ (f_ (at_skip (ds_ (sq_ ?_))))))))))
   have hgq := chk_iff.1 q199
   have hlq := hgq.len
   refine ao_ (qo0 2 [(1, .go (owns 1 0 1))] [1, 4] [(16, .slice p n cap)] (cP (fun v L' => ∃ q_ c_ Y_, v = .slice q_ n c_ ∧ L' = List.take 11 ([bx (γ197 1) (#[.slice none 0 0]) 24, bx (γ197 0) (#[.slice p n cap]) 24, bx (γ195 4) (#[.slice none 0 0]) 24, bx (γ195 3) (#[.func (.func 37) #[] #[.pointer (some ⟨γ1 2, 0, none⟩), .pointer (some ⟨γ1 1, 0, none⟩)]]) 77, bx (γ195 2) (#[.slice pi m capi]) 41, bx (γ195 1) (#[.bool false]) 4, bx (γ195 0) (#[.slice p n cap]) 24, bx (γ1 3) (#[.slice none 0 0]) 24, bx (γ1 2) (#[.int .i64 many]) 3, bx (γ1 1) (#[.int .u64 wt]) 25, bx (γ1 0) (#[.slice p n cap]) 24]) ++ (Y_ ++ List.drop 11 ([bx (γ197 1) (#[.slice none 0 0]) 24, bx (γ197 0) (#[.slice p n cap]) 24, bx (γ195 4) (#[.slice none 0 0]) 24, bx (γ195 3) (#[.func (.func 37) #[] #[.pointer (some ⟨γ1 2, 0, none⟩), .pointer (some ⟨γ1 1, 0, none⟩)]]) 77, bx (γ195 2) (#[.slice pi m capi]) 41, bx (γ195 1) (#[.bool false]) 4, bx (γ195 0) (#[.slice p n cap]) 24, bx (γ1 3) (#[.slice none 0 0]) 24, bx (γ1 2) (#[.int .i64 many]) 3, bx (γ1 1) (#[.int .u64 wt]) 25, bx (γ1 0) (#[.slice p n cap]) 24])) ∧ SlO 35 Y_ q_ n c_ ts) Try.call78 (fun w hw => (qclone_t p n cap ts w (hts.kept hw.below) hn (by omega)).mono fun e w' ⟨q_, c_, Y_, he, hO, hb, hY⟩ => ⟨_, _, he, ⟨q_, c_, Y_, rfl, rfl, hO⟩, hw.join hb hY 11⟩) ?_))
   rintro v208 L208 ⟨q208, cq208, Y208, rfl, rfl, hO208⟩
   refine mo0 3 [(5, .go (owns 0 0 1))] [1, 4] (fun γ209 => [(7, .pointer (some ⟨γ209 0, 0, none⟩))]) (fun γ209 L => bx (γ209 0) (#[.slice q208 n cq208]) 24 :: L) (fun γ209 => on_ (ds_ (sq_ (sq_ (ao_ (qo0 1 [] [4, 7] [(19, .func (.func 68) #[] #[.pointer (some ⟨γ195 1, 0, none⟩), .pointer (some ⟨γ195 2, 0, none⟩), .pointer (some ⟨γ195 3, 0, none⟩)])] (ops_inline (g := 68) (args := #[.pointer (some ⟨γ209 0, 0, none⟩), .pointer (some ⟨γ195 1, 0, none⟩), .pointer (some ⟨γ195 2, 0, none⟩), .pointer (some ⟨γ195 3, 0, none⟩)]) (by kernel_rfl) (by kernel_rfl) (by kernel_rfl) (fun args w => Try.call68 args w) Try.func68 rfl Try.ntmps68 rfl (sq_ (qa0 [] [0, 1, 2, 3] [] (ds_ (sq_ (sq_ (qa0 [(0, .go (owns 6 0 1))] [0, 2, 3] [(11, .bool true)] (ds_ (t_ (sq_ (qa0 [] [] [(5, .int .i64 2)] (ds_ (bk ([]) (.int .i64 2) (qo0 1 [] [4, 7] [(8, .int .i64 2)] (on_ (ds_ (sq_ (qa0 [] [4, 7, 8] [(22, .bool true)] (ds_ (t_ (sq_ (qa0 [(2, .go (owns 1 0 1))] [4] [(5, .int .i64 2)] (ds_ (bk (owns 1 0 1) (.tuple #[.agg #[.slice none 0 0], .int .i64 2]) (qo0 4 [(5, .go (owns 3 0 1))] [8] [(9, .int .i64 2)] (on_ (ds_ (bk (owns 3 0 1) (.tuple #[.agg #[.slice none 0 0], .int .i64 2]) (qo0 4 [(7, .go (owns 8 0 1))] [8] [(9, .int .i64 2)] (on_ (ds_ (rt (owns 8 0 1) (.tuple #[.agg #[.slice none 0 0], .int .i64 2]) ?_))))))))))))))))))))))))))))))))))))))
   exact fun w' hw => by rw [show weighV ts il wt many = alterV (weighF wt many) ts (wB wt && eachV many) il from rfl, alter_arg q199 (by rw [show wB wt = false from decide_eq_false (by omega)]; rfl)]; exact ⟨none, 0, 0, [], rfl, SlO.nil, hw.below, hw.sub (List.nil_sublist _)⟩
end Go.Proofs.Ytnhkecfapohlgaa

/-! What comes of changes; plain. -/
namespace Go.Proofs.Ytnhkecfapohlgaa
open Go Go.RowKit

section
variable {f : Rn → Rn × Int} {ts : List Rn} {l : List Int} {x y r : Rn} {j i : Nat} {k e e0 la : Int} {ok : Bool}
/-- What a change keeps. -/
def Keeps (f : Rn → Rn × Int) : Prop := ∀ r : Rn, rnB r = true → r.U → (f r).2 = 0 → rnB (f r).1 = true ∧ (f r).1.id = r.id ∧ (f r).1.U
theorem altE_zero : altE f ts l = 0 ↔ ∀ k ∈ l, errF f ts k = 0 := by
  induction l with
  | nil => simp [altE]
  | cons k l ih =>
    rw [altE]
    by_cases h : errF f ts k = 0
    · rw [if_neg (by omega), ih]; simp [h]
    · rw [if_pos h]; simp [h]
structure AltOk (f : Rn → Rn × Int) (ts : List Rn) (ok : Bool) (l : List Int) : Prop where
  good : GoodQ ts
  yes : ok = true
  ris : risI l = true
  has : ∀ k ∈ l, ∃ r, getK Rn.id ts k = some r ∧ (f r).2 = 0
  eq : (alterV f ts ok l).1 = altL f ts l
theorem alter_yes (h : (alterV f ts ok l).2 = 0) : AltOk f ts ok l := by
  cases hc : chkQ ts with
  | false => rw [alter_bad hc] at h; cases h
  | true =>
    cases hk : ok with
    | false => rw [alter_arg hc hk] at h; cases h
    | true =>
      subst hk
      by_cases hx : altX f ts (placesE ts l) l = 0
      · obtain ⟨h0, h1⟩ := altX_e0 hx
        obtain ⟨h2, h3⟩ := places_zero.1 h0
        refine ⟨chk_iff.1 hc, rfl, h2, fun k hk => ?_, by rw [alter_ok hc rfl hx]⟩
        have h4 := h3 k hk
        have h5 := altE_zero.1 h1 k hk
        unfold hasQ at h4
        unfold errF at h5
        cases hg : getK Rn.id ts k with
        | none => rw [hg] at h4; cases h4
        | some r => rw [hg] at h5; exact ⟨r, rfl, h5⟩
      · rw [alter_err hc rfl hx] at h; exact absurd h hx
theorem alter_nil (h : (alterV f ts ok l).2 ≠ 0) : (alterV f ts ok l).1 = [] := by
  cases hc : chkQ ts with
  | false => rw [alter_bad hc]
  | true =>
    cases hk : ok with
    | false => rw [alter_arg hc rfl]
    | true =>
      by_cases hx : altX f ts (placesE ts l) l = 0
      · rw [hk, alter_ok hc rfl hx] at h; exact absurd rfl h
      · rw [alter_err hc rfl hx]
theorem alter_len : (alterV f ts ok l).1.length ≤ ts.length := by
  by_cases h : (alterV f ts ok l).2 = 0
  · rw [(alter_yes h).eq, altL_len]; exact Nat.le_refl _
  · rw [alter_nil h]; simp
theorem mem_altL (h : x ∈ altL f ts l) : ∃ r ∈ ts, x = if r.id ∈ l then (f r).1 else r := by
  unfold altL at h
  obtain ⟨r, hr, rfl⟩ := List.mem_map.1 h
  exact ⟨r, hr, rfl⟩
theorem AltOk.err (h : AltOk f ts ok l) (hr : r ∈ ts) (hl : r.id ∈ l) : (f r).2 = 0 := by
  obtain ⟨r', hg, he⟩ := h.has _ hl
  have := (getK_iff h.good.rs).2 ⟨hr, rfl⟩
  rw [hg] at this
  cases this; exact he
theorem AltOk.U (h : AltOk f ts ok l) (hf : Keeps f) (hU : ∀ r ∈ ts, r.U) : ∀ r ∈ altL f ts l, r.U := by
  intro x hx
  obtain ⟨r, hr, rfl⟩ := mem_altL hx
  by_cases hl : r.id ∈ l
  · rw [if_pos hl]; exact (hf r (h.good.rn r hr) (hU r hr) (h.err hr hl)).2.2
  · rw [if_neg hl]; exact hU r hr
theorem alter_U (hf : Keeps f) (hU : ∀ r ∈ ts, r.U) : ∀ r ∈ (alterV f ts ok l).1, r.U := by
  by_cases h : (alterV f ts ok l).2 = 0
  · rw [(alter_yes h).eq]; exact (alter_yes h).U hf hU
  · rw [alter_nil h]; intro r hr; cases hr
theorem AltOk.idk (h : AltOk f ts ok l) (hf : Keeps f) (hU : ∀ r ∈ ts, r.U) (hr : r ∈ ts) : (if r.id ∈ l then (f r).1 else r).id = r.id := by
  by_cases hl : r.id ∈ l
  · rw [if_pos hl]; exact (hf r (h.good.rn r hr) (hU r hr) (h.err hr hl)).2.1
  · rw [if_neg hl]
theorem AltOk.chk (h : AltOk f ts ok l) (hf : Keeps f) (hU : ∀ r ∈ ts, r.U) : GoodQ (altL f ts l) := by
  refine ⟨?_, fun x hx => ?_⟩
  · unfold altL Ris
    rw [List.pairwise_map]
    refine List.Pairwise.imp_of_mem (fun {a b} ha hb hab => ?_) h.good.rs
    rw [h.idk hf hU ha, h.idk hf hU hb]; exact hab
  · obtain ⟨r, hr, rfl⟩ := mem_altL hx
    by_cases hl : r.id ∈ l
    · rw [if_pos hl]; exact (hf r (h.good.rn r hr) (hU r hr) (h.err hr hl)).1
    · rw [if_neg hl]; exact h.good.rn r hr
theorem AltOk.get (h : AltOk f ts ok l) (hf : Keeps f) (hU : ∀ r ∈ ts, r.U) (hg : getK Rn.id ts k = some r) : getK Rn.id (altL f ts l) k = some (if r.id ∈ l then (f r).1 else r) := by
  obtain ⟨hm, hid⟩ := (getK_iff h.good.rs).1 hg
  refine (getK_iff (h.chk hf hU).rs).2 ⟨?_, by rw [h.idk hf hU hm, hid]⟩
  unfold altL
  exact List.mem_map.2 ⟨r, hm, rfl⟩
end
/- the order of fractions -/
section
variable {a b f t : Fq} {n w s x y d : Int}
theorem up_le (hd : 1 ≤ d) : x ≤ upD x d * d := by
  unfold upD
  have h1 := Int.mul_ediv_add_emod (x + d - 1) d
  have h2 := Int.emod_lt_of_pos (x + d - 1) (show 0 < d by omega)
  rw [Int.mul_comm] at h1
  omega
theorem up_lt (hd : 1 ≤ d) : (upD x d - 1) * d < x := by
  unfold upD
  have h1 := Int.mul_ediv_add_emod (x + d - 1) d
  have h2 := Int.emod_nonneg (x + d - 1) (show d ≠ 0 by omega)
  rw [Int.mul_comm] at h1
  rw [Int.sub_mul]
  omega
theorem cmpI_neg : cmpI x y < 0 ↔ x < y := by unfold cmpI; split <;> (try split) <;> omega
theorem cmp_yes (ha : a.ok = true) (hb : b.ok = true) : cmpF a b = cmpI (a.num * b.w) (b.num * a.w) := cmpF_yes (by rw [ha, hb]; rfl)
structure OverOk (f : Fq) (w : Int) : Prop where
  eq : (overV f w).1 = mkF (upD (f.num * w) f.w) w
  U : (overV f w).1.U
  ok : (overV f w).1.ok = true
  num : (overV f w).1.num = upD (f.num * w) f.w
  lt : upD (f.num * w) f.w < 1267650600228229401496703205376
theorem over_cases (hU : f.U) (hk : f.ok = true) (hw : wB w = true) : (overV f w).2 = 0 ∧ OverOk f w ∨ (overV f w).2 = 131 ∧ ¬ upD (f.num * w) f.w < 1267650600228229401496703205376 := by
  rw [over_yes hk hw]
  by_cases h : hiV (upD (f.num * w) f.w) < 68719476736
  · rw [with_yes rfl h]
    have e : (overV f w).1 = mkF (upD (f.num * w) f.w) w := by rw [over_yes hk hw, with_yes rfl h]
    have hw2 := wB_iff.1 hw
    refine .inl ⟨rfl, e, over_U hU, ?_, by rw [e]; exact num_mk, hi_36.1 h⟩
    rw [e]; exact ok_yes hw2.1 hw2.2 h
  · rw [with_no (.inr h)]; exact .inr ⟨rfl, fun n => h (hi_36.2 n)⟩
theorem over_ok0 (hU : f.U) (hk : f.ok = true) (hw : wB w = true) (h : (overV f w).2 = 0) : OverOk f w := by
  rcases over_cases hU hk hw with h1 | h1
  · exact h1.2
  · omega
/-- Over another weight a value is no less. -/
theorem over_ge (hU : f.U) (hk : f.ok = true) (hw : wB w = true) (h : (overV f w).2 = 0) : 0 ≤ cmpF (overV f w).1 f := by
  have o := over_ok0 hU hk hw h
  rw [cmp_yes o.ok hk, o.num, o.eq]
  have := up_le (x := f.num * w) (d := f.w) (ok_iff.1 hk).1.1
  have h2 := cmpI_neg (x := upD (f.num * w) f.w * f.w) (y := f.num * w)
  simp only at h2 ⊢
  omega
theorem less_ok (hU : f.U) (hk : f.ok = true) (hn : 0 ≤ n) : (lessV f n).2 = 0 ∧ (lessV f n).1.ok = true ∧ (lessV f n).1.num = subV f.num n ∧ (lessV f n).1.w = f.w := by
  rw [less_yesV hk]
  have h1 := ok_iff.1 hk
  exact ⟨rfl, ok_yes h1.1.1 h1.1.2 (hi_36.2 (less_r hU hk hn).2), num_mk, rfl⟩
theorem num_zero (hU : f.U) : f.num = 0 ↔ f.hi = 0 ∧ f.lo = 0 := by
  have := hU.h0; have := hU.l0
  unfold Fq.num numV
  constructor
  · intro h; omega
  · rintro ⟨h1, h2⟩; rw [h1, h2]; rfl
/-- and by less than one over the weight more. -/
theorem over_less (hU : f.U) (hk : f.ok = true) (hw : wB w = true) (h : (overV f w).2 = 0) : (lessV (overV f w).1 1).2 = 0 ∧ (¬ (overV f w).1.num = 0 → cmpF (lessV (overV f w).1 1).1 f < 0) := by
  have o := over_ok0 hU hk hw h
  obtain ⟨l0, l1, l2, l3⟩ := less_ok o.U o.ok (show (0 : Int) ≤ 1 by decide)
  refine ⟨l0, fun hn => ?_⟩
  rw [cmp_yes l1 hk, cmpI_neg, l2, l3, o.num]
  rw [o.num] at hn
  have h0 : 0 ≤ upD (f.num * w) f.w := (upN_r hU hk hw).1
  rw [sub_ge (by omega), o.eq]
  exact up_lt (ok_iff.1 hk).1.1
/-- Over a weight and back it is no less. -/
theorem over_back (hU : f.U) (hk : f.ok = true) (hw : wB w = true) (h : (overV f w).2 = 0) (h2 : (overV (overV f w).1 f.w).2 = 0) : 0 ≤ cmpF (overV (overV f w).1 f.w).1 f := by
  have o := over_ok0 hU hk hw h
  have hw2 := wB_of hk
  have o2 := over_ok0 o.U o.ok hw2 h2
  have h3 := ok_iff.1 hk
  have h4 := wB_iff.1 hw
  rw [cmp_yes o2.ok hk, o2.num, o2.eq, o.num]
  have ew : (overV f w).1.w = w := by rw [o.eq]
  rw [ew]
  have a1 := up_le (x := f.num * w) (d := f.w) h3.1.1
  have a2 := up_le (x := upD (f.num * w) f.w * f.w) (d := w) h4.1
  have a3 : f.num * w ≤ upD (upD (f.num * w) f.w * f.w) w * w := Int.le_trans a1 a2
  have a4 := Int.le_of_mul_le_mul_right a3 (show 0 < w by omega)
  have a5 : f.num * f.w ≤ upD (upD (f.num * w) f.w * f.w) w * f.w := Int.mul_le_mul_of_nonneg_right a4 (by omega)
  have h6 := cmpI_neg (x := upD (upD (f.num * w) f.w * f.w) w * f.w) (y := f.num * f.w)
  simp only at h6 ⊢
  omega
end
section
variable {ts : List Rn} {l : List Int} {r : Rn} {k wt many dt : Int}
theorem keeps_weigh (hw : wB wt = true) (hm : eachV many = true) : Keeps (weighF wt many) := fun r hr hU he => by
  have hb := rnB_iff.1 hr
  have o := over_ok0 hU.t hb.2.2 hw he
  have hm2 := eachV_iff.1 hm
  exact ⟨rnB_iff.2 ⟨hb.1, eachV_iff.1 hm, o.ok⟩, rfl, ⟨hU.i0, hU.i1, by show _ ≤ many; omega, by show many ≤ _; omega, o.U⟩⟩
theorem weigh_U (hU : ∀ r ∈ ts, r.U) : ∀ r ∈ (weighV ts l wt many).1, r.U := by
  by_cases h : (weighV ts l wt many).2 = 0
  · have ok := (alter_yes h).yes
    exact alter_U (keeps_weigh (and_l ok) (and_r ok)) hU
  · intro r hr; rw [weighV, alter_nil h] at hr; cases hr
theorem weigh_len : (weighV ts l wt many).1.length ≤ ts.length := alter_len
theorem weigh_nil (h : (weighV ts l wt many).2 ≠ 0) : (weighV ts l wt many).1 = [] := alter_nil h
theorem one_has {f : Rn → Rn × Int} {ok : Bool} (h : AltOk f ts ok [k]) : ∃ r, getQ ts k = some r ∧ (f r).2 = 0 ∧ r.id = k ∧ r ∈ ts := by
  obtain ⟨r, hg, he⟩ := h.has k (List.mem_cons_self ..)
  obtain ⟨hm, hid⟩ := (getK_iff h.good.rs).1 hg
  exact ⟨r, by rw [getQ_ok (chk_iff.2 h.good)]; exact hg, he, hid, hm⟩
theorem risI_one (h : idV k = true) : risI [k] = true := by unfold risI; simp [risK, h]
/-- VtimeWeighs, told by what is reckoned. -/
structure WeighFacts (ts : List Rn) (k wt many : Int) (r : Rn) : Prop where
  U : r.U
  get : getQ ts k = some r
  get2 : getQ (weighV ts [k] wt many).1 k = some (weighF wt many r).1
  U2 : (weighF wt many r).1.U
  tt : (weighF wt many r).1.t = (overV r.t wt).1
  tw : (overV r.t wt).1.w = wt
  Uo : (overV r.t wt).1.U
  ge : 0 ≤ cmpF (overV r.t wt).1 r.t
  ls : (lessV (overV r.t wt).1 1).2 = 0
  lt : ¬ ((overV r.t wt).1.hi = 0 ∧ (overV r.t wt).1.lo = 0) → cmpF (lessV (overV r.t wt).1 1).1 r.t < 0
  err : (weighV (weighV ts [k] wt many).1 [k] r.tw r.each).2 = 0 ∨ (weighV (weighV ts [k] wt many).1 [k] r.tw r.each).2 = 131
  back : (weighV (weighV ts [k] wt many).1 [k] r.tw r.each).2 = 0 → getQ (weighV (weighV ts [k] wt many).1 [k] r.tw r.each).1 k = some (weighF r.tw r.each (weighF wt many r).1).1 ∧ 0 ≤ cmpF (overV (overV r.t wt).1 r.tw).1 r.t
theorem weigh_facts (hU : ∀ r ∈ ts, r.U) (h : (weighV ts [k] wt many).2 = 0) : ∃ r, WeighFacts ts k wt many r := by
  have A := alter_yes h
  have hw := and_l A.yes
  have hm := and_r A.yes
  have K := keeps_weigh hw hm
  obtain ⟨r, hg, he, hid, hmem⟩ := one_has A
  have hgk : getK Rn.id ts k = some r := by rw [getQ_ok (chk_iff.2 A.good)] at hg; exact hg
  have hb := rnB_iff.1 (A.good.rn r hmem)
  have hUr := hU r hmem
  have o := over_ok0 hUr.t hb.2.2 hw he
  have hol := over_less hUr.t hb.2.2 hw he
  have G2 := A.chk K hU
  have heq : (weighV ts [k] wt many).1 = altL (weighF wt many) ts [k] := A.eq
  have hg2 := A.get K hU hgk
  rw [if_pos (by rw [hid]; simp)] at hg2
  have hU2 := A.U K hU
  have e1 : (weighF wt many r).1.t = (overV r.t wt).1 := rfl
  have hck2 := chk_iff.2 G2
  have hm2 := (getK_iff G2.rs).1 hg2
  have hb2 := rnB_iff.1 (G2.rn _ hm2.1)
  have hidk : idV k = true := by rw [← hid]; exact idV_iff.2 hb.1
  have hw3 : wB r.tw = true := wB_of hb.2.2
  have hplz : placesE (altL (weighF wt many) ts [k]) [k] = 0 := places_zero.2 ⟨risI_one hidk, fun z hz => by simp only [List.mem_cons, List.not_mem_nil, or_false] at hz; subst hz; unfold hasQ; rw [hg2]; rfl⟩
  have hok3 : (wB r.tw && eachV r.each) = true := by rw [hw3, eachV_iff.2 hb.2.1]; rfl
  have hxe : altX (weighF r.tw r.each) (altL (weighF wt many) ts [k]) (placesE (altL (weighF wt many) ts [k]) [k]) [k] = (overV (overV r.t wt).1 r.tw).2 := by
    unfold altX
    rw [if_neg (by omega)]
    simp only [altE, errF, hg2]
    split <;> simp_all [weighF]
    all_goals first | rfl | skip
  refine ⟨r, hUr, hg, by rw [heq, getQ_ok hck2]; exact hg2, hU2 _ hm2.1, rfl, by rw [o.eq], o.U, over_ge hUr.t hb.2.2 hw he, hol.1, fun hn => hol.2 (fun hz => hn ((num_zero o.U).1 hz)), ?_, ?_⟩
  · rw [heq]
    rcases over_cases o.U o.ok hw3 with h1 | h1
    · left; show (alterV _ _ _ _).2 = 0; rw [alter_ok hck2 hok3 (by rw [hxe]; exact h1.1)]
    · right; show (alterV _ _ _ _).2 = 131; rw [alter_err hck2 hok3 (by rw [hxe, h1.1]; decide), hxe, h1.1]
  · intro h0
    rw [heq] at h0 ⊢
    have A3 := alter_yes h0
    have K3 := keeps_weigh (and_l A3.yes) (and_r A3.yes)
    have hg3 := A3.get K3 hU2 hg2
    rw [if_pos (by rw [show (weighF wt many r).1.id = k from hid]; simp)] at hg3
    have he3 : (overV (overV r.t wt).1 r.tw).2 = 0 := A3.err hm2.1 (by rw [show (weighF wt many r).1.id = k from hid]; simp)
    refine ⟨?_, over_back hUr.t hb.2.2 hw he he3⟩
    show getQ (alterV _ _ _ _).1 k = _
    rw [A3.eq, getQ_ok (chk_iff.2 (A3.chk K3 hU2))]; exact hg3
end
end Go.Proofs.Ytnhkecfapohlgaa

/-! The statement VtimeWeighs, walked. -/
namespace Go.Proofs.Ytnhkecfapohlgaa
open Go Go.RowKit
structure Wd where
 hi : Int
 lo : Int
deriving DecidableEq
theorem wd_eqRun (op : BinOp) (hop : op = .eql ∨ op = .neq) (x y : Operand) (a b : Wd) (r : Bool) (hr : r = (if op = .eql then decide (a = b) else !decide (a = b))) : EqRun Try.prog op 31 x y (.agg #[.int .u64 a.hi, .int .u64 a.lo]) (.agg #[.int .u64 b.hi, .int .u64 b.lo]) r := by
 intro w
 subst hr
 have hS : Try.prog.underlying 31 = some (.struct (Try.prog.fieldsOf 31)) := by kernel_rfl
 have hp : Try.prog.stoodInHeld 31 = false := by kernel_rfl
 have hg : Try.prog.eqGuardType Try.prog.depth 31 = false := by kernel_rfl
 have key : (Op.equal 31 (.agg #[.int .u64 a.hi, .int .u64 a.lo]) (.agg #[.int .u64 b.hi, .int .u64 b.lo])).run Try.prog w = .ok (decide (a = b)) w := by
  unfold Op.equal
  rw [show Op.maxDepth = 9999 + 1 from rfl, run_equalIn_struct w 9999 31 _ _ hS hp]
  simp only [Program.fieldsOf, Try.underlying31]
  go_simp
  obtain ⟨a0, a1⟩ := a
  obtain ⟨b0, b1⟩ := b
  simp only [Wd.mk.injEq]
  by_cases h0 : a0 = b0 <;> by_cases h1 : a1 = b1 <;> simp [h0, h1]
 have guard : (eqGuard op 31 x y (.agg #[.int .u64 a.hi, .int .u64 a.lo]) (.agg #[.int .u64 b.hi, .int .u64 b.lo])).run Try.prog w = .ok () w := by
  unfold eqGuard
  rcases hop with rfl | rfl <;> simp [hg]
 rw [Sem.run_bind, guard]
 simp only [Result.andThen_ok]
 rcases hop with rfl | rfl <;> simp [binOp, Sem.run_bind, key]
theorem wd_ne_t {x y : Operand} {a b : Wd} (h : a = b) : EqRun Try.prog .neq 31 x y (.agg #[.int .u64 a.hi, .int .u64 a.lo]) (.agg #[.int .u64 b.hi, .int .u64 b.lo]) false := wd_eqRun _ (.inr rfl) x y a b _ (by simp [h])
theorem wd_ne_f {x y : Operand} {a b : Wd} (h : ¬ a = b) : EqRun Try.prog .neq 31 x y (.agg #[.int .u64 a.hi, .int .u64 a.lo]) (.agg #[.int .u64 b.hi, .int .u64 b.lo]) true := wd_eqRun _ (.inr rfl) x y a b _ (by simp [h])

set_option maxRecDepth 100000 in
theorem weighs_law (p : Option Addr) (n cap : Nat) (ts : List Rn) (k wt many : Int) (w : World)
 (hts : Sv w p ts) (hn : n = ts.length) (hcp : n ≤ cap) (hb : n ≤ 9223372036854775807)
 (hU : ∀ r ∈ ts, r.U)
 (hk0 : -9223372036854775808 ≤ k) (hk1 : k ≤ 9223372036854775807)
 : Calls Try.prog 3 #[.agg #[.slice p n cap], .int .i64 k, .agg #[.int .u64 wt, .int .i64 many]] w fun e w' => e = .returned (.bool true) ∧ Below w.heap.size w w' := by
 refine enter (Hs.start w) Try.func3 rfl Try.ntmps3 rfl (sq_ (ma0 [] [1] (fun γ1 => [(3, .pointer (some ⟨γ1 0, 0, none⟩)), (5, .pointer (some ⟨γ1 1, 0, none⟩))]) (fun γ1 L => bx (γ1 1) (#[.int .u64 wt, .int .i64 many]) 27 :: bx (γ1 0) (#[.slice p n cap]) 24 :: L) (fun γ1 => ds_ (sq_ (sq_ (ao_ (cD (.bool true) Try.call9 (fun w hw => wakes_t w) (qo0 1 [] [1, 3, 5] [(22, .bool false)] (on_ (ds_ (f_ (at_skip (ds_ (sq_ ?_))))))))))))))
 refine at_any (by kernel_rfl) ?_
 refine tk (m := 8) [2, 4] [] [1, 3] [(25, .pointer (some ⟨γ1 1, 0, none⟩)), (27, .pointer (some ⟨γ1 1, 1, none⟩))] ([]) #[false, false, true, false, true, false, false, false, false, false] al0 ?_
 refine any_cutX (V := (List Ob) × (Nat) × (Nat) × (Option Addr) × (Nat → Nat)) (fun ⟨Y27, c27, n27, q27, γ127⟩ => SlO 35 Y27 q27 n27 c27 (ts.take 17) ∧ n27 ≤ 17 ∧ n27 = ((ts.take 17)).length) 0 #[true, true, true, true, true, true, true, true, true, true] (fun ⟨Y27, c27, n27, q27, γ127⟩ => [(1, .int .i64 k), (7, .pointer (some ⟨γ127 0, 0, none⟩)), (8, .int .u64 wt), (9, .int .i64 many)]) (fun ⟨Y27, c27, n27, q27, γ127⟩ => bx (γ127 0) (#[.slice q27 n27 c27]) 24 :: bx (γ1 1) (#[.int .u64 wt, .int .i64 many]) 27 :: bx (γ1 0) (#[.slice p n cap]) 24 :: (Y27 ++ [])) ?_ (fun hmx27 => ?_)
 rotate_left
 ·
  refine any_cutX (V := (List Ob) × (Nat) × (Nat) × (Option Addr) × (Nat → Nat)) (fun ⟨Y27, c27, n27, q27, γ127⟩ => SlO 35 Y27 q27 n27 c27 (ts.take 17) ∧ n27 ≤ 17 ∧ n27 = ((ts.take 17)).length) 2 #[true, true, true, true, true, false, true, true, true, false] (fun ⟨Y27, c27, n27, q27, γ127⟩ => [(1, .int .i64 k), (7, .pointer (some ⟨γ127 0, 0, none⟩)), (8, .int .u64 wt), (27, .pointer (some ⟨γ1 1, 1, none⟩))]) (fun ⟨Y27, c27, n27, q27, γ127⟩ => bx (γ127 0) (#[.slice q27 n27 c27]) 24 :: bx (γ1 1) (#[.int .u64 wt, .int .i64 many]) 27 :: bx (γ1 0) (#[.slice p n cap]) 24 :: (Y27 ++ [])) ?_ (fun hmx26 => ?_)
  ·
   rintro ⟨Y27, c27, n27, q27, γ127⟩ ⟨hO27, hbd27, hl27⟩
   refine a1 5 rfl ?_
   refine qo0 1 [(5, .go (owns 1 1 1))] [1, 7, 8] [(28, .int .i64 many)] ?_
   refine od_ ?_
   refine tk (m := 0) [9] [] [1, 7, 8] [(9, .int .i64 many)] ([]) #[true, true, true, true, true, true, true, true, true, true] al0 ?_
   exact wk (hmx27 (Y27, c27, n27, q27, γ127) ⟨hO27, hbd27, hl27⟩) [1, 7, 8, 9] [[_], [_], [_], _] [0, 1, 2, 3] rfl rfl
  refine any_cutX (V := (List Ob) × (Nat) × (Nat) × (Option Addr) × (Nat → Nat)) (fun ⟨Y27, c27, n27, q27, γ127⟩ => SlO 35 Y27 q27 n27 c27 (ts.take 17) ∧ n27 ≤ 17 ∧ n27 = ((ts.take 17)).length) 3 #[true, true, true, false, true, true, true, true, false, false] (fun ⟨Y27, c27, n27, q27, γ127⟩ => [(1, .int .i64 k), (7, .pointer (some ⟨γ127 0, 0, none⟩)), (25, .pointer (some ⟨γ1 1, 0, none⟩)), (28, .int .i64 many)]) (fun ⟨Y27, c27, n27, q27, γ127⟩ => bx (γ127 0) (#[.slice q27 n27 c27]) 24 :: bx (γ1 1) (#[.int .u64 wt, .int .i64 many]) 27 :: bx (γ1 0) (#[.slice p n cap]) 24 :: (Y27 ++ [])) ?_ (fun hmx25 => ?_)
  ·
   rintro ⟨Y27, c27, n27, q27, γ127⟩ ⟨hO27, hbd27, hl27⟩
   refine a1 3 rfl ?_
   refine qo0 1 [(3, .go (owns 1 0 1))] [1, 7, 28] [(26, .int .u64 wt)] ?_
   refine od_ ?_
   refine tk (m := 0) [8, 9] [] [1, 7] [(8, .int .u64 wt), (9, .int .i64 many)] ([]) #[true, true, true, true, true, true, true, true, true, true] al0 ?_
   exact wk (hmx27 (Y27, c27, n27, q27, γ127) ⟨hO27, hbd27, hl27⟩) [1, 7, 8, 9] [[_], [_], [_], _] [0, 1, 2, 3] rfl rfl
  refine any_cutX (V := (List Ob) × (Nat) × (Nat) × (Option Addr) × (Nat → Nat)) (fun ⟨Y27, c27, n27, q27, γ127⟩ => SlO 35 Y27 q27 n27 c27 (ts.take 17) ∧ n27 ≤ 17 ∧ n27 = ((ts.take 17)).length) 3 #[true, true, true, true, true, true, true, false, false, false] (fun ⟨Y27, c27, n27, q27, γ127⟩ => [(1, .int .i64 k), (7, .pointer (some ⟨γ127 0, 0, none⟩)), (24, .agg #[.slice q27 n27 c27]), (26, .int .u64 wt), (28, .int .i64 many)]) (fun ⟨Y27, c27, n27, q27, γ127⟩ => bx (γ127 0) (#[.slice none 0 0]) 24 :: bx (γ1 1) (#[.int .u64 wt, .int .i64 many]) 27 :: bx (γ1 0) (#[.slice p n cap]) 24 :: (Y27 ++ [])) ?_ (fun hmx24 => ?_)
  ·
   rintro ⟨Y27, c27, n27, q27, γ127⟩ ⟨hO27, hbd27, hl27⟩
   refine a1 7 rfl ?_
   refine mo0 1 [(7, .go (owns 0 0 1))] [1, 7, 26, 28] (fun _ => []) (fun _ L => (L.set 0 (bx (γ127 0) (#[.slice q27 n27 c27]) 24))) (fun _ => ?_)
   refine od_ ?_
   refine tk (m := 0) [8, 9] [] [1, 7] [(8, .int .u64 wt), (9, .int .i64 many)] ([]) #[true, true, true, true, true, true, true, true, true, true] al0 ?_
   exact wk (hmx27 (Y27, c27, n27, q27, γ127) ⟨hO27, hbd27, hl27⟩) [1, 7, 8, 9] [[_], [_], [_], _] [0, 1, 2, 3] rfl rfl
  refine any_cutX (V := (Nat → Nat)) (fun γ127 => True) 4 #[true, false, true, true, true, true, true, false, false, false] (fun γ127 => [(1, .int .i64 k), (7, .pointer (some ⟨γ127 0, 0, none⟩)), (23, .agg #[.slice p n cap]), (26, .int .u64 wt), (28, .int .i64 many)]) (fun γ127 => [bx (γ127 0) (#[.slice none 0 0]) 24, bx (γ1 1) (#[.int .u64 wt, .int .i64 many]) 27, bx (γ1 0) (#[.slice p n cap]) 24]) ?_ (fun hmx23 => ?_)
  ·
   rintro γ127 _
   refine a1 1 rfl ?_
   refine cP (fun v L' => ∃ q_ n_ c_ Y_, v = .agg #[.slice q_ n_ c_] ∧ L' = List.take 3 ([bx (γ127 0) (#[.slice none 0 0]) 24, bx (γ1 1) (#[.int .u64 wt, .int .i64 many]) 27, bx (γ1 0) (#[.slice p n cap]) 24]) ++ (Y_ ++ List.drop 3 ([bx (γ127 0) (#[.slice none 0 0]) 24, bx (γ1 1) (#[.int .u64 wt, .int .i64 many]) 27, bx (γ1 0) (#[.slice p n cap]) 24])) ∧ SlO 35 Y_ q_ n_ c_ (ts.take 17)) Try.call10 (fun w hw => (short_t p n cap ts w (hts.kept hw.below) hn hcp hb).mono fun e w' ⟨q_, n_, c_, Y_, he, hO, hb, hY⟩ => ⟨_, _, he, ⟨q_, n_, c_, Y_, rfl, rfl, hO⟩, hw.join hb hY 3⟩) ?_
   rintro v27 L27 ⟨q27, n27, c27, Y27, rfl, rfl, hO27⟩
   have hl27 := hO27.len
   have hbd27 : n27 ≤ 17 := by rw [hl27, List.length_take]; omega
   refine od_ ?_
   exact wk (hmx24 (Y27, c27, n27, q27, γ127) ⟨hO27, hbd27, hl27⟩) [1, 7, 24, 26, 28] [[_], [_], [_], _] [0, 1, 2, 3] rfl rfl
  refine any_cutX (V := (List Ob) × (Nat) × (Nat) × (Option Addr) × (Nat → Nat)) (fun ⟨Y27, c27, n27, q27, γ127⟩ => SlO 35 Y27 q27 n27 c27 (ts.take 17) ∧ n27 ≤ 17 ∧ n27 = ((ts.take 17)).length) 4 #[true, true, true, false, true, false, true, true, false, false] (fun ⟨Y27, c27, n27, q27, γ127⟩ => [(1, .int .i64 k), (7, .pointer (some ⟨γ127 0, 0, none⟩)), (25, .pointer (some ⟨γ1 1, 0, none⟩)), (27, .pointer (some ⟨γ1 1, 1, none⟩))]) (fun ⟨Y27, c27, n27, q27, γ127⟩ => bx (γ127 0) (#[.slice q27 n27 c27]) 24 :: bx (γ1 1) (#[.int .u64 wt, .int .i64 many]) 27 :: bx (γ1 0) (#[.slice p n cap]) 24 :: (Y27 ++ [])) ?_ (fun hmx22 => ?_)
  ·
   rintro ⟨Y27, c27, n27, q27, γ127⟩ ⟨hO27, hbd27, hl27⟩
   refine any_fork [3, 5] (by kernel_rfl) (by simp) (each_cons _ rfl ?_ (each_cons _ rfl ?_ (each_nil)))
   ·
    refine qo0 1 [(3, .go (owns 1 0 1))] [1, 7, 27] [(26, .int .u64 wt)] ?_
    refine od_ ?_
    refine tk (m := 2) [8] [] [1, 7, 27] [(8, .int .u64 wt)] ([]) #[true, true, true, true, true, false, true, true, true, false] al0 ?_
    exact wk (hmx26 (Y27, c27, n27, q27, γ127) ⟨hO27, hbd27, hl27⟩) [1, 7, 8, 27] [[_], [_], [_], _] [0, 1, 2, 3] rfl rfl
   ·
    refine qo0 1 [(5, .go (owns 1 1 1))] [1, 7, 25] [(28, .int .i64 many)] ?_
    refine od_ ?_
    exact wk (hmx25 (Y27, c27, n27, q27, γ127) ⟨hO27, hbd27, hl27⟩) [1, 7, 25, 28] [[_], [_], [_], _] [0, 1, 2, 3] rfl rfl
  refine any_cutX (V := (List Ob) × (Nat) × (Nat) × (Option Addr) × (Nat → Nat)) (fun ⟨Y27, c27, n27, q27, γ127⟩ => SlO 35 Y27 q27 n27 c27 (ts.take 17) ∧ n27 ≤ 17 ∧ n27 = ((ts.take 17)).length) 4 #[true, true, true, false, true, true, true, false, false, false] (fun ⟨Y27, c27, n27, q27, γ127⟩ => [(1, .int .i64 k), (7, .pointer (some ⟨γ127 0, 0, none⟩)), (24, .agg #[.slice q27 n27 c27]), (25, .pointer (some ⟨γ1 1, 0, none⟩)), (28, .int .i64 many)]) (fun ⟨Y27, c27, n27, q27, γ127⟩ => bx (γ127 0) (#[.slice none 0 0]) 24 :: bx (γ1 1) (#[.int .u64 wt, .int .i64 many]) 27 :: bx (γ1 0) (#[.slice p n cap]) 24 :: (Y27 ++ [])) ?_ (fun hmx21 => ?_)
  ·
   rintro ⟨Y27, c27, n27, q27, γ127⟩ ⟨hO27, hbd27, hl27⟩
   refine any_fork [3, 7] (by kernel_rfl) (by simp) (each_cons _ rfl ?_ (each_cons _ rfl ?_ (each_nil)))
   ·
    refine qo0 1 [(3, .go (owns 1 0 1))] [1, 7, 24, 28] [(26, .int .u64 wt)] ?_
    refine od_ ?_
    exact wk (hmx24 (Y27, c27, n27, q27, γ127) ⟨hO27, hbd27, hl27⟩) [1, 7, 24, 26, 28] [[_], [_], [_], _] [0, 1, 2, 3] rfl rfl
   ·
    refine mo0 1 [(7, .go (owns 0 0 1))] [1, 7, 25, 28] (fun _ => []) (fun _ L => (L.set 0 (bx (γ127 0) (#[.slice q27 n27 c27]) 24))) (fun _ => ?_)
    refine od_ ?_
    exact wk (hmx25 (Y27, c27, n27, q27, γ127) ⟨hO27, hbd27, hl27⟩) [1, 7, 25, 28] [[_], [_], [_], _] [0, 1, 2, 3] rfl rfl
  refine any_cutX (V := (List Ob) × (Nat) × (Nat) × (Option Addr) × (Nat → Nat)) (fun ⟨Y27, c27, n27, q27, γ127⟩ => SlO 35 Y27 q27 n27 c27 (ts.take 17) ∧ n27 ≤ 17 ∧ n27 = ((ts.take 17)).length) 4 #[true, true, true, true, true, false, true, false, false, false] (fun ⟨Y27, c27, n27, q27, γ127⟩ => [(1, .int .i64 k), (7, .pointer (some ⟨γ127 0, 0, none⟩)), (24, .agg #[.slice q27 n27 c27]), (26, .int .u64 wt), (27, .pointer (some ⟨γ1 1, 1, none⟩))]) (fun ⟨Y27, c27, n27, q27, γ127⟩ => bx (γ127 0) (#[.slice none 0 0]) 24 :: bx (γ1 1) (#[.int .u64 wt, .int .i64 many]) 27 :: bx (γ1 0) (#[.slice p n cap]) 24 :: (Y27 ++ [])) ?_ (fun hmx20 => ?_)
  ·
   rintro ⟨Y27, c27, n27, q27, γ127⟩ ⟨hO27, hbd27, hl27⟩
   refine any_fork [5, 7] (by kernel_rfl) (by simp) (each_cons _ rfl ?_ (each_cons _ rfl ?_ (each_nil)))
   ·
    refine qo0 1 [(5, .go (owns 1 1 1))] [1, 7, 24, 26] [(28, .int .i64 many)] ?_
    refine od_ ?_
    exact wk (hmx24 (Y27, c27, n27, q27, γ127) ⟨hO27, hbd27, hl27⟩) [1, 7, 24, 26, 28] [[_], [_], [_], _] [0, 1, 2, 3] rfl rfl
   ·
    refine mo0 1 [(7, .go (owns 0 0 1))] [1, 7, 26, 27] (fun _ => []) (fun _ L => (L.set 0 (bx (γ127 0) (#[.slice q27 n27 c27]) 24))) (fun _ => ?_)
    refine od_ ?_
    refine tk (m := 2) [8] [] [1, 7, 27] [(8, .int .u64 wt)] ([]) #[true, true, true, true, true, false, true, true, true, false] al0 ?_
    exact wk (hmx26 (Y27, c27, n27, q27, γ127) ⟨hO27, hbd27, hl27⟩) [1, 7, 8, 27] [[_], [_], [_], _] [0, 1, 2, 3] rfl rfl
  refine any_cutX (V := (List Ob) × (Nat) × (Nat) × (Option Addr)) (fun ⟨Y27, c27, n27, q27⟩ => SlO 35 Y27 q27 n27 c27 (ts.take 17) ∧ n27 ≤ 17 ∧ n27 = ((ts.take 17)).length) 4 #[true, true, true, true, true, true, false, false, false, false] (fun ⟨Y27, c27, n27, q27⟩ => [(1, .int .i64 k), (24, .agg #[.slice q27 n27 c27]), (26, .int .u64 wt), (28, .int .i64 many)]) (fun ⟨Y27, c27, n27, q27⟩ => bx (γ1 1) (#[.int .u64 wt, .int .i64 many]) 27 :: bx (γ1 0) (#[.slice p n cap]) 24 :: (Y27 ++ [])) ?_ (fun hmx19 => ?_)
  ·
   rintro ⟨Y27, c27, n27, q27⟩ ⟨hO27, hbd27, hl27⟩
   refine a1 6 rfl ?_
   refine mo0 1 [] [1, 24, 26, 28] (fun γ127 => [(7, .pointer (some ⟨γ127 0, 0, none⟩))]) (fun γ127 L => bx (γ127 0) (#[.slice none 0 0]) 24 :: L) (fun γ127 => ?_)
   refine od_ ?_
   exact wk (hmx24 (Y27, c27, n27, q27, γ127) ⟨hO27, hbd27, hl27⟩) [1, 7, 24, 26, 28] [[_], [_], [_], _] [0, 1, 2, 3] rfl rfl
  refine any_cutX (V := (Nat → Nat)) (fun γ127 => True) 5 #[false, false, true, true, true, true, true, false, false, false] (fun γ127 => [(1, .int .i64 k), (3, .pointer (some ⟨γ1 0, 0, none⟩)), (7, .pointer (some ⟨γ127 0, 0, none⟩)), (26, .int .u64 wt), (28, .int .i64 many)]) (fun γ127 => [bx (γ127 0) (#[.slice none 0 0]) 24, bx (γ1 1) (#[.int .u64 wt, .int .i64 many]) 27, bx (γ1 0) (#[.slice p n cap]) 24]) ?_ (fun hmx18 => ?_)
  ·
   rintro γ127 _
   refine a1 0 rfl ?_
   refine qo0 1 [(0, .go (owns 2 0 1))] [1, 7, 26, 28] [(23, .agg #[.slice p n cap])] ?_
   refine od_ ?_
   exact wk (hmx23 γ127 trivial) [1, 7, 23, 26, 28] [[_], [_], [_]] [0, 1, 2] rfl rfl
  refine any_cutX (V := (Nat → Nat)) (fun γ127 => True) 5 #[true, false, true, false, true, true, true, false, false, false] (fun γ127 => [(1, .int .i64 k), (7, .pointer (some ⟨γ127 0, 0, none⟩)), (23, .agg #[.slice p n cap]), (25, .pointer (some ⟨γ1 1, 0, none⟩)), (28, .int .i64 many)]) (fun γ127 => [bx (γ127 0) (#[.slice none 0 0]) 24, bx (γ1 1) (#[.int .u64 wt, .int .i64 many]) 27, bx (γ1 0) (#[.slice p n cap]) 24]) ?_ (fun hmx17 => ?_)
  ·
   rintro γ127 _
   refine any_fork [1, 3] (by kernel_rfl) (by simp) (each_cons _ rfl ?_ (each_cons _ rfl ?_ (each_nil)))
   ·
    refine cP (fun v L' => ∃ q_ n_ c_ Y_, v = .agg #[.slice q_ n_ c_] ∧ L' = List.take 3 ([bx (γ127 0) (#[.slice none 0 0]) 24, bx (γ1 1) (#[.int .u64 wt, .int .i64 many]) 27, bx (γ1 0) (#[.slice p n cap]) 24]) ++ (Y_ ++ List.drop 3 ([bx (γ127 0) (#[.slice none 0 0]) 24, bx (γ1 1) (#[.int .u64 wt, .int .i64 many]) 27, bx (γ1 0) (#[.slice p n cap]) 24])) ∧ SlO 35 Y_ q_ n_ c_ (ts.take 17)) Try.call10 (fun w hw => (short_t p n cap ts w (hts.kept hw.below) hn hcp hb).mono fun e w' ⟨q_, n_, c_, Y_, he, hO, hb, hY⟩ => ⟨_, _, he, ⟨q_, n_, c_, Y_, rfl, rfl, hO⟩, hw.join hb hY 3⟩) ?_
    rintro v27 L27 ⟨q27, n27, c27, Y27, rfl, rfl, hO27⟩
    have hl27 := hO27.len
    have hbd27 : n27 ≤ 17 := by rw [hl27, List.length_take]; omega
    refine od_ ?_
    exact wk (hmx21 (Y27, c27, n27, q27, γ127) ⟨hO27, hbd27, hl27⟩) [1, 7, 24, 25, 28] [[_], [_], [_], _] [0, 1, 2, 3] rfl rfl
   ·
    refine qo0 1 [(3, .go (owns 1 0 1))] [1, 7, 23, 28] [(26, .int .u64 wt)] ?_
    refine od_ ?_
    exact wk (hmx23 γ127 trivial) [1, 7, 23, 26, 28] [[_], [_], [_]] [0, 1, 2] rfl rfl
  refine any_cutX (V := (Nat → Nat)) (fun γ127 => True) 5 #[true, false, true, true, true, false, true, false, false, false] (fun γ127 => [(1, .int .i64 k), (7, .pointer (some ⟨γ127 0, 0, none⟩)), (23, .agg #[.slice p n cap]), (26, .int .u64 wt), (27, .pointer (some ⟨γ1 1, 1, none⟩))]) (fun γ127 => [bx (γ127 0) (#[.slice none 0 0]) 24, bx (γ1 1) (#[.int .u64 wt, .int .i64 many]) 27, bx (γ1 0) (#[.slice p n cap]) 24]) ?_ (fun hmx16 => ?_)
  ·
   rintro γ127 _
   refine any_fork [1, 5] (by kernel_rfl) (by simp) (each_cons _ rfl ?_ (each_cons _ rfl ?_ (each_nil)))
   ·
    refine cP (fun v L' => ∃ q_ n_ c_ Y_, v = .agg #[.slice q_ n_ c_] ∧ L' = List.take 3 ([bx (γ127 0) (#[.slice none 0 0]) 24, bx (γ1 1) (#[.int .u64 wt, .int .i64 many]) 27, bx (γ1 0) (#[.slice p n cap]) 24]) ++ (Y_ ++ List.drop 3 ([bx (γ127 0) (#[.slice none 0 0]) 24, bx (γ1 1) (#[.int .u64 wt, .int .i64 many]) 27, bx (γ1 0) (#[.slice p n cap]) 24])) ∧ SlO 35 Y_ q_ n_ c_ (ts.take 17)) Try.call10 (fun w hw => (short_t p n cap ts w (hts.kept hw.below) hn hcp hb).mono fun e w' ⟨q_, n_, c_, Y_, he, hO, hb, hY⟩ => ⟨_, _, he, ⟨q_, n_, c_, Y_, rfl, rfl, hO⟩, hw.join hb hY 3⟩) ?_
    rintro v27 L27 ⟨q27, n27, c27, Y27, rfl, rfl, hO27⟩
    have hl27 := hO27.len
    have hbd27 : n27 ≤ 17 := by rw [hl27, List.length_take]; omega
    refine od_ ?_
    exact wk (hmx20 (Y27, c27, n27, q27, γ127) ⟨hO27, hbd27, hl27⟩) [1, 7, 24, 26, 27] [[_], [_], [_], _] [0, 1, 2, 3] rfl rfl
   ·
    refine qo0 1 [(5, .go (owns 1 1 1))] [1, 7, 23, 26] [(28, .int .i64 many)] ?_
    refine od_ ?_
    exact wk (hmx23 γ127 trivial) [1, 7, 23, 26, 28] [[_], [_], [_]] [0, 1, 2] rfl rfl
  refine any_cutX (V := Unit) (fun _ => True) 5 #[true, false, true, true, true, true, false, false, false, false] (fun _ => [(1, .int .i64 k), (23, .agg #[.slice p n cap]), (26, .int .u64 wt), (28, .int .i64 many)]) (fun _ => [bx (γ1 1) (#[.int .u64 wt, .int .i64 many]) 27, bx (γ1 0) (#[.slice p n cap]) 24]) ?_ (fun hmx15 => ?_)
  ·
   rintro _ _
   refine any_fork [1, 6] (by kernel_rfl) (by simp) (each_cons _ rfl ?_ (each_cons _ rfl ?_ (each_nil)))
   ·
    refine cP (fun v L' => ∃ q_ n_ c_ Y_, v = .agg #[.slice q_ n_ c_] ∧ L' = List.take 2 ([bx (γ1 1) (#[.int .u64 wt, .int .i64 many]) 27, bx (γ1 0) (#[.slice p n cap]) 24]) ++ (Y_ ++ List.drop 2 ([bx (γ1 1) (#[.int .u64 wt, .int .i64 many]) 27, bx (γ1 0) (#[.slice p n cap]) 24])) ∧ SlO 35 Y_ q_ n_ c_ (ts.take 17)) Try.call10 (fun w hw => (short_t p n cap ts w (hts.kept hw.below) hn hcp hb).mono fun e w' ⟨q_, n_, c_, Y_, he, hO, hb, hY⟩ => ⟨_, _, he, ⟨q_, n_, c_, Y_, rfl, rfl, hO⟩, hw.join hb hY 2⟩) ?_
    rintro v27 L27 ⟨q27, n27, c27, Y27, rfl, rfl, hO27⟩
    have hl27 := hO27.len
    have hbd27 : n27 ≤ 17 := by rw [hl27, List.length_take]; omega
    refine od_ ?_
    exact wk (hmx19 (Y27, c27, n27, q27) ⟨hO27, hbd27, hl27⟩) [1, 24, 26, 28] [[_], [_], _] [0, 1, 2] rfl rfl
   ·
    refine mo0 1 [] [1, 23, 26, 28] (fun γ127 => [(7, .pointer (some ⟨γ127 0, 0, none⟩))]) (fun γ127 L => bx (γ127 0) (#[.slice none 0 0]) 24 :: L) (fun γ127 => ?_)
    refine od_ ?_
    exact wk (hmx23 γ127 trivial) [1, 7, 23, 26, 28] [[_], [_], [_]] [0, 1, 2] rfl rfl
  refine any_cutX (V := (List Ob) × (Nat) × (Nat) × (Option Addr) × (Nat → Nat)) (fun ⟨Y27, c27, n27, q27, γ127⟩ => SlO 35 Y27 q27 n27 c27 (ts.take 17) ∧ n27 ≤ 17 ∧ n27 = ((ts.take 17)).length) 5 #[true, true, true, false, true, false, true, false, false, false] (fun ⟨Y27, c27, n27, q27, γ127⟩ => [(1, .int .i64 k), (7, .pointer (some ⟨γ127 0, 0, none⟩)), (24, .agg #[.slice q27 n27 c27]), (25, .pointer (some ⟨γ1 1, 0, none⟩)), (27, .pointer (some ⟨γ1 1, 1, none⟩))]) (fun ⟨Y27, c27, n27, q27, γ127⟩ => bx (γ127 0) (#[.slice none 0 0]) 24 :: bx (γ1 1) (#[.int .u64 wt, .int .i64 many]) 27 :: bx (γ1 0) (#[.slice p n cap]) 24 :: (Y27 ++ [])) ?_ (fun hmx14 => ?_)
  ·
   rintro ⟨Y27, c27, n27, q27, γ127⟩ ⟨hO27, hbd27, hl27⟩
   refine any_fork [3, 5, 7] (by kernel_rfl) (by simp) (each_cons _ rfl ?_ (each_cons _ rfl ?_ (each_cons _ rfl ?_ (each_nil))))
   ·
    refine qo0 1 [(3, .go (owns 1 0 1))] [1, 7, 24, 27] [(26, .int .u64 wt)] ?_
    refine od_ ?_
    exact wk (hmx20 (Y27, c27, n27, q27, γ127) ⟨hO27, hbd27, hl27⟩) [1, 7, 24, 26, 27] [[_], [_], [_], _] [0, 1, 2, 3] rfl rfl
   ·
    refine qo0 1 [(5, .go (owns 1 1 1))] [1, 7, 24, 25] [(28, .int .i64 many)] ?_
    refine od_ ?_
    exact wk (hmx21 (Y27, c27, n27, q27, γ127) ⟨hO27, hbd27, hl27⟩) [1, 7, 24, 25, 28] [[_], [_], [_], _] [0, 1, 2, 3] rfl rfl
   ·
    refine mo0 1 [(7, .go (owns 0 0 1))] [1, 7, 25, 27] (fun _ => []) (fun _ L => (L.set 0 (bx (γ127 0) (#[.slice q27 n27 c27]) 24))) (fun _ => ?_)
    refine od_ ?_
    exact wk (hmx22 (Y27, c27, n27, q27, γ127) ⟨hO27, hbd27, hl27⟩) [1, 7, 25, 27] [[_], [_], [_], _] [0, 1, 2, 3] rfl rfl
  refine any_cutX (V := (List Ob) × (Nat) × (Nat) × (Option Addr)) (fun ⟨Y27, c27, n27, q27⟩ => SlO 35 Y27 q27 n27 c27 (ts.take 17) ∧ n27 ≤ 17 ∧ n27 = ((ts.take 17)).length) 5 #[true, true, true, false, true, true, false, false, false, false] (fun ⟨Y27, c27, n27, q27⟩ => [(1, .int .i64 k), (24, .agg #[.slice q27 n27 c27]), (25, .pointer (some ⟨γ1 1, 0, none⟩)), (28, .int .i64 many)]) (fun ⟨Y27, c27, n27, q27⟩ => bx (γ1 1) (#[.int .u64 wt, .int .i64 many]) 27 :: bx (γ1 0) (#[.slice p n cap]) 24 :: (Y27 ++ [])) ?_ (fun hmx13 => ?_)
  ·
   rintro ⟨Y27, c27, n27, q27⟩ ⟨hO27, hbd27, hl27⟩
   refine any_fork [3, 6] (by kernel_rfl) (by simp) (each_cons _ rfl ?_ (each_cons _ rfl ?_ (each_nil)))
   ·
    refine qo0 1 [(3, .go (owns 0 0 1))] [1, 24, 28] [(26, .int .u64 wt)] ?_
    refine od_ ?_
    exact wk (hmx19 (Y27, c27, n27, q27) ⟨hO27, hbd27, hl27⟩) [1, 24, 26, 28] [[_], [_], _] [0, 1, 2] rfl rfl
   ·
    refine mo0 1 [] [1, 24, 25, 28] (fun γ127 => [(7, .pointer (some ⟨γ127 0, 0, none⟩))]) (fun γ127 L => bx (γ127 0) (#[.slice none 0 0]) 24 :: L) (fun γ127 => ?_)
    refine od_ ?_
    exact wk (hmx21 (Y27, c27, n27, q27, γ127) ⟨hO27, hbd27, hl27⟩) [1, 7, 24, 25, 28] [[_], [_], [_], _] [0, 1, 2, 3] rfl rfl
  refine any_cutX (V := (List Ob) × (Nat) × (Nat) × (Option Addr)) (fun ⟨Y27, c27, n27, q27⟩ => SlO 35 Y27 q27 n27 c27 (ts.take 17) ∧ n27 ≤ 17 ∧ n27 = ((ts.take 17)).length) 5 #[true, true, true, true, true, false, false, false, false, false] (fun ⟨Y27, c27, n27, q27⟩ => [(1, .int .i64 k), (24, .agg #[.slice q27 n27 c27]), (26, .int .u64 wt), (27, .pointer (some ⟨γ1 1, 1, none⟩))]) (fun ⟨Y27, c27, n27, q27⟩ => bx (γ1 1) (#[.int .u64 wt, .int .i64 many]) 27 :: bx (γ1 0) (#[.slice p n cap]) 24 :: (Y27 ++ [])) ?_ (fun hmx12 => ?_)
  ·
   rintro ⟨Y27, c27, n27, q27⟩ ⟨hO27, hbd27, hl27⟩
   refine any_fork [5, 6] (by kernel_rfl) (by simp) (each_cons _ rfl ?_ (each_cons _ rfl ?_ (each_nil)))
   ·
    refine qo0 1 [(5, .go (owns 0 1 1))] [1, 24, 26] [(28, .int .i64 many)] ?_
    refine od_ ?_
    exact wk (hmx19 (Y27, c27, n27, q27) ⟨hO27, hbd27, hl27⟩) [1, 24, 26, 28] [[_], [_], _] [0, 1, 2] rfl rfl
   ·
    refine mo0 1 [] [1, 24, 26, 27] (fun γ127 => [(7, .pointer (some ⟨γ127 0, 0, none⟩))]) (fun γ127 L => bx (γ127 0) (#[.slice none 0 0]) 24 :: L) (fun γ127 => ?_)
    refine od_ ?_
    exact wk (hmx20 (Y27, c27, n27, q27, γ127) ⟨hO27, hbd27, hl27⟩) [1, 7, 24, 26, 27] [[_], [_], [_], _] [0, 1, 2, 3] rfl rfl
  refine any_cutX (V := (Nat → Nat)) (fun γ127 => True) 6 #[false, false, true, false, true, true, true, false, false, false] (fun γ127 => [(1, .int .i64 k), (3, .pointer (some ⟨γ1 0, 0, none⟩)), (7, .pointer (some ⟨γ127 0, 0, none⟩)), (25, .pointer (some ⟨γ1 1, 0, none⟩)), (28, .int .i64 many)]) (fun γ127 => [bx (γ127 0) (#[.slice none 0 0]) 24, bx (γ1 1) (#[.int .u64 wt, .int .i64 many]) 27, bx (γ1 0) (#[.slice p n cap]) 24]) ?_ (fun hmx11 => ?_)
  ·
   rintro γ127 _
   refine any_fork [0, 3] (by kernel_rfl) (by simp) (each_cons _ rfl ?_ (each_cons _ rfl ?_ (each_nil)))
   ·
    refine qo0 1 [(0, .go (owns 2 0 1))] [1, 7, 25, 28] [(23, .agg #[.slice p n cap])] ?_
    refine od_ ?_
    exact wk (hmx17 γ127 trivial) [1, 7, 23, 25, 28] [[_], [_], [_]] [0, 1, 2] rfl rfl
   ·
    refine qo0 1 [(3, .go (owns 1 0 1))] [1, 3, 7, 28] [(26, .int .u64 wt)] ?_
    refine od_ ?_
    exact wk (hmx18 γ127 trivial) [1, 3, 7, 26, 28] [[_], [_], [_]] [0, 1, 2] rfl rfl
  refine any_cutX (V := (Nat → Nat)) (fun γ127 => True) 6 #[false, false, true, true, true, false, true, false, false, false] (fun γ127 => [(1, .int .i64 k), (3, .pointer (some ⟨γ1 0, 0, none⟩)), (7, .pointer (some ⟨γ127 0, 0, none⟩)), (26, .int .u64 wt), (27, .pointer (some ⟨γ1 1, 1, none⟩))]) (fun γ127 => [bx (γ127 0) (#[.slice none 0 0]) 24, bx (γ1 1) (#[.int .u64 wt, .int .i64 many]) 27, bx (γ1 0) (#[.slice p n cap]) 24]) ?_ (fun hmx10 => ?_)
  ·
   rintro γ127 _
   refine any_fork [0, 5] (by kernel_rfl) (by simp) (each_cons _ rfl ?_ (each_cons _ rfl ?_ (each_nil)))
   ·
    refine qo0 1 [(0, .go (owns 2 0 1))] [1, 7, 26, 27] [(23, .agg #[.slice p n cap])] ?_
    refine od_ ?_
    exact wk (hmx16 γ127 trivial) [1, 7, 23, 26, 27] [[_], [_], [_]] [0, 1, 2] rfl rfl
   ·
    refine qo0 1 [(5, .go (owns 1 1 1))] [1, 3, 7, 26] [(28, .int .i64 many)] ?_
    refine od_ ?_
    exact wk (hmx18 γ127 trivial) [1, 3, 7, 26, 28] [[_], [_], [_]] [0, 1, 2] rfl rfl
  refine any_cutX (V := Unit) (fun _ => True) 6 #[false, false, true, true, true, true, false, false, false, false] (fun _ => [(1, .int .i64 k), (3, .pointer (some ⟨γ1 0, 0, none⟩)), (26, .int .u64 wt), (28, .int .i64 many)]) (fun _ => [bx (γ1 1) (#[.int .u64 wt, .int .i64 many]) 27, bx (γ1 0) (#[.slice p n cap]) 24]) ?_ (fun hmx9 => ?_)
  ·
   rintro _ _
   refine any_fork [0, 6] (by kernel_rfl) (by simp) (each_cons _ rfl ?_ (each_cons _ rfl ?_ (each_nil)))
   ·
    refine qo0 1 [(0, .go (owns 1 0 1))] [1, 26, 28] [(23, .agg #[.slice p n cap])] ?_
    refine od_ ?_
    exact wk (hmx15 () trivial) [1, 23, 26, 28] [[_], [_]] [0, 1] rfl rfl
   ·
    refine mo0 1 [] [1, 3, 26, 28] (fun γ127 => [(7, .pointer (some ⟨γ127 0, 0, none⟩))]) (fun γ127 L => bx (γ127 0) (#[.slice none 0 0]) 24 :: L) (fun γ127 => ?_)
    refine od_ ?_
    exact wk (hmx18 γ127 trivial) [1, 3, 7, 26, 28] [[_], [_], [_]] [0, 1, 2] rfl rfl
  refine any_cutX (V := (Nat → Nat)) (fun γ127 => True) 6 #[true, false, true, false, true, false, true, false, false, false] (fun γ127 => [(1, .int .i64 k), (7, .pointer (some ⟨γ127 0, 0, none⟩)), (23, .agg #[.slice p n cap]), (25, .pointer (some ⟨γ1 1, 0, none⟩)), (27, .pointer (some ⟨γ1 1, 1, none⟩))]) (fun γ127 => [bx (γ127 0) (#[.slice none 0 0]) 24, bx (γ1 1) (#[.int .u64 wt, .int .i64 many]) 27, bx (γ1 0) (#[.slice p n cap]) 24]) ?_ (fun hmx8 => ?_)
  ·
   rintro γ127 _
   refine any_fork [1, 3, 5] (by kernel_rfl) (by simp) (each_cons _ rfl ?_ (each_cons _ rfl ?_ (each_cons _ rfl ?_ (each_nil))))
   ·
    refine cP (fun v L' => ∃ q_ n_ c_ Y_, v = .agg #[.slice q_ n_ c_] ∧ L' = List.take 3 ([bx (γ127 0) (#[.slice none 0 0]) 24, bx (γ1 1) (#[.int .u64 wt, .int .i64 many]) 27, bx (γ1 0) (#[.slice p n cap]) 24]) ++ (Y_ ++ List.drop 3 ([bx (γ127 0) (#[.slice none 0 0]) 24, bx (γ1 1) (#[.int .u64 wt, .int .i64 many]) 27, bx (γ1 0) (#[.slice p n cap]) 24])) ∧ SlO 35 Y_ q_ n_ c_ (ts.take 17)) Try.call10 (fun w hw => (short_t p n cap ts w (hts.kept hw.below) hn hcp hb).mono fun e w' ⟨q_, n_, c_, Y_, he, hO, hb, hY⟩ => ⟨_, _, he, ⟨q_, n_, c_, Y_, rfl, rfl, hO⟩, hw.join hb hY 3⟩) ?_
    rintro v27 L27 ⟨q27, n27, c27, Y27, rfl, rfl, hO27⟩
    have hl27 := hO27.len
    have hbd27 : n27 ≤ 17 := by rw [hl27, List.length_take]; omega
    refine od_ ?_
    exact wk (hmx14 (Y27, c27, n27, q27, γ127) ⟨hO27, hbd27, hl27⟩) [1, 7, 24, 25, 27] [[_], [_], [_], _] [0, 1, 2, 3] rfl rfl
   ·
    refine qo0 1 [(3, .go (owns 1 0 1))] [1, 7, 23, 27] [(26, .int .u64 wt)] ?_
    refine od_ ?_
    exact wk (hmx16 γ127 trivial) [1, 7, 23, 26, 27] [[_], [_], [_]] [0, 1, 2] rfl rfl
   ·
    refine qo0 1 [(5, .go (owns 1 1 1))] [1, 7, 23, 25] [(28, .int .i64 many)] ?_
    refine od_ ?_
    exact wk (hmx17 γ127 trivial) [1, 7, 23, 25, 28] [[_], [_], [_]] [0, 1, 2] rfl rfl
  refine any_cutX (V := Unit) (fun _ => True) 6 #[true, false, true, false, true, true, false, false, false, false] (fun _ => [(1, .int .i64 k), (23, .agg #[.slice p n cap]), (25, .pointer (some ⟨γ1 1, 0, none⟩)), (28, .int .i64 many)]) (fun _ => [bx (γ1 1) (#[.int .u64 wt, .int .i64 many]) 27, bx (γ1 0) (#[.slice p n cap]) 24]) ?_ (fun hmx7 => ?_)
  ·
   rintro _ _
   refine any_fork [1, 3, 6] (by kernel_rfl) (by simp) (each_cons _ rfl ?_ (each_cons _ rfl ?_ (each_cons _ rfl ?_ (each_nil))))
   ·
    refine cP (fun v L' => ∃ q_ n_ c_ Y_, v = .agg #[.slice q_ n_ c_] ∧ L' = List.take 2 ([bx (γ1 1) (#[.int .u64 wt, .int .i64 many]) 27, bx (γ1 0) (#[.slice p n cap]) 24]) ++ (Y_ ++ List.drop 2 ([bx (γ1 1) (#[.int .u64 wt, .int .i64 many]) 27, bx (γ1 0) (#[.slice p n cap]) 24])) ∧ SlO 35 Y_ q_ n_ c_ (ts.take 17)) Try.call10 (fun w hw => (short_t p n cap ts w (hts.kept hw.below) hn hcp hb).mono fun e w' ⟨q_, n_, c_, Y_, he, hO, hb, hY⟩ => ⟨_, _, he, ⟨q_, n_, c_, Y_, rfl, rfl, hO⟩, hw.join hb hY 2⟩) ?_
    rintro v27 L27 ⟨q27, n27, c27, Y27, rfl, rfl, hO27⟩
    have hl27 := hO27.len
    have hbd27 : n27 ≤ 17 := by rw [hl27, List.length_take]; omega
    refine od_ ?_
    exact wk (hmx13 (Y27, c27, n27, q27) ⟨hO27, hbd27, hl27⟩) [1, 24, 25, 28] [[_], [_], _] [0, 1, 2] rfl rfl
   ·
    refine qo0 1 [(3, .go (owns 0 0 1))] [1, 23, 28] [(26, .int .u64 wt)] ?_
    refine od_ ?_
    exact wk (hmx15 () trivial) [1, 23, 26, 28] [[_], [_]] [0, 1] rfl rfl
   ·
    refine mo0 1 [] [1, 23, 25, 28] (fun γ127 => [(7, .pointer (some ⟨γ127 0, 0, none⟩))]) (fun γ127 L => bx (γ127 0) (#[.slice none 0 0]) 24 :: L) (fun γ127 => ?_)
    refine od_ ?_
    exact wk (hmx17 γ127 trivial) [1, 7, 23, 25, 28] [[_], [_], [_]] [0, 1, 2] rfl rfl
  refine any_cutX (V := Unit) (fun _ => True) 6 #[true, false, true, true, true, false, false, false, false, false] (fun _ => [(1, .int .i64 k), (23, .agg #[.slice p n cap]), (26, .int .u64 wt), (27, .pointer (some ⟨γ1 1, 1, none⟩))]) (fun _ => [bx (γ1 1) (#[.int .u64 wt, .int .i64 many]) 27, bx (γ1 0) (#[.slice p n cap]) 24]) ?_ (fun hmx6 => ?_)
  ·
   rintro _ _
   refine any_fork [1, 5, 6] (by kernel_rfl) (by simp) (each_cons _ rfl ?_ (each_cons _ rfl ?_ (each_cons _ rfl ?_ (each_nil))))
   ·
    refine cP (fun v L' => ∃ q_ n_ c_ Y_, v = .agg #[.slice q_ n_ c_] ∧ L' = List.take 2 ([bx (γ1 1) (#[.int .u64 wt, .int .i64 many]) 27, bx (γ1 0) (#[.slice p n cap]) 24]) ++ (Y_ ++ List.drop 2 ([bx (γ1 1) (#[.int .u64 wt, .int .i64 many]) 27, bx (γ1 0) (#[.slice p n cap]) 24])) ∧ SlO 35 Y_ q_ n_ c_ (ts.take 17)) Try.call10 (fun w hw => (short_t p n cap ts w (hts.kept hw.below) hn hcp hb).mono fun e w' ⟨q_, n_, c_, Y_, he, hO, hb, hY⟩ => ⟨_, _, he, ⟨q_, n_, c_, Y_, rfl, rfl, hO⟩, hw.join hb hY 2⟩) ?_
    rintro v27 L27 ⟨q27, n27, c27, Y27, rfl, rfl, hO27⟩
    have hl27 := hO27.len
    have hbd27 : n27 ≤ 17 := by rw [hl27, List.length_take]; omega
    refine od_ ?_
    exact wk (hmx12 (Y27, c27, n27, q27) ⟨hO27, hbd27, hl27⟩) [1, 24, 26, 27] [[_], [_], _] [0, 1, 2] rfl rfl
   ·
    refine qo0 1 [(5, .go (owns 0 1 1))] [1, 23, 26] [(28, .int .i64 many)] ?_
    refine od_ ?_
    exact wk (hmx15 () trivial) [1, 23, 26, 28] [[_], [_]] [0, 1] rfl rfl
   ·
    refine mo0 1 [] [1, 23, 26, 27] (fun γ127 => [(7, .pointer (some ⟨γ127 0, 0, none⟩))]) (fun γ127 L => bx (γ127 0) (#[.slice none 0 0]) 24 :: L) (fun γ127 => ?_)
    refine od_ ?_
    exact wk (hmx16 γ127 trivial) [1, 7, 23, 26, 27] [[_], [_], [_]] [0, 1, 2] rfl rfl
  refine any_cutX (V := (List Ob) × (Nat) × (Nat) × (Option Addr)) (fun ⟨Y27, c27, n27, q27⟩ => SlO 35 Y27 q27 n27 c27 (ts.take 17) ∧ n27 ≤ 17 ∧ n27 = ((ts.take 17)).length) 6 #[true, true, true, false, true, false, false, false, false, false] (fun ⟨Y27, c27, n27, q27⟩ => [(1, .int .i64 k), (24, .agg #[.slice q27 n27 c27]), (25, .pointer (some ⟨γ1 1, 0, none⟩)), (27, .pointer (some ⟨γ1 1, 1, none⟩))]) (fun ⟨Y27, c27, n27, q27⟩ => bx (γ1 1) (#[.int .u64 wt, .int .i64 many]) 27 :: bx (γ1 0) (#[.slice p n cap]) 24 :: (Y27 ++ [])) ?_ (fun hmx5 => ?_)
  ·
   rintro ⟨Y27, c27, n27, q27⟩ ⟨hO27, hbd27, hl27⟩
   refine any_fork [3, 5, 6] (by kernel_rfl) (by simp) (each_cons _ rfl ?_ (each_cons _ rfl ?_ (each_cons _ rfl ?_ (each_nil))))
   ·
    refine qo0 1 [(3, .go (owns 0 0 1))] [1, 24, 27] [(26, .int .u64 wt)] ?_
    refine od_ ?_
    exact wk (hmx12 (Y27, c27, n27, q27) ⟨hO27, hbd27, hl27⟩) [1, 24, 26, 27] [[_], [_], _] [0, 1, 2] rfl rfl
   ·
    refine qo0 1 [(5, .go (owns 0 1 1))] [1, 24, 25] [(28, .int .i64 many)] ?_
    refine od_ ?_
    exact wk (hmx13 (Y27, c27, n27, q27) ⟨hO27, hbd27, hl27⟩) [1, 24, 25, 28] [[_], [_], _] [0, 1, 2] rfl rfl
   ·
    refine mo0 1 [] [1, 24, 25, 27] (fun γ127 => [(7, .pointer (some ⟨γ127 0, 0, none⟩))]) (fun γ127 L => bx (γ127 0) (#[.slice none 0 0]) 24 :: L) (fun γ127 => ?_)
    refine od_ ?_
    exact wk (hmx14 (Y27, c27, n27, q27, γ127) ⟨hO27, hbd27, hl27⟩) [1, 7, 24, 25, 27] [[_], [_], [_], _] [0, 1, 2, 3] rfl rfl
  refine any_cutX (V := (Nat → Nat)) (fun γ127 => True) 7 #[false, false, true, false, true, false, true, false, false, false] (fun γ127 => [(1, .int .i64 k), (3, .pointer (some ⟨γ1 0, 0, none⟩)), (7, .pointer (some ⟨γ127 0, 0, none⟩)), (25, .pointer (some ⟨γ1 1, 0, none⟩)), (27, .pointer (some ⟨γ1 1, 1, none⟩))]) (fun γ127 => [bx (γ127 0) (#[.slice none 0 0]) 24, bx (γ1 1) (#[.int .u64 wt, .int .i64 many]) 27, bx (γ1 0) (#[.slice p n cap]) 24]) ?_ (fun hmx4 => ?_)
  ·
   rintro γ127 _
   refine any_fork [0, 3, 5] (by kernel_rfl) (by simp) (each_cons _ rfl ?_ (each_cons _ rfl ?_ (each_cons _ rfl ?_ (each_nil))))
   ·
    refine qo0 1 [(0, .go (owns 2 0 1))] [1, 7, 25, 27] [(23, .agg #[.slice p n cap])] ?_
    refine od_ ?_
    exact wk (hmx8 γ127 trivial) [1, 7, 23, 25, 27] [[_], [_], [_]] [0, 1, 2] rfl rfl
   ·
    refine qo0 1 [(3, .go (owns 1 0 1))] [1, 3, 7, 27] [(26, .int .u64 wt)] ?_
    refine od_ ?_
    exact wk (hmx10 γ127 trivial) [1, 3, 7, 26, 27] [[_], [_], [_]] [0, 1, 2] rfl rfl
   ·
    refine qo0 1 [(5, .go (owns 1 1 1))] [1, 3, 7, 25] [(28, .int .i64 many)] ?_
    refine od_ ?_
    exact wk (hmx11 γ127 trivial) [1, 3, 7, 25, 28] [[_], [_], [_]] [0, 1, 2] rfl rfl
  refine any_cutX (V := Unit) (fun _ => True) 7 #[false, false, true, false, true, true, false, false, false, false] (fun _ => [(1, .int .i64 k), (3, .pointer (some ⟨γ1 0, 0, none⟩)), (25, .pointer (some ⟨γ1 1, 0, none⟩)), (28, .int .i64 many)]) (fun _ => [bx (γ1 1) (#[.int .u64 wt, .int .i64 many]) 27, bx (γ1 0) (#[.slice p n cap]) 24]) ?_ (fun hmx3 => ?_)
  ·
   rintro _ _
   refine any_fork [0, 3, 6] (by kernel_rfl) (by simp) (each_cons _ rfl ?_ (each_cons _ rfl ?_ (each_cons _ rfl ?_ (each_nil))))
   ·
    refine qo0 1 [(0, .go (owns 1 0 1))] [1, 25, 28] [(23, .agg #[.slice p n cap])] ?_
    refine od_ ?_
    exact wk (hmx7 () trivial) [1, 23, 25, 28] [[_], [_]] [0, 1] rfl rfl
   ·
    refine qo0 1 [(3, .go (owns 0 0 1))] [1, 3, 28] [(26, .int .u64 wt)] ?_
    refine od_ ?_
    exact wk (hmx9 () trivial) [1, 3, 26, 28] [[_], [_]] [0, 1] rfl rfl
   ·
    refine mo0 1 [] [1, 3, 25, 28] (fun γ127 => [(7, .pointer (some ⟨γ127 0, 0, none⟩))]) (fun γ127 L => bx (γ127 0) (#[.slice none 0 0]) 24 :: L) (fun γ127 => ?_)
    refine od_ ?_
    exact wk (hmx11 γ127 trivial) [1, 3, 7, 25, 28] [[_], [_], [_]] [0, 1, 2] rfl rfl
  refine any_cutX (V := Unit) (fun _ => True) 7 #[false, false, true, true, true, false, false, false, false, false] (fun _ => [(1, .int .i64 k), (3, .pointer (some ⟨γ1 0, 0, none⟩)), (26, .int .u64 wt), (27, .pointer (some ⟨γ1 1, 1, none⟩))]) (fun _ => [bx (γ1 1) (#[.int .u64 wt, .int .i64 many]) 27, bx (γ1 0) (#[.slice p n cap]) 24]) ?_ (fun hmx2 => ?_)
  ·
   rintro _ _
   refine any_fork [0, 5, 6] (by kernel_rfl) (by simp) (each_cons _ rfl ?_ (each_cons _ rfl ?_ (each_cons _ rfl ?_ (each_nil))))
   ·
    refine qo0 1 [(0, .go (owns 1 0 1))] [1, 26, 27] [(23, .agg #[.slice p n cap])] ?_
    refine od_ ?_
    exact wk (hmx6 () trivial) [1, 23, 26, 27] [[_], [_]] [0, 1] rfl rfl
   ·
    refine qo0 1 [(5, .go (owns 0 1 1))] [1, 3, 26] [(28, .int .i64 many)] ?_
    refine od_ ?_
    exact wk (hmx9 () trivial) [1, 3, 26, 28] [[_], [_]] [0, 1] rfl rfl
   ·
    refine mo0 1 [] [1, 3, 26, 27] (fun γ127 => [(7, .pointer (some ⟨γ127 0, 0, none⟩))]) (fun γ127 L => bx (γ127 0) (#[.slice none 0 0]) 24 :: L) (fun γ127 => ?_)
    refine od_ ?_
    exact wk (hmx10 γ127 trivial) [1, 3, 7, 26, 27] [[_], [_], [_]] [0, 1, 2] rfl rfl
  refine any_cutX (V := Unit) (fun _ => True) 7 #[true, false, true, false, true, false, false, false, false, false] (fun _ => [(1, .int .i64 k), (23, .agg #[.slice p n cap]), (25, .pointer (some ⟨γ1 1, 0, none⟩)), (27, .pointer (some ⟨γ1 1, 1, none⟩))]) (fun _ => [bx (γ1 1) (#[.int .u64 wt, .int .i64 many]) 27, bx (γ1 0) (#[.slice p n cap]) 24]) ?_ (fun hmx1 => ?_)
  ·
   rintro _ _
   refine any_fork [1, 3, 5, 6] (by kernel_rfl) (by simp) (each_cons _ rfl ?_ (each_cons _ rfl ?_ (each_cons _ rfl ?_ (each_cons _ rfl ?_ (each_nil)))))
   ·
    refine cP (fun v L' => ∃ q_ n_ c_ Y_, v = .agg #[.slice q_ n_ c_] ∧ L' = List.take 2 ([bx (γ1 1) (#[.int .u64 wt, .int .i64 many]) 27, bx (γ1 0) (#[.slice p n cap]) 24]) ++ (Y_ ++ List.drop 2 ([bx (γ1 1) (#[.int .u64 wt, .int .i64 many]) 27, bx (γ1 0) (#[.slice p n cap]) 24])) ∧ SlO 35 Y_ q_ n_ c_ (ts.take 17)) Try.call10 (fun w hw => (short_t p n cap ts w (hts.kept hw.below) hn hcp hb).mono fun e w' ⟨q_, n_, c_, Y_, he, hO, hb, hY⟩ => ⟨_, _, he, ⟨q_, n_, c_, Y_, rfl, rfl, hO⟩, hw.join hb hY 2⟩) ?_
    rintro v27 L27 ⟨q27, n27, c27, Y27, rfl, rfl, hO27⟩
    have hl27 := hO27.len
    have hbd27 : n27 ≤ 17 := by rw [hl27, List.length_take]; omega
    refine od_ ?_
    exact wk (hmx5 (Y27, c27, n27, q27) ⟨hO27, hbd27, hl27⟩) [1, 24, 25, 27] [[_], [_], _] [0, 1, 2] rfl rfl
   ·
    refine qo0 1 [(3, .go (owns 0 0 1))] [1, 23, 27] [(26, .int .u64 wt)] ?_
    refine od_ ?_
    exact wk (hmx6 () trivial) [1, 23, 26, 27] [[_], [_]] [0, 1] rfl rfl
   ·
    refine qo0 1 [(5, .go (owns 0 1 1))] [1, 23, 25] [(28, .int .i64 many)] ?_
    refine od_ ?_
    exact wk (hmx7 () trivial) [1, 23, 25, 28] [[_], [_]] [0, 1] rfl rfl
   ·
    refine mo0 1 [] [1, 23, 25, 27] (fun γ127 => [(7, .pointer (some ⟨γ127 0, 0, none⟩))]) (fun γ127 L => bx (γ127 0) (#[.slice none 0 0]) 24 :: L) (fun γ127 => ?_)
    refine od_ ?_
    exact wk (hmx8 γ127 trivial) [1, 7, 23, 25, 27] [[_], [_], [_]] [0, 1, 2] rfl rfl
  refine any_fork [0, 3, 5, 6] (by kernel_rfl) (by simp) (each_cons _ rfl ?_ (each_cons _ rfl ?_ (each_cons _ rfl ?_ (each_cons _ rfl ?_ (each_nil)))))
  ·
   refine qo0 1 [(0, .go (owns 1 0 1))] [1, 25, 27] [(23, .agg #[.slice p n cap])] ?_
   refine od_ ?_
   exact wk (hmx1 () trivial) [1, 23, 25, 27] [[_], [_]] [0, 1] rfl rfl
  ·
   refine qo0 1 [(3, .go (owns 0 0 1))] [1, 3, 27] [(26, .int .u64 wt)] ?_
   refine od_ ?_
   exact wk (hmx2 () trivial) [1, 3, 26, 27] [[_], [_]] [0, 1] rfl rfl
  ·
   refine qo0 1 [(5, .go (owns 0 1 1))] [1, 3, 25] [(28, .int .i64 many)] ?_
   refine od_ ?_
   exact wk (hmx3 () trivial) [1, 3, 25, 28] [[_], [_]] [0, 1] rfl rfl
  ·
   refine mo0 1 [] [1, 3, 25, 27] (fun γ127 => [(7, .pointer (some ⟨γ127 0, 0, none⟩))]) (fun γ127 L => bx (γ127 0) (#[.slice none 0 0]) 24 :: L) (fun γ127 => ?_)
   refine od_ ?_
   exact wk (hmx4 γ127 trivial) [1, 3, 7, 25, 27] [[_], [_], [_]] [0, 1, 2] rfl rfl
 rintro ⟨Y27, c27, n27, q27, γ127⟩ ⟨hO27, hbd27, hl27⟩
 refine any_nil (by kernel_rfl) ?_
 refine ds_ (sq_ (ao_ (qo0 2 [(0, .go (owns 0 0 1))] [1, 7, 8, 9] [(30, .agg #[.slice q27 n27 c27]), (31, .int .i64 k)] ?_)))
 rcases hq254 : getQ (ts.take 17) k with _ | y254
 ·
  refine cD (.tuple #[.agg #[.int .i64 0, .int .i64 0, .int .u64 0, .int .u64 0, .int .u64 0], .bool false]) Try.call11 (fun w hw => by have := getq_t q27 n27 c27 (ts.take 17) k w (hO27.atN (A := [_, _, _]) hw) hO27.len (by omega) (take_U hU) hk0 hk1; rw [hq254] at this; exact this) (mo0 6 [(7, .go (owns 0 0 5))] [1, 7, 8, 9] (fun γ255 => [(10, .pointer (some ⟨γ255 0, 0, none⟩)), (11, .bool false)]) (fun γ255 L => bx (γ255 0) (#[.int .i64 0, .int .i64 0, .int .u64 0, .int .u64 0, .int .u64 0]) 35 :: L) (fun γ255 => on_ (ds_ (sq_ (ao_ (mo0 5 [(0, .go (owns 1 0 1))] [1, 8, 9, 10, 11] (fun γ256 => [(36, .agg #[.slice q27 n27 c27]), (38, .slice (some ⟨γ256 0, 0, none⟩) 1 1), (39, .int .u64 wt), (40, .int .i64 many)]) (fun γ256 L => bx (γ256 0) (#[.int .i64 k]) 3 :: L) (fun γ256 => cP (fun v L' => ∃ q_ n_ c_ Y_, v = .tuple #[.agg #[.slice q_ n_ c_], .int .i64 ((weighV (ts.take 17) [k] wt many).2)] ∧ L' = List.take 5 (bx (γ256 0) (#[.int .i64 k]) 3 :: bx (γ255 0) (#[.int .i64 0, .int .i64 0, .int .u64 0, .int .u64 0, .int .u64 0]) 35 :: bx (γ127 0) (#[.slice q27 n27 c27]) 24 :: bx (γ1 1) (#[.int .u64 wt, .int .i64 many]) 27 :: bx (γ1 0) (#[.slice p n cap]) 24 :: (Y27 ++ [])) ++ (Y_ ++ List.drop 5 (bx (γ256 0) (#[.int .i64 k]) 3 :: bx (γ255 0) (#[.int .i64 0, .int .i64 0, .int .u64 0, .int .u64 0, .int .u64 0]) 35 :: bx (γ127 0) (#[.slice q27 n27 c27]) 24 :: bx (γ1 1) (#[.int .u64 wt, .int .i64 many]) 27 :: bx (γ1 0) (#[.slice p n cap]) 24 :: (Y27 ++ []))) ∧ SlO 35 Y_ q_ n_ c_ ((weighV (ts.take 17) [k] wt many).1)) Try.call12 (fun w hw => (weigh_t q27 n27 c27 (ts.take 17) (some ⟨γ256 0, 0, none⟩) 1 1 [k] wt many w (hO27.atN (A := [_, _, _, _, _]) hw) hO27.len (by omega) (take_U hU) (sv_row (hw.row 0 rfl) rfl) rfl (by decide)).mono fun e w' ⟨q_, n_, c_, Y_, he, hO, hb, hY⟩ => by exact ⟨_, _, he, ⟨q_, n_, c_, Y_, rfl, rfl, hO⟩, hw.join hb hY 5⟩) ?_)))))))
  rintro v257 L257 ⟨q257, n257, c257, Y257, rfl, rfl, hO257⟩
  have hl257 := hO257.len
  have hbd257 : n257 ≤ 17 := by rw [hl257]; exact Nat.le_trans weigh_len (by rw [← hl27]; omega)
  refine mo0 6 [(10, .go (owns 0 0 1))] [1, 8, 9, 10, 11] (fun γ258 => [(12, .pointer (some ⟨γ258 0, 0, none⟩)), (13, .int .i64 ((weighV (ts.take 17) [k] wt many).2))]) (fun γ258 L => bx (γ258 0) (#[.slice q257 n257 c257]) 24 :: L) (fun γ258 => on_ (ds_ (sq_ (sq_ (qa [(1, .yes)] [1, 8, 9, 10, 12] [(49, .bool true)] ([((weighV (ts.take 17) [k] wt many).2 : Int) ≠ (0 : Int)]) (al1 (fun h0 => by obtain ⟨rr, hf⟩ := weigh_facts (take_U hU) h0; have h9 := hf.get; rw [hq254] at h9; cases h9)) (ds_ (t_ (sq_ ?_))))))))
  have hz7 : n257 = 0 := by rw [hl257, weigh_nil (fun h0 => by obtain ⟨rr, hf⟩ := weigh_facts (take_U hU) h0; have h9 := hf.get; rw [hq254] at h9; cases h9)]; rfl
  refine qa [(1, .go (owns 0 0 1)), (3, .yes)] [] [(6, .bool true)] ([((n257 : Nat) : Int) = (0 : Int)]) (al1 (by omega)) (ds_ (rt ([]) (.bool true) ?_))
  exact fun w' hw => ⟨rfl, hw.below⟩
 ·
  refine cD (.tuple #[.agg #[.int .i64 y254.id, .int .i64 y254.each, .int .u64 y254.th, .int .u64 y254.tl, .int .u64 y254.tw], .bool true]) Try.call11 (fun w hw => by have := getq_t q27 n27 c27 (ts.take 17) k w (hO27.atN (A := [_, _, _]) hw) hO27.len (by omega) (take_U hU) hk0 hk1; rw [hq254] at this; exact this) (mo0 6 [(7, .go (owns 0 0 5))] [1, 7, 8, 9] (fun γ261 => [(10, .pointer (some ⟨γ261 0, 0, none⟩)), (11, .bool true)]) (fun γ261 L => bx (γ261 0) (#[.int .i64 y254.id, .int .i64 y254.each, .int .u64 y254.th, .int .u64 y254.tl, .int .u64 y254.tw]) 35 :: L) (fun γ261 => on_ (ds_ (sq_ (ao_ (mo0 5 [(0, .go (owns 1 0 1))] [1, 8, 9, 10, 11] (fun γ262 => [(36, .agg #[.slice q27 n27 c27]), (38, .slice (some ⟨γ262 0, 0, none⟩) 1 1), (39, .int .u64 wt), (40, .int .i64 many)]) (fun γ262 L => bx (γ262 0) (#[.int .i64 k]) 3 :: L) (fun γ262 => cP (fun v L' => ∃ q_ n_ c_ Y_, v = .tuple #[.agg #[.slice q_ n_ c_], .int .i64 ((weighV (ts.take 17) [k] wt many).2)] ∧ L' = List.take 5 (bx (γ262 0) (#[.int .i64 k]) 3 :: bx (γ261 0) (#[.int .i64 y254.id, .int .i64 y254.each, .int .u64 y254.th, .int .u64 y254.tl, .int .u64 y254.tw]) 35 :: bx (γ127 0) (#[.slice q27 n27 c27]) 24 :: bx (γ1 1) (#[.int .u64 wt, .int .i64 many]) 27 :: bx (γ1 0) (#[.slice p n cap]) 24 :: (Y27 ++ [])) ++ (Y_ ++ List.drop 5 (bx (γ262 0) (#[.int .i64 k]) 3 :: bx (γ261 0) (#[.int .i64 y254.id, .int .i64 y254.each, .int .u64 y254.th, .int .u64 y254.tl, .int .u64 y254.tw]) 35 :: bx (γ127 0) (#[.slice q27 n27 c27]) 24 :: bx (γ1 1) (#[.int .u64 wt, .int .i64 many]) 27 :: bx (γ1 0) (#[.slice p n cap]) 24 :: (Y27 ++ []))) ∧ SlO 35 Y_ q_ n_ c_ ((weighV (ts.take 17) [k] wt many).1)) Try.call12 (fun w hw => (weigh_t q27 n27 c27 (ts.take 17) (some ⟨γ262 0, 0, none⟩) 1 1 [k] wt many w (hO27.atN (A := [_, _, _, _, _]) hw) hO27.len (by omega) (take_U hU) (sv_row (hw.row 0 rfl) rfl) rfl (by decide)).mono fun e w' ⟨q_, n_, c_, Y_, he, hO, hb, hY⟩ => by exact ⟨_, _, he, ⟨q_, n_, c_, Y_, rfl, rfl, hO⟩, hw.join hb hY 5⟩) ?_)))))))
  rintro v263 L263 ⟨q263, n263, c263, Y263, rfl, rfl, hO263⟩
  have hl263 := hO263.len
  have hbd263 : n263 ≤ 17 := by rw [hl263]; exact Nat.le_trans weigh_len (by rw [← hl27]; omega)
  refine mo0 6 [(10, .go (owns 0 0 1))] [1, 8, 9, 10, 11] (fun γ264 => [(12, .pointer (some ⟨γ264 0, 0, none⟩)), (13, .int .i64 ((weighV (ts.take 17) [k] wt many).2))]) (fun γ264 L => bx (γ264 0) (#[.slice q263 n263 c263]) 24 :: L) (fun γ264 => on_ (ds_ (sq_ (sq_ ?_))))
  by_cases q266 : ((weighV (ts.take 17) [k] wt many).2 : Int) ≠ (0 : Int)
  ·
   refine qa [(1, .yes)] [1, 8, 9, 10, 12] [(49, .bool true)] ([((weighV (ts.take 17) [k] wt many).2 : Int) ≠ (0 : Int)]) (al1 q266) (ds_ (t_ (sq_ ?_)))
   have hz7 : n263 = 0 := by rw [hl263, weigh_nil q266]; rfl
   refine qa [(1, .go (owns 0 0 1)), (3, .yes)] [] [(6, .bool true)] ([((n263 : Nat) : Int) = (0 : Int)]) (al1 (by omega)) (ds_ (rt ([]) (.bool true) ?_))
   exact fun w' hw => ⟨rfl, hw.below⟩
  ·
   refine qa [(1, .no)] [1, 8, 9, 10, 12] [(49, .bool false)] ([¬ (((weighV (ts.take 17) [k] wt many).2 : Int) ≠ (0 : Int))]) (al1 q266) (ds_ (f_ (at_skip (ds_ (sq_ ?_)))))
   obtain ⟨rr, hf⟩ := weigh_facts (take_U hU) (show (weighV (ts.take 17) [k] wt many).2 = 0 by omega)
   obtain rfl : y254 = rr := by have h9 := hf.get; rw [hq254] at h9; exact Option.some.inj h9
   have hge := hf.ge
   have hls := hf.ls
   have htw := hf.tw
   have herr := hf.err
   refine ao_ (qo0 2 [(0, .go (owns 0 0 1))] [1, 8, 9, 10, 12] [(55, .agg #[.slice q263 n263 c263]), (56, .int .i64 k)] (cD (.tuple #[.agg #[.int .i64 y254.id, .int .i64 many, .int .u64 ((overV y254.t wt).1.hi), .int .u64 ((overV y254.t wt).1.lo), .int .u64 ((overV y254.t wt).1.w)], .bool true]) Try.call11 (fun w hw => by have := getq_t q263 n263 c263 ((weighV (ts.take 17) [k] wt many).1) k w (hO263.atN (A := [_, _, _, _, _, _]) hw) hO263.len (by omega) (weigh_U (take_U hU)) hk0 hk1; rw [hf.get2] at this; exact this) (mo0 6 [(7, .go (owns 0 0 5))] [1, 8, 9, 10, 12] (fun γ271 => [(14, .pointer (some ⟨γ271 0, 0, none⟩))]) (fun γ271 L => bx (γ271 0) (#[.int .i64 y254.id, .int .i64 many, .int .u64 ((overV y254.t wt).1.hi), .int .u64 ((overV y254.t wt).1.lo), .int .u64 ((overV y254.t wt).1.w)]) 35 :: L) (fun γ271 => on_ (ds_ (sq_ (sq_ (ao_ (qo 16 [(2, .go (owns 0 4 1)), (4, .no), (7, .go (owns 0 1 1)), (9, .no), (13, .go (owns 0 2 3)), (15, .go (owns 3 2 3))] [1, 10, 12, 14] [(71, .bool false), (73, .agg #[.int .u64 ((overV y254.t wt).1.hi), .int .u64 ((overV y254.t wt).1.lo), .int .u64 ((overV y254.t wt).1.w)]), (75, .agg #[.int .u64 y254.th, .int .u64 y254.tl, .int .u64 y254.tw])] ([¬ (((overV y254.t wt).1.w : Int) ≠ (wt : Int))] ++ ([¬ ((many : Int) ≠ (many : Int))])) (alA (al1 (by omega)) (al1 (fun h => h rfl))) (cD (.int .i64 (cmpF ((overV y254.t wt).1) y254.t)) Try.call13 (fun w hw => fcmp_t ((overV y254.t wt).1) y254.t w (over_U hf.U.t) hf.U.t) (qo 2 [(17, .no)] [1, 10, 12, 14] [(78, .bool false)] ([¬ (((cmpF ((overV y254.t wt).1) y254.t) : Int) < (0 : Int))]) (al1 (by omega)) (on_ (ds_ (f_ (at_skip (ds_ (sq_ (sq_ (ao_ (qo0 2 [(1, .go (owns 0 2 3))] [1, 10, 12, 14] [(81, .agg #[.int .u64 ((overV y254.t wt).1.hi), .int .u64 ((overV y254.t wt).1.lo), .int .u64 ((overV y254.t wt).1.w)])] (cD (.tuple #[.agg #[.int .u64 ((lessV ((overV y254.t wt).1) 1).1.hi), .int .u64 ((lessV ((overV y254.t wt).1) 1).1.lo), .int .u64 ((lessV ((overV y254.t wt).1) 1).1.w)], .int .i64 ((lessV ((overV y254.t wt).1) 1).2)]) Try.call14 (fun w hw => fless_t ((overV y254.t wt).1) 1 w (over_U hf.U.t) (by omega) (by omega)) (mo0 6 [(7, .go (owns 0 0 3))] [1, 10, 12, 14] (fun γ275 => [(16, .pointer (some ⟨γ275 0, 0, none⟩)), (17, .int .i64 ((lessV ((overV y254.t wt).1) 1).2))]) (fun γ275 L => bx (γ275 0) (#[.int .u64 ((lessV ((overV y254.t wt).1) 1).1.hi), .int .u64 ((lessV ((overV y254.t wt).1) 1).1.lo), .int .u64 ((lessV ((overV y254.t wt).1) 1).1.w)]) 33 :: L) (fun γ275 => ?_)))))))))))))))))))))))
   refine on_ (ds_ (sq_ ?_))
   by_cases q277 : (⟨(overV y254.t wt).1.hi, (overV y254.t wt).1.lo⟩ : Wd) = (⟨0, 0⟩ : Wd)
   ·
    refine qa [(1, .no), (5, .go (owns 1 2 2)), (7, .eqs false)] [1, 10, 12] [(100, .bool false)] ([¬ (((lessV ((overV y254.t wt).1) 1).2 : Int) ≠ (0 : Int))] ++ ([EqRun Try.prog .neq 31 (.tmp 90) (.tmp 91) (.agg #[.int .u64 ((overV y254.t wt).1.hi), .int .u64 ((overV y254.t wt).1.lo)]) (.agg #[.int .u64 0, .int .u64 0]) false])) (alA (al1 (by omega)) (al1 (wd_ne_t (a := (⟨(overV y254.t wt).1.hi, (overV y254.t wt).1.lo⟩ : Wd)) (b := (⟨0, 0⟩ : Wd)) q277))) (ds_ (f_ (at_skip (ds_ (sq_ (ao_ (mo0 8 [(0, .go (owns 2 0 1)), (5, .go (owns 5 4 1)), (7, .go (owns 5 1 1))] [1, 10] (fun γ279 => [(102, .agg #[.slice q263 n263 c263]), (104, .slice (some ⟨γ279 0, 0, none⟩) 1 1), (107, .int .u64 y254.tw), (109, .int .i64 y254.each)]) (fun γ279 L => bx (γ279 0) (#[.int .i64 k]) 3 :: L) (fun γ279 => cP (fun v L' => ∃ q_ n_ c_ Y_, v = .tuple #[.agg #[.slice q_ n_ c_], .int .i64 ((weighV ((weighV (ts.take 17) [k] wt many).1) [k] y254.tw y254.each).2)] ∧ L' = List.take 9 (bx (γ279 0) (#[.int .i64 k]) 3 :: bx (γ275 0) (#[.int .u64 ((lessV ((overV y254.t wt).1) 1).1.hi), .int .u64 ((lessV ((overV y254.t wt).1) 1).1.lo), .int .u64 ((lessV ((overV y254.t wt).1) 1).1.w)]) 33 :: bx (γ271 0) (#[.int .i64 y254.id, .int .i64 many, .int .u64 ((overV y254.t wt).1.hi), .int .u64 ((overV y254.t wt).1.lo), .int .u64 ((overV y254.t wt).1.w)]) 35 :: bx (γ264 0) (#[.slice q263 n263 c263]) 24 :: bx (γ262 0) (#[.int .i64 k]) 3 :: bx (γ261 0) (#[.int .i64 y254.id, .int .i64 y254.each, .int .u64 y254.th, .int .u64 y254.tl, .int .u64 y254.tw]) 35 :: bx (γ127 0) (#[.slice q27 n27 c27]) 24 :: bx (γ1 1) (#[.int .u64 wt, .int .i64 many]) 27 :: bx (γ1 0) (#[.slice p n cap]) 24 :: (Y263 ++ (Y27 ++ []))) ++ (Y_ ++ List.drop 9 (bx (γ279 0) (#[.int .i64 k]) 3 :: bx (γ275 0) (#[.int .u64 ((lessV ((overV y254.t wt).1) 1).1.hi), .int .u64 ((lessV ((overV y254.t wt).1) 1).1.lo), .int .u64 ((lessV ((overV y254.t wt).1) 1).1.w)]) 33 :: bx (γ271 0) (#[.int .i64 y254.id, .int .i64 many, .int .u64 ((overV y254.t wt).1.hi), .int .u64 ((overV y254.t wt).1.lo), .int .u64 ((overV y254.t wt).1.w)]) 35 :: bx (γ264 0) (#[.slice q263 n263 c263]) 24 :: bx (γ262 0) (#[.int .i64 k]) 3 :: bx (γ261 0) (#[.int .i64 y254.id, .int .i64 y254.each, .int .u64 y254.th, .int .u64 y254.tl, .int .u64 y254.tw]) 35 :: bx (γ127 0) (#[.slice q27 n27 c27]) 24 :: bx (γ1 1) (#[.int .u64 wt, .int .i64 many]) 27 :: bx (γ1 0) (#[.slice p n cap]) 24 :: (Y263 ++ (Y27 ++ [])))) ∧ SlO 35 Y_ q_ n_ c_ ((weighV ((weighV (ts.take 17) [k] wt many).1) [k] y254.tw y254.each).1)) Try.call12 (fun w hw => (weigh_t q263 n263 c263 ((weighV (ts.take 17) [k] wt many).1) (some ⟨γ279 0, 0, none⟩) 1 1 [k] y254.tw y254.each w (hO263.atN (A := [_, _, _, _, _, _, _, _, _]) hw) hO263.len (by omega) (weigh_U (take_U hU)) (sv_row (hw.row 0 rfl) rfl) rfl (by decide)).mono fun e w' ⟨q_, n_, c_, Y_, he, hO, hb, hY⟩ => by exact ⟨_, _, he, ⟨q_, n_, c_, Y_, rfl, rfl, hO⟩, hw.join hb hY 9⟩) ?_))))))))
    rintro v280 L280 ⟨q280, n280, c280, Y280, rfl, rfl, hO280⟩
    have hl280 := hO280.len
    have hbd280 : n280 ≤ 17 := by rw [hl280]; exact Nat.le_trans weigh_len (by rw [← hl263]; omega)
    refine mo0 6 [(13, .go (owns 0 0 1))] [1, 10] (fun γ281 => [(13, .int .i64 ((weighV ((weighV (ts.take 17) [k] wt many).1) [k] y254.tw y254.each).2)), (18, .pointer (some ⟨γ281 0, 0, none⟩))]) (fun γ281 L => bx (γ281 0) (#[.slice q280 n280 c280]) 24 :: L) (fun γ281 => on_ (ds_ (sq_ (sq_ ?_))))
    by_cases q283 : ((weighV ((weighV (ts.take 17) [k] wt many).1) [k] y254.tw y254.each).2 : Int) ≠ (0 : Int)
    ·
     refine qa [(1, .yes)] [1, 10, 13, 18] [(114, .bool true)] ([((weighV ((weighV (ts.take 17) [k] wt many).1) [k] y254.tw y254.each).2 : Int) ≠ (0 : Int)]) (al1 q283) (ds_ (t_ (sq_ (qa [(1, .yes)] [] [(6, .bool true)] ([((weighV ((weighV (ts.take 17) [k] wt many).1) [k] y254.tw y254.each).2 : Int) = (131 : Int)]) (al1 (by omega)) (ds_ (rt ([]) (.bool true) ?_))))))
     exact fun w' hw => ⟨rfl, hw.below⟩
    ·
     refine qa [(1, .no)] [1, 10, 13, 18] [(114, .bool false)] ([¬ (((weighV ((weighV (ts.take 17) [k] wt many).1) [k] y254.tw y254.each).2 : Int) ≠ (0 : Int))]) (al1 q283) (ds_ (f_ (at_skip (ds_ (sq_ ?_)))))
     have hbk := hf.back (by omega)
     have hge2 := hbk.2
     refine ao_ (qo0 2 [(0, .go (owns 0 0 1))] [10] [(118, .agg #[.slice q280 n280 c280]), (119, .int .i64 k)] (cD (.tuple #[.agg #[.int .i64 y254.id, .int .i64 y254.each, .int .u64 ((overV (overV y254.t wt).1 y254.tw).1.hi), .int .u64 ((overV (overV y254.t wt).1 y254.tw).1.lo), .int .u64 ((overV (overV y254.t wt).1 y254.tw).1.w)], .bool true]) Try.call11 (fun w hw => by have := getq_t q280 n280 c280 ((weighV ((weighV (ts.take 17) [k] wt many).1) [k] y254.tw y254.each).1) k w (hO280.atN (A := [_, _, _, _, _, _, _, _, _, _]) hw) hO280.len (by omega) (weigh_U (weigh_U (take_U hU))) hk0 hk1; rw [hbk.1] at this; exact this) (mo0 6 [(7, .go (owns 0 0 5))] [10] (fun γ288 => [(19, .pointer (some ⟨γ288 0, 0, none⟩))]) (fun γ288 L => bx (γ288 0) (#[.int .i64 y254.id, .int .i64 y254.each, .int .u64 ((overV (overV y254.t wt).1 y254.tw).1.hi), .int .u64 ((overV (overV y254.t wt).1 y254.tw).1.lo), .int .u64 ((overV (overV y254.t wt).1 y254.tw).1.w)]) 35 :: L) (fun γ288 => on_ (ds_ (sq_ (ao_ (qo 10 [(1, .go (owns 0 1 1)), (3, .go (owns 7 1 1)), (4, .yes), (7, .go (owns 0 2 3)), (9, .go (owns 7 2 3))] [] [(128, .bool true), (130, .agg #[.int .u64 ((overV (overV y254.t wt).1 y254.tw).1.hi), .int .u64 ((overV (overV y254.t wt).1 y254.tw).1.lo), .int .u64 ((overV (overV y254.t wt).1 y254.tw).1.w)]), (132, .agg #[.int .u64 y254.th, .int .u64 y254.tl, .int .u64 y254.tw])] ([(y254.each : Int) = (y254.each : Int)]) (al1 rfl) (cD (.int .i64 (cmpF ((overV (overV y254.t wt).1 y254.tw).1) y254.t)) Try.call13 (fun w hw => fcmp_t ((overV (overV y254.t wt).1 y254.tw).1) y254.t w (over_U (over_U hf.U.t)) hf.U.t) (qo 3 [(11, .yes)] [] [(6, .bool true)] ([((cmpF ((overV (overV y254.t wt).1 y254.tw).1) y254.t) : Int) ≥ (0 : Int)]) (al1 (by omega)) (on_ (ds_ (rt ([]) (.bool true) ?_)))))))))))))
     exact fun w' hw => ⟨rfl, hw.below⟩
   ·
    refine ao_ (qo 12 [(1, .no), (5, .go (owns 1 2 2)), (7, .eqs true), (9, .go (owns 0 0 3)), (11, .go (owns 4 2 3))] [1, 10, 12] [(87, .bool false), (93, .bool true), (94, .agg #[.int .u64 ((lessV ((overV y254.t wt).1) 1).1.hi), .int .u64 ((lessV ((overV y254.t wt).1) 1).1.lo), .int .u64 ((lessV ((overV y254.t wt).1) 1).1.w)]), (96, .agg #[.int .u64 y254.th, .int .u64 y254.tl, .int .u64 y254.tw])] ([¬ (((lessV ((overV y254.t wt).1) 1).2 : Int) ≠ (0 : Int))] ++ ([EqRun Try.prog .neq 31 (.tmp 90) (.tmp 91) (.agg #[.int .u64 ((overV y254.t wt).1.hi), .int .u64 ((overV y254.t wt).1.lo)]) (.agg #[.int .u64 0, .int .u64 0]) true])) (alA (al1 (by omega)) (al1 (wd_ne_f (a := (⟨(overV y254.t wt).1.hi, (overV y254.t wt).1.lo⟩ : Wd)) (b := (⟨0, 0⟩ : Wd)) q277))) (cD (.int .i64 (cmpF ((lessV ((overV y254.t wt).1) 1).1) y254.t)) Try.call13 (fun w hw => fcmp_t ((lessV ((overV y254.t wt).1) 1).1) y254.t w (less_U (over_U hf.U.t) (by omega)) hf.U.t) ?_))
    have hlt9 := hf.lt (fun hz => q277 (by rw [hz.1, hz.2]))
    refine qo 3 [(13, .no)] [1, 10, 12] [(100, .bool false)] ([¬ (((cmpF ((lessV ((overV y254.t wt).1) 1).1) y254.t) : Int) ≥ (0 : Int))]) (al1 (by omega)) (on_ (ds_ (f_ (at_skip (ds_ (sq_ (ao_ (mo0 8 [(0, .go (owns 2 0 1)), (5, .go (owns 5 4 1)), (7, .go (owns 5 1 1))] [1, 10] (fun γ293 => [(102, .agg #[.slice q263 n263 c263]), (104, .slice (some ⟨γ293 0, 0, none⟩) 1 1), (107, .int .u64 y254.tw), (109, .int .i64 y254.each)]) (fun γ293 L => bx (γ293 0) (#[.int .i64 k]) 3 :: L) (fun γ293 => cP (fun v L' => ∃ q_ n_ c_ Y_, v = .tuple #[.agg #[.slice q_ n_ c_], .int .i64 ((weighV ((weighV (ts.take 17) [k] wt many).1) [k] y254.tw y254.each).2)] ∧ L' = List.take 9 (bx (γ293 0) (#[.int .i64 k]) 3 :: bx (γ275 0) (#[.int .u64 ((lessV ((overV y254.t wt).1) 1).1.hi), .int .u64 ((lessV ((overV y254.t wt).1) 1).1.lo), .int .u64 ((lessV ((overV y254.t wt).1) 1).1.w)]) 33 :: bx (γ271 0) (#[.int .i64 y254.id, .int .i64 many, .int .u64 ((overV y254.t wt).1.hi), .int .u64 ((overV y254.t wt).1.lo), .int .u64 ((overV y254.t wt).1.w)]) 35 :: bx (γ264 0) (#[.slice q263 n263 c263]) 24 :: bx (γ262 0) (#[.int .i64 k]) 3 :: bx (γ261 0) (#[.int .i64 y254.id, .int .i64 y254.each, .int .u64 y254.th, .int .u64 y254.tl, .int .u64 y254.tw]) 35 :: bx (γ127 0) (#[.slice q27 n27 c27]) 24 :: bx (γ1 1) (#[.int .u64 wt, .int .i64 many]) 27 :: bx (γ1 0) (#[.slice p n cap]) 24 :: (Y263 ++ (Y27 ++ []))) ++ (Y_ ++ List.drop 9 (bx (γ293 0) (#[.int .i64 k]) 3 :: bx (γ275 0) (#[.int .u64 ((lessV ((overV y254.t wt).1) 1).1.hi), .int .u64 ((lessV ((overV y254.t wt).1) 1).1.lo), .int .u64 ((lessV ((overV y254.t wt).1) 1).1.w)]) 33 :: bx (γ271 0) (#[.int .i64 y254.id, .int .i64 many, .int .u64 ((overV y254.t wt).1.hi), .int .u64 ((overV y254.t wt).1.lo), .int .u64 ((overV y254.t wt).1.w)]) 35 :: bx (γ264 0) (#[.slice q263 n263 c263]) 24 :: bx (γ262 0) (#[.int .i64 k]) 3 :: bx (γ261 0) (#[.int .i64 y254.id, .int .i64 y254.each, .int .u64 y254.th, .int .u64 y254.tl, .int .u64 y254.tw]) 35 :: bx (γ127 0) (#[.slice q27 n27 c27]) 24 :: bx (γ1 1) (#[.int .u64 wt, .int .i64 many]) 27 :: bx (γ1 0) (#[.slice p n cap]) 24 :: (Y263 ++ (Y27 ++ [])))) ∧ SlO 35 Y_ q_ n_ c_ ((weighV ((weighV (ts.take 17) [k] wt many).1) [k] y254.tw y254.each).1)) Try.call12 (fun w hw => (weigh_t q263 n263 c263 ((weighV (ts.take 17) [k] wt many).1) (some ⟨γ293 0, 0, none⟩) 1 1 [k] y254.tw y254.each w (hO263.atN (A := [_, _, _, _, _, _, _, _, _]) hw) hO263.len (by omega) (weigh_U (take_U hU)) (sv_row (hw.row 0 rfl) rfl) rfl (by decide)).mono fun e w' ⟨q_, n_, c_, Y_, he, hO, hb, hY⟩ => by exact ⟨_, _, he, ⟨q_, n_, c_, Y_, rfl, rfl, hO⟩, hw.join hb hY 9⟩) ?_)))))))))
    rintro v294 L294 ⟨q294, n294, c294, Y294, rfl, rfl, hO294⟩
    have hl294 := hO294.len
    have hbd294 : n294 ≤ 17 := by rw [hl294]; exact Nat.le_trans weigh_len (by rw [← hl263]; omega)
    refine mo0 6 [(13, .go (owns 0 0 1))] [1, 10] (fun γ295 => [(13, .int .i64 ((weighV ((weighV (ts.take 17) [k] wt many).1) [k] y254.tw y254.each).2)), (18, .pointer (some ⟨γ295 0, 0, none⟩))]) (fun γ295 L => bx (γ295 0) (#[.slice q294 n294 c294]) 24 :: L) (fun γ295 => on_ (ds_ (sq_ (sq_ ?_))))
    by_cases q297 : ((weighV ((weighV (ts.take 17) [k] wt many).1) [k] y254.tw y254.each).2 : Int) ≠ (0 : Int)
    ·
     refine qa [(1, .yes)] [1, 10, 13, 18] [(114, .bool true)] ([((weighV ((weighV (ts.take 17) [k] wt many).1) [k] y254.tw y254.each).2 : Int) ≠ (0 : Int)]) (al1 q297) (ds_ (t_ (sq_ (qa [(1, .yes)] [] [(6, .bool true)] ([((weighV ((weighV (ts.take 17) [k] wt many).1) [k] y254.tw y254.each).2 : Int) = (131 : Int)]) (al1 (by omega)) (ds_ (rt ([]) (.bool true) ?_))))))
     exact fun w' hw => ⟨rfl, hw.below⟩
    ·
     refine qa [(1, .no)] [1, 10, 13, 18] [(114, .bool false)] ([¬ (((weighV ((weighV (ts.take 17) [k] wt many).1) [k] y254.tw y254.each).2 : Int) ≠ (0 : Int))]) (al1 q297) (ds_ (f_ (at_skip (ds_ (sq_ ?_)))))
     have hbk := hf.back (by omega)
     have hge2 := hbk.2
     refine ao_ (qo0 2 [(0, .go (owns 0 0 1))] [10] [(118, .agg #[.slice q294 n294 c294]), (119, .int .i64 k)] (cD (.tuple #[.agg #[.int .i64 y254.id, .int .i64 y254.each, .int .u64 ((overV (overV y254.t wt).1 y254.tw).1.hi), .int .u64 ((overV (overV y254.t wt).1 y254.tw).1.lo), .int .u64 ((overV (overV y254.t wt).1 y254.tw).1.w)], .bool true]) Try.call11 (fun w hw => by have := getq_t q294 n294 c294 ((weighV ((weighV (ts.take 17) [k] wt many).1) [k] y254.tw y254.each).1) k w (hO294.atN (A := [_, _, _, _, _, _, _, _, _, _]) hw) hO294.len (by omega) (weigh_U (weigh_U (take_U hU))) hk0 hk1; rw [hbk.1] at this; exact this) (mo0 6 [(7, .go (owns 0 0 5))] [10] (fun γ302 => [(19, .pointer (some ⟨γ302 0, 0, none⟩))]) (fun γ302 L => bx (γ302 0) (#[.int .i64 y254.id, .int .i64 y254.each, .int .u64 ((overV (overV y254.t wt).1 y254.tw).1.hi), .int .u64 ((overV (overV y254.t wt).1 y254.tw).1.lo), .int .u64 ((overV (overV y254.t wt).1 y254.tw).1.w)]) 35 :: L) (fun γ302 => on_ (ds_ (sq_ (ao_ (qo 10 [(1, .go (owns 0 1 1)), (3, .go (owns 7 1 1)), (4, .yes), (7, .go (owns 0 2 3)), (9, .go (owns 7 2 3))] [] [(128, .bool true), (130, .agg #[.int .u64 ((overV (overV y254.t wt).1 y254.tw).1.hi), .int .u64 ((overV (overV y254.t wt).1 y254.tw).1.lo), .int .u64 ((overV (overV y254.t wt).1 y254.tw).1.w)]), (132, .agg #[.int .u64 y254.th, .int .u64 y254.tl, .int .u64 y254.tw])] ([(y254.each : Int) = (y254.each : Int)]) (al1 rfl) (cD (.int .i64 (cmpF ((overV (overV y254.t wt).1 y254.tw).1) y254.t)) Try.call13 (fun w hw => fcmp_t ((overV (overV y254.t wt).1 y254.tw).1) y254.t w (over_U (over_U hf.U.t)) hf.U.t) (qo 3 [(11, .yes)] [] [(6, .bool true)] ([((cmpF ((overV (overV y254.t wt).1 y254.tw).1) y254.t) : Int) ≥ (0 : Int)]) (al1 (by omega)) (on_ (ds_ (rt ([]) (.bool true) ?_)))))))))))))
     exact fun w' hw => ⟨rfl, hw.below⟩
end Go.Proofs.Ytnhkecfapohlgaa

/-! The walker: what a row's inputs are: slices and structs, opened into lists. -/
namespace Go.Proofs.Ytnhkecfapohlgaa
open Go Go.RowKit

section
variable {H : Type} {enc : TypeId × Value → H} {P : Program} {w : World} {base : Nat} {spare : Nat → Bool} {held : Bool}
theorem spot_none {a : Addr} (h : a.spot = none) : a = ⟨a.block, a.off, none⟩ := by
  cases a
  simp at h
  simp [h]
theorem trod_sv {α : Type} [Enc α] {t e : TypeId} {fuel : Nat} {cs : List Value} {x : DataW H × List MemPlace} {Good : α → Prop} (ht : P.underlying t = some (.slice e)) (hc : P.cellsOf e = Enc.k α)
    (hopen : ∀ (fuel : Nat) (cs : List Value) (x : DataW H × List MemPlace), DataW.trod enc P w base spare held fuel e cs = some x → ∃ a : α, cs = Enc.enc a ∧ Good a) (h : DataW.trod enc P w base spare held fuel t cs = some x) :
    ∃ (p : Option Addr) (n cap : Nat) (l : List α), cs = [.slice p n cap] ∧ Sv w p l ∧ n = l.length ∧ n ≤ cap ∧ cap ≤ maxLen ∧ ∀ y ∈ l, Good y := by
  rcases Deep.open_slice ht h with ⟨hcs, _⟩ | ⟨a, len, cap, m, n', D, Pl, hcs, _, hle, hmx, hm, _, hi⟩
  · exact ⟨none, 0, 0, [], hcs, Sv.nil, rfl, Nat.le_refl _, Nat.zero_le _, fun y hy => by cases hy⟩
  · have key : ∀ i, i < len → ∃ y : α, w.cells? base (a.add (i * Enc.k α)) (Enc.k α) = some (Enc.enc y) ∧ Good y := fun i hin => by
      have him : i < m := by rw [hm]; split <;> omega
      obtain ⟨cs', h1, h2⟩ := hi i him
      obtain ⟨y, rfl, hy⟩ := hopen _ _ _ h2
      rw [hc] at h1
      exact ⟨y, h1, hy⟩
    rcases Nat.eq_zero_or_pos len with h0 | h0
    · subst h0
      exact ⟨some a, 0, cap, [], hcs, Sv.nil, rfl, hle, hmx, fun y hy => by cases hy⟩
    · obtain ⟨y0, hy0, _⟩ := key 0 h0
      haveI : Inhabited α := ⟨y0⟩
      obtain ⟨f, hf⟩ := Deep.choose_lt key
      obtain ⟨_, _, hcell⟩ := World.cells?_some hy0
      have h00 := hcell 0 Enc.pos
      have hlen0 : 0 < (Enc.enc y0).length := by rw [Enc.len]; exact Enc.pos
      rw [List.getElem?_eq_getElem hlen0, Nat.zero_mul, show (a.add 0).add 0 = a by simp [Addr.add]] at h00
      have hsp := spot_none (World.cell?_spot h00)
      refine ⟨some a, len, cap, (List.range len).map f, hcs, ⟨fun _ => ⟨a.block, a.off, by rw [← hsp]⟩, fun b o hbo i hil => ?_⟩, by simp, hle, hmx, fun y hy => ?_⟩
      · have hil' : i < len := by simpa using hil
        obtain ⟨_, _, hc2⟩ := World.cells?_some (hf i hil').1
        have ha : a = ⟨b, o, none⟩ := by simpa using hbo
        subst ha
        intro j v hj
        have hjk : j < Enc.k α := by rw [← Enc.len (f i)]; have := (List.getElem?_eq_some_iff.1 hj).1; simpa using this
        have h3 := hc2 j hjk
        rw [Deep.add_add] at h3
        have h4 : (Enc.enc (f i))[j]? = some v := by simpa using hj
        rw [h4] at h3
        have h5 : (⟨b, o, none⟩ : Addr).add (i * Enc.k α + j) = ⟨b, o + i * Enc.k α + j, none⟩ := by
          unfold Addr.add; split <;> simp_all <;> omega
        rw [h5] at h3
        exact h3
      · obtain ⟨i, hir, rfl⟩ := List.mem_map.1 hy
        exact (hf i (List.mem_range.1 hir)).2
theorem list2' {α : Type} {cs : List α} (h : cs.length = 2) : ∃ c0 c1, cs = [c0, c1] := by
  match cs, h with
  | [a, b], _ => exact ⟨a, b, rfl⟩
end
end Go.Proofs.Ytnhkecfapohlgaa

/-! Chapter 10: what the rows' inputs are. -/
namespace Go.Proofs.Ytnhkecfapohlgaa
open Go Go.RowKit Go.ChangeShapes Go.WideShapes

section
variable {H : Type} {enc : TypeId × Value → H} {w : World} {base : Nat} {spare : Nat → Bool} {held : Bool}
theorem cInt0 : Try.prog.cellsOf 3 = 1 := by kernel_rfl
theorem cU64 : Try.prog.cellsOf 25 = 1 := by kernel_rfl
theorem cWid : Try.prog.cellsOf 31 = 2 := by kernel_rfl
theorem cFra : Try.prog.cellsOf 33 = 3 := by kernel_rfl
theorem cRun : Try.prog.cellsOf 35 = 5 := by kernel_rfl
theorem cRuns : Try.prog.cellsOf 22 = 1 := by kernel_rfl
theorem cQue : Try.prog.cellsOf 24 = 1 := by kernel_rfl
theorem list3u {α : Type} {cs : List α} (h : cs.length = 3) : ∃ a b c, cs = [a, b, c] := by
  match cs, h with
  | [a, b, c], _ => exact ⟨a, b, c, rfl⟩
theorem list5u {α : Type} {cs : List α} (h : cs.length = 5) : ∃ a b c d e, cs = [a, b, c, d, e] := by
  match cs, h with
  | [a, b, c, d, e], _ => exact ⟨a, b, c, d, e, rfl⟩
theorem u64_wf {n : Int} (h : (Lit.int .u64 n).wf = true) : 0 ≤ n ∧ n < 18446744073709551616 := by
  simp only [Lit.wf, Bool.and_eq_true, decide_eq_true_eq] at h
  have h1 : (0 : Int) ≤ n := h.1
  have h2 : n ≤ 18446744073709551615 := h.2
  omega
theorem i64_wf {n : Int} (h : (Lit.int .i64 n).wf = true) : -9223372036854775808 ≤ n ∧ n ≤ 9223372036854775807 := by
  simp only [Lit.wf, Bool.and_eq_true, decide_eq_true_eq] at h
  exact ⟨h.1, h.2⟩
set_option maxRecDepth 100000 in
theorem wide_open {fuel : Nat} {cs : List Value} {x : DataW H × List MemPlace} (h : DataW.trod enc Try.prog w base spare held fuel 31 cs = some x) : ∃ a b : Int, cs = [.int .u64 a, .int .u64 b] ∧ (0 ≤ a ∧ a < 18446744073709551616) ∧ (0 ≤ b ∧ b < 18446744073709551616) := by
  obtain ⟨xs, n, _, rfl, hl, hlen, hf⟩ := DataW.trod_struct Try.underlying31 h
  rw [cWid] at hl
  obtain ⟨c0, c1, rfl⟩ := list2' hl
  obtain ⟨y0, y1, rfl⟩ := list2' hlen
  have h0 : DataW.trod enc Try.prog w base spare held n 25 (([c0, c1].drop 0).take (Try.prog.cellsOf 25)) = some y0 := hf 0 _ rfl
  have h1 : DataW.trod enc Try.prog w base spare held n 25 (([c0, c1].drop 1).take (Try.prog.cellsOf 25)) = some y1 := hf 1 _ rfl
  clear hf hl hlen h
  rw [cU64] at h0 h1
  simp only [List.drop_zero, List.take_succ_cons, List.take_zero, List.drop_succ_cons] at h0 h1
  obtain ⟨a, e0, _, f0⟩ := DataW.trod_int Try.underlying25 h0
  obtain ⟨b, e1, _, f1⟩ := DataW.trod_int Try.underlying25 h1
  simp only [List.cons.injEq, and_true] at e0 e1
  subst e0; subst e1
  exact ⟨a, b, rfl, u64_wf f0, u64_wf f1⟩
set_option maxRecDepth 100000 in
theorem fq_open {fuel : Nat} {cs : List Value} {x : DataW H × List MemPlace} (h : DataW.trod enc Try.prog w base spare held fuel 33 cs = some x) : ∃ a : Fq, cs = Enc.enc a ∧ a.U := by
  obtain ⟨xs, n, _, rfl, hl, hlen, hf⟩ := DataW.trod_struct Try.underlying33 h
  rw [cFra] at hl
  obtain ⟨c0, c1, c2, rfl⟩ := list3u hl
  obtain ⟨y0, y1, rfl⟩ := list2' hlen
  have h0 : DataW.trod enc Try.prog w base spare held n 31 (([c0, c1, c2].drop 0).take (Try.prog.cellsOf 31)) = some y0 := hf 0 _ rfl
  have h1 : DataW.trod enc Try.prog w base spare held n 25 (([c0, c1, c2].drop 2).take (Try.prog.cellsOf 25)) = some y1 := hf 1 _ rfl
  clear hf hl hlen h
  rw [cWid] at h0
  rw [cU64] at h1
  simp only [List.drop_zero, List.take_succ_cons, List.take_zero, List.drop_succ_cons] at h0 h1
  obtain ⟨a, b, e0, fa, fb⟩ := wide_open h0
  obtain ⟨c, e1, _, f1⟩ := DataW.trod_int Try.underlying25 h1
  simp only [List.cons.injEq, and_true] at e0 e1
  obtain ⟨rfl, rfl⟩ := e0
  subst e1
  have fc := u64_wf f1
  exact ⟨⟨a, b, c⟩, rfl, ⟨fa.1, fa.2, fb.1, fb.2, fc.1, fc.2⟩⟩
set_option maxRecDepth 100000 in
theorem rn_open {fuel : Nat} {cs : List Value} {x : DataW H × List MemPlace} (h : DataW.trod enc Try.prog w base spare held fuel 35 cs = some x) : ∃ a : Rn, cs = Enc.enc a ∧ a.U := by
  obtain ⟨xs, n, _, rfl, hl, hlen, hf⟩ := DataW.trod_struct Try.underlying35 h
  rw [cRun] at hl
  obtain ⟨c0, c1, c2, c3, c4, rfl⟩ := list5u hl
  obtain ⟨y0, y1, y2, rfl⟩ := list3u hlen
  have h0 : DataW.trod enc Try.prog w base spare held n 3 (([c0, c1, c2, c3, c4].drop 0).take (Try.prog.cellsOf 3)) = some y0 := hf 0 _ rfl
  have h1 : DataW.trod enc Try.prog w base spare held n 3 (([c0, c1, c2, c3, c4].drop 1).take (Try.prog.cellsOf 3)) = some y1 := hf 1 _ rfl
  have h2 : DataW.trod enc Try.prog w base spare held n 33 (([c0, c1, c2, c3, c4].drop 2).take (Try.prog.cellsOf 33)) = some y2 := hf 2 _ rfl
  clear hf hl hlen h
  rw [cInt0] at h0 h1
  rw [cFra] at h2
  simp only [List.drop_zero, List.take_succ_cons, List.take_zero, List.drop_succ_cons] at h0 h1 h2
  obtain ⟨a, e0, _, f0⟩ := DataW.trod_int Try.underlying3 h0
  obtain ⟨b, e1, _, f1⟩ := DataW.trod_int Try.underlying3 h1
  obtain ⟨t, e2, ht⟩ := fq_open h2
  simp only [List.cons.injEq, and_true] at e0 e1
  subst e0; subst e1
  have e2' : [c2, c3, c4] = [.int .u64 t.hi, .int .u64 t.lo, .int .u64 t.w] := e2
  simp only [List.cons.injEq, and_true] at e2'
  obtain ⟨rfl, rfl, rfl⟩ := e2'
  have g0 := i64_wf f0
  have g1 := i64_wf f1
  exact ⟨⟨a, b, t.hi, t.lo, t.w⟩, rfl, ⟨g0.1, g0.2, g1.1, g1.2, ht⟩⟩
set_option maxRecDepth 100000 in
theorem queue_open {v : Value} {d : DataW H} {pl : List MemPlace} (hv : Value.okWide Try.prog w .any base 24 v) (h : DataW.Trod enc Try.prog w 0 spare held 24 v d pl) :
    ∃ (p : Option Addr) (n cap : Nat) (ts : List Rn), v = .agg #[.slice p n cap] ∧ Sv w p ts ∧ n = ts.length ∧ n ≤ cap ∧ cap ≤ 9223372036854775807 ∧ ∀ r ∈ ts, r.U := by
  obtain ⟨cs, rfl, hsz⟩ := okWide_struct Try.underlying24 hv
  obtain ⟨fuel, hf⟩ := h
  obtain ⟨xs, n, _, _, hl, hlen, hf⟩ := DataW.trod_struct Try.underlying24 hf
  obtain ⟨y0, rfl⟩ := List.length_eq_one_iff.1 hlen
  have h0 : DataW.trod enc Try.prog w 0 spare held n 22 ((((Value.agg cs).cells.toList).drop 0).take (Try.prog.cellsOf 22)) = some y0 := hf 0 _ rfl
  rw [cQue] at hl
  obtain ⟨c0, hc0⟩ := List.length_eq_one_iff.1 hl
  rw [hc0, cRuns] at h0
  simp only [List.drop_zero, List.take_succ_cons, List.take_zero] at h0
  obtain ⟨q, m, capv, l2, he2, hs2, hm, hle2, hmx2, hw⟩ := trod_sv (α := Rn) (Good := fun r => r.U) Try.underlying22 cRun (fun _ _ _ h => rn_open h) h0
  simp only [List.cons.injEq, and_true] at he2
  subst he2
  refine ⟨q, m, capv, l2, ?_, hs2, hm, hle2, hmx2, hw⟩
  congr 1
  exact Array.toList_inj.1 (by simpa [Value.cells] using hc0)
set_option maxRecDepth 100000 in
theorem intR_open {v : Value} {d : DataW H} {pl : List MemPlace} (hv : Value.okWide Try.prog w .any base 3 v) (h : DataW.Trod enc Try.prog w 0 spare held 3 v d pl) : ∃ k : Int, v = .int .i64 k ∧ -9223372036854775808 ≤ k ∧ k ≤ 9223372036854775807 := by
  obtain ⟨k, rfl⟩ := okWide_int Try.underlying3 hv
  obtain ⟨fuel, hf⟩ := h
  obtain ⟨z, e, _, f⟩ := DataW.trod_int Try.underlying3 hf
  have ez : k = z := by simpa [Value.cells] using e
  subst ez
  exact ⟨k, rfl, i64_wf f⟩
set_option maxRecDepth 100000 in
theorem weight_open {v : Value} {d : DataW H} {pl : List MemPlace} (hv : Value.okWide Try.prog w .any base 27 v) (h : DataW.Trod enc Try.prog w 0 spare held 27 v d pl) : ∃ a b : Int, v = .agg #[.int .u64 a, .int .i64 b] := by
  obtain ⟨cs, rfl, hsz⟩ := okWide_struct Try.underlying27 hv
  obtain ⟨fuel, hf⟩ := h
  obtain ⟨xs, n, _, _, hl, hlen, hf⟩ := DataW.trod_struct Try.underlying27 hf
  obtain ⟨y0, y1, rfl⟩ := list2' hlen
  have h0 : DataW.trod enc Try.prog w 0 spare held n 25 ((((Value.agg cs).cells.toList).drop 0).take (Try.prog.cellsOf 25)) = some y0 := hf 0 _ rfl
  have h1 : DataW.trod enc Try.prog w 0 spare held n 3 ((((Value.agg cs).cells.toList).drop 1).take (Try.prog.cellsOf 3)) = some y1 := hf 1 _ rfl
  rw [show Try.prog.cellsOf 27 = 2 from by kernel_rfl] at hl
  obtain ⟨c0, c1, hc0⟩ := list2' hl
  rw [hc0, cU64] at h0
  rw [hc0, cInt0] at h1
  simp only [List.drop_zero, List.take_succ_cons, List.take_zero, List.drop_succ_cons] at h0 h1
  obtain ⟨a, e0, _, _⟩ := DataW.trod_int Try.underlying25 h0
  obtain ⟨b, e1, _, _⟩ := DataW.trod_int Try.underlying3 h1
  simp only [List.cons.injEq, and_true] at e0 e1
  subst e0; subst e1
  refine ⟨a, b, ?_⟩
  congr 1
  exact Array.toList_inj.1 (by simpa [Value.cells] using hc0)
end
end Go.Proofs.Ytnhkecfapohlgaa
