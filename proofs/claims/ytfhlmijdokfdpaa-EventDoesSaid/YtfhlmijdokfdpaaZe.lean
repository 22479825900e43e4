/- Texts of this proof, one behind the other. -/
import Derived.Test.YtfhlmijdokfdpaaZd
import Derived.Test.YtfhlmijdokfdpaaZb
import Derived.Test.YtfhlmijdokfdpaaZc
/-! event.Close, Drop. -/
namespace Go.Proofs.Ytfhlmijdokfdpaa
open Go Go.RowKit

set_option maxRecDepth 100000 in
theorem isnum_d (x : Port) (g : Nat) (k : Int) (w : World)
 (hk : Rd w g (0 + 0 * 1) [.int .i64 k])
 : Calls Try.prog 64 #[.agg #[.int .i64 x.num, .int .i64 x.vcpu, .int .i64 x.peer, .bool x.pending, .bool x.masked], .pointer (some ⟨g, 0 + 0 * 1, none⟩)] w fun e w' => e = .returned (.bool (isNum k x)) ∧ Below w.heap.size w w' := by
 refine enter (Hs.start w) Try.func64 rfl Try.ntmps64 rfl (sq_ (ma0 [] [1] (fun γ1 => [(2, .pointer (some ⟨γ1 0, 0, none⟩))]) (fun γ1 L => bx (γ1 0) (#[.int .i64 x.num, .int .i64 x.vcpu, .int .i64 x.peer, .bool x.pending, .bool x.masked]) 40 :: L) (fun γ1 => ds_ (sq_ ?_))))
 by_cases q3 : (x.num : Int) = (k : Int)
 ·
  refine qa [(1, .go (owns 0 0 1)), (2, .go (outs g (0 + 0 * 1) [.int .i64 k])), (3, .yes)] [] [(3, .bool true)] (cellsP w g (0 + 0 * 1) [.int .i64 k] ++ ([(x.num : Int) = (k : Int)])) (alA (rd_pre hk _ rfl) (al1 q3)) (ds_ (rt ([]) (.bool true) ?_))
  exact fun w' hw => ⟨by rw [show isNum k x = true from decide_eq_true q3], hw.below⟩
 ·
  refine qa [(1, .go (owns 0 0 1)), (2, .go (outs g (0 + 0 * 1) [.int .i64 k])), (3, .no)] [] [(3, .bool false)] (cellsP w g (0 + 0 * 1) [.int .i64 k] ++ ([¬ ((x.num : Int) = (k : Int))])) (alA (rd_pre hk _ rfl) (al1 q3)) (ds_ (rt ([]) (.bool false) ?_))
  exact fun w' hw => ⟨by rw [show isNum k x = false from decide_eq_false q3], hw.below⟩

set_option maxRecDepth 100000 in
theorem isown_d (x : Port) (g : Nat) (own : Int) (w : World)
 (hk : Rd w g (0 + 0 * 1) [.int .i64 own])
 : Calls Try.prog 66 #[.agg #[.int .i64 x.num, .int .i64 x.vcpu, .int .i64 x.peer, .bool x.pending, .bool x.masked], .pointer (some ⟨g, 0 + 0 * 1, none⟩)] w fun e w' => e = .returned (.bool (isOwn own x)) ∧ Below w.heap.size w w' := by
 refine enter (Hs.start w) Try.func66 rfl Try.ntmps66 rfl (sq_ (ma0 [] [1] (fun γ1 => [(2, .pointer (some ⟨γ1 0, 0, none⟩))]) (fun γ1 L => bx (γ1 0) (#[.int .i64 x.num, .int .i64 x.vcpu, .int .i64 x.peer, .bool x.pending, .bool x.masked]) 40 :: L) (fun γ1 => ds_ (sq_ ?_))))
 by_cases q3 : (x.vcpu : Int) = (own : Int)
 ·
  refine qa [(1, .go (owns 0 1 1)), (2, .go (outs g (0 + 0 * 1) [.int .i64 own])), (3, .yes)] [] [(3, .bool true)] (cellsP w g (0 + 0 * 1) [.int .i64 own] ++ ([(x.vcpu : Int) = (own : Int)])) (alA (rd_pre hk _ rfl) (al1 q3)) (ds_ (rt ([]) (.bool true) ?_))
  exact fun w' hw => ⟨by rw [show isOwn own x = true from decide_eq_true q3], hw.below⟩
 ·
  refine qa [(1, .go (owns 0 1 1)), (2, .go (outs g (0 + 0 * 1) [.int .i64 own])), (3, .no)] [] [(3, .bool false)] (cellsP w g (0 + 0 * 1) [.int .i64 own] ++ ([¬ ((x.vcpu : Int) = (own : Int))])) (alA (rd_pre hk _ rfl) (al1 q3)) (ds_ (rt ([]) (.bool false) ?_))
  exact fun w' hw => ⟨by rw [show isOwn own x = false from decide_eq_false q3], hw.below⟩

set_option maxRecDepth 100000 in
theorem close_d (p : Option Addr) (n cap : Nat) (l : List Port) (k : Int) (w : World)
 (hsl : Sv w p l) (hn : n = l.length) (hb : n ≤ 1000)
 : Calls Try.prog 42 #[.agg #[.slice p n cap], .int .i64 k] w fun e w' => ∃ q m capq Y, e = .returned (.tuple #[.agg #[.slice q m capq], .int .i64 (closeV l k).2]) ∧ SlO 40 Y q m capq (closeV l k).1 ∧ Below w.heap.size w w' ∧ Hs w Y w' := by
 refine enter (Hs.start w) Try.func42 rfl Try.ntmps42 rfl (sq_ (ma0 [] [] (fun γ1 => [(2, .pointer (some ⟨γ1 0, 0, none⟩)), (3, .pointer (some ⟨γ1 1, 0, none⟩)), (4, .pointer (some ⟨γ1 2, 0, none⟩))]) (fun γ1 L => bx (γ1 2) (#[.slice none 0 0]) 24 :: bx (γ1 1) (#[.int .i64 k]) 3 :: bx (γ1 0) (#[.slice p n cap]) 24 :: L) (fun γ1 => ds_ (sq_ (ao_ (qo0 2 [(0, .go (owns 2 0 1))] [4] [(6, .agg #[.slice p n cap]), (7, .func (.func 62) #[] #[.pointer (some ⟨γ1 1, 0, none⟩)])] (ops_inline (g := 54) (args := #[.agg #[.slice p n cap], .func (.func 62) #[] #[.pointer (some ⟨γ1 1, 0, none⟩)]]) (by kernel_rfl) (by kernel_rfl) (by kernel_rfl) (fun args w => Try.call54 args w) Try.func54 rfl Try.ntmps54 rfl (sq_ (ma0 [] [1] (fun γ3 => [(2, .pointer (some ⟨γ3 0, 0, none⟩)), (4, .pointer (some ⟨γ3 1, 0, none⟩))]) (fun γ3 L => bx (γ3 1) (#[.slice none 0 0]) 24 :: bx (γ3 0) (#[.slice p n cap]) 24 :: L) (fun γ3 => ds_ (sq_ (sq_ (ao_ (qo0 1 [(0, .go (owns 1 0 1))] [1, 2, 4] [(9, .agg #[.slice p n cap])] ?_))))))))))))))
 rcases q5 : rightB l with _ | _
 ·
  refine cD (.int .i64 260) Try.call16 (fun w hw => by have := check_d p n cap l w (hsl.kept hw.below) hn hb; rw [q5] at this; exact this) (qo0 1 [] [1, 2, 4] [(6, .int .i64 260)] (on_ (ds_ (sq_ (qa0 [] [1, 2, 4, 6] [(12, .bool true)] (ds_ (t_ (sq_ (qa0 [(2, .go (owns 0 0 1))] [4] [(5, .int .i64 260)] (ds_ (bk (owns 0 0 1) (.tuple #[.agg #[.slice none 0 0], .int .i64 260]) (qo0 4 [(5, .go (owns 2 0 1))] [4] [(5, .int .i64 260)] (on_ (ds_ (rt (owns 2 0 1) (.tuple #[.agg #[.slice none 0 0], .int .i64 260]) ?_)))))))))))))))
  exact fun w' hw => by rw [closeV_bad q5]; exact ⟨none, 0, 0, [], rfl, SlO.nil, hw.below, hw.sub (List.nil_sublist _)⟩
 ·
  refine cD (.int .i64 0) Try.call16 (fun w hw => by have := check_d p n cap l w (hsl.kept hw.below) hn hb; rw [q5] at this; exact this) (qo0 1 [] [1, 2, 4] [(6, .int .i64 0)] (on_ (ds_ (sq_ (qa0 [] [1, 2, 4, 6] [(12, .bool false)] (ds_ (f_ (at_skip (ds_ (sq_ (ao_ (qo0 2 [(1, .go (owns 1 0 1))] [1, 4] [(16, .slice p n cap)] (cP (fun v L' => ∃ q capq Y, v = .slice q n capq ∧ L' = List.take 5 ([bx (γ3 1) (#[.slice none 0 0]) 24, bx (γ3 0) (#[.slice p n cap]) 24, bx (γ1 2) (#[.slice none 0 0]) 24, bx (γ1 1) (#[.int .i64 k]) 3, bx (γ1 0) (#[.slice p n cap]) 24]) ++ (Y ++ List.drop 5 ([bx (γ3 1) (#[.slice none 0 0]) 24, bx (γ3 0) (#[.slice p n cap]) 24, bx (γ1 2) (#[.slice none 0 0]) 24, bx (γ1 1) (#[.int .i64 k]) 3, bx (γ1 0) (#[.slice p n cap]) 24])) ∧ SlO 40 Y q n capq l) Try.call72 (fun w hw => (clone_d p n cap l w (hsl.kept hw.below) hn (by omega)).mono fun e w' ⟨q, capq, Y, he, hO, hb, hY⟩ => ⟨_, _, he, ⟨q, capq, Y, rfl, rfl, hO⟩, hw.join hb hY 5⟩) ?_)))))))))))))
  rintro v13 L13 ⟨q13, cq13, Y13, rfl, rfl, hO13⟩
  refine mo0 3 [(5, .go (owns 0 0 1))] [1, 4] (fun γ14 => [(7, .pointer (some ⟨γ14 0, 0, none⟩))]) (fun γ14 L => bx (γ14 0) (#[.slice q13 n cq13]) 24 :: L) (fun γ14 => on_ (ds_ (sq_ (sq_ (ao_ (qo0 1 [] [4, 7] [(19, .func (.func 62) #[] #[.pointer (some ⟨γ1 1, 0, none⟩)])] (ops_inline (g := 62) (args := #[.pointer (some ⟨γ14 0, 0, none⟩), .pointer (some ⟨γ1 1, 0, none⟩)]) (by kernel_rfl) (by kernel_rfl) (by kernel_rfl) (fun args w => Try.call62 args w) Try.func62 rfl Try.ntmps62 rfl (sq_ (qa0 [] [0, 1] [] (ds_ (sq_ (sq_ (ao_ (qo0 2 [] [] [(4, .pointer (some ⟨γ14 0, 0, none⟩)), (5, .func (.func 64) #[] #[.pointer (some ⟨γ1 1, 0, none⟩)])] (ops_inline (g := 63) (args := #[.pointer (some ⟨γ14 0, 0, none⟩), .func (.func 64) #[] #[.pointer (some ⟨γ1 1, 0, none⟩)]]) (by kernel_rfl) (by kernel_rfl) (by kernel_rfl) (fun args w => Try.call63 args w) Try.func63 rfl Try.ntmps63 rfl (sq_ (qa0 [] [0, 1] [] (ds_ (sq_ (ao_ (qo0 4 [(2, .go (owns 0 0 1))] [0, 1] [(9, .agg #[.slice q13 n cq13]), (10, .func (.func 64) #[] #[.pointer (some ⟨γ1 1, 0, none⟩)])] (ops_inline (g := 37) (args := #[.agg #[.slice q13 n cq13], .func (.func 64) #[] #[.pointer (some ⟨γ1 1, 0, none⟩)]]) (by kernel_rfl) (by kernel_rfl) (by kernel_rfl) (fun args w => Try.call37 args w) Try.func37 rfl Try.ntmps37 rfl (sq_ (ma0 [] [] (fun γ20 => [(2, .pointer (some ⟨γ20 0, 0, none⟩)), (3, .pointer (some ⟨γ20 1, 0, none⟩))]) (fun γ20 L => bx (γ20 1) (#[.func (.func 64) #[] #[.pointer (some ⟨γ1 1, 0, none⟩)]]) 73 :: bx (γ20 0) (#[.slice q13 n cq13]) 24 :: L) (fun γ20 => ds_ (sq_ (qa0 [] [] [(4, .func (.func 60) #[] #[.pointer (some ⟨γ20 0, 0, none⟩), .pointer (some ⟨γ20 1, 0, none⟩)])] (ds_ (bk ([]) (.func (.func 60) #[] #[.pointer (some ⟨γ20 0, 0, none⟩), .pointer (some ⟨γ20 1, 0, none⟩)]) (ops_inlineM (g := 36) (args := #[.func (.func 60) #[] #[.pointer (some ⟨γ20 0, 0, none⟩), .pointer (some ⟨γ20 1, 0, none⟩)]]) (by kernel_rfl) (by kernel_rfl) (by kernel_rfl) (fun args w => Try.call36 args w) Try.func36 rfl Try.ntmps36 rfl (sq_ (qa0 [] [0] [] (ds_ (sq_ (ma0 [] [0] (fun γ24 => [(3, .pointer (some ⟨γ24 0, 0, none⟩))]) (fun γ24 L => bx (γ24 0) (#[.slice none 0 0]) 28 :: L) (fun γ24 => ds_ (sq_ (sq_ (qa0 [] [3] [(5, .func (.func 60) #[] #[.pointer (some ⟨γ20 0, 0, none⟩), .pointer (some ⟨γ20 1, 0, none⟩)])] (ds_ (at_block (at_range (gf := 60) (lb := #[.pointer (some ⟨γ20 0, 0, none⟩), .pointer (some ⟨γ20 1, 0, none⟩)]) (by kernel_rfl) (fun args w => Try.call60 args w) Try.func60 rfl Try.ntmps60 (by kernel_rfl) (fun γ26 r26 hr26 => ?_)))))))))))))))))))))))))))))))))))))))))))
  refine sq_ (qa0 [(1, .go (owns 4 0 1))] [0, 2] [(7, .slice q13 n cq13), (8, .int .i64 ((n : Nat))), (9, .int .i64 0)] (ds_ (at_block (at_loop (α := Nat × List Ob × Option Addr × Nat × Nat) [0, 2, 7, 8, 9] (fun ⟨j, Yo, po, m, co⟩ => [(0, .func (.yield (γ26 1)) #[] #[]), (2, .pointer (some ⟨γ20 1, 0, none⟩)), (7, .slice q13 n cq13), (8, .int .i64 ((n : Nat))), (9, .int .i64 ((j : Nat)))]) (fun ⟨j, Yo, po, m, co⟩ => (γ26 1, .loop r26) :: (γ26 0, .deferred (some [])) :: bx (γ24 0) (#[.slice po m co]) 28 :: bx (γ20 1) (#[.func (.func 64) #[] #[.pointer (some ⟨γ1 1, 0, none⟩)]]) 73 :: bx (γ20 0) (#[.slice q13 n cq13]) 24 :: bx (γ14 0) (#[.slice q13 n cq13]) 24 :: bx (γ3 1) (#[.slice none 0 0]) 24 :: bx (γ3 0) (#[.slice p n cap]) 24 :: bx (γ1 2) (#[.slice none 0 0]) 24 :: bx (γ1 1) (#[.int .i64 k]) 3 :: bx (γ1 0) (#[.slice p n cap]) 24 :: (Yo ++ (Y13 ++ []))) (fun ⟨j, Yo, po, m, co⟩ => j ≤ n ∧ m ≤ j ∧ SlO 3 Yo po m co (suchL (isNum k) (l.take j))) (fun ⟨j, Yo, po, m, co⟩ => n - j) (0, [], none, 0, 0) (by kernel_rfl) rfl ⟨Nat.zero_le _, Nat.le_refl _, by rw [List.take_zero]; exact SlO.nil⟩ ?_))))
  rintro ⟨j, Yo, po, m, co⟩
  rintro ⟨hj, hm, hO⟩
  refine sq_ ?_
  by_cases q29 : ((j : Nat) : Int) < ((n : Nat) : Int)
  ·
   refine qa [(0, .yes)] [0, 2, 7, 8, 9] [(10, .bool true)] ([((j : Nat) : Int) < ((n : Nat) : Int)]) (al1 q29) (ds_ (sq_ (t_ (at_skip (ds_ (sq_ (at_block (sq_ (At.pick [[(γ26 1, .loop r26)], [(γ26 0, .deferred (some []))], [bx (γ24 0) (#[.slice po m co]) 28], [bx (γ20 1) (#[.func (.func 64) #[] #[.pointer (some ⟨γ1 1, 0, none⟩)]]) 73], [bx (γ20 0) (#[.slice q13 n cq13]) 24], [bx (γ14 0) (#[.slice q13 n cq13]) 24], [bx (γ3 1) (#[.slice none 0 0]) 24], [bx (γ3 0) (#[.slice p n cap]) 24], [bx (γ1 2) (#[.slice none 0 0]) 24], [bx (γ1 1) (#[.int .i64 k]) 3], [bx (γ1 0) (#[.slice p n cap]) 24], Yo, Y13] [0, 1, 2, 3, 4, 5, 6, 7, 8, 9, 10, 12, 11] [] ((γ26 1, .loop r26) :: (γ26 0, .deferred (some [])) :: bx (γ24 0) (#[.slice po m co]) 28 :: bx (γ20 1) (#[.func (.func 64) #[] #[.pointer (some ⟨γ1 1, 0, none⟩)]]) 73 :: bx (γ20 0) (#[.slice q13 n cq13]) 24 :: bx (γ14 0) (#[.slice q13 n cq13]) 24 :: bx (γ3 1) (#[.slice none 0 0]) 24 :: bx (γ3 0) (#[.slice p n cap]) 24 :: bx (γ1 2) (#[.slice none 0 0]) 24 :: bx (γ1 1) (#[.int .i64 k]) 3 :: bx (γ1 0) (#[.slice p n cap]) 24 :: (Y13 ++ (Yo ++ []))) (by kernel_rfl) rfl rfl ?_)))))))))
   have hln32 := hO13.len
   obtain ⟨g32, cs32, rfl, rfl, hOw32⟩ := hO13.rowOf (i := j) (by omega)
   obtain ⟨x34, hx34⟩ := get_some (l := l) (m := j) (by omega)
   refine ma [(0, .at g32 0 j), (1, .go (ownps 11 (0 + j * 5) [.int .i64 x34.num, .int .i64 x34.vcpu, .int .i64 x34.peer, .bool x34.pending, .bool x34.masked])), (3, .go (owns 0 0 5))] [0, 2, 7, 8, 9] (fun γ35 => [(5, .pointer (some ⟨γ35 0, 0, none⟩))]) (fun γ35 L => bx (γ35 0) (#[.int .i64 x34.num, .int .i64 x34.vcpu, .int .i64 x34.peer, .bool x34.pending, .bool x34.masked]) 40 :: L) (fun γ35 => [(some ⟨g32, 0, none⟩ : Option Addr) = some ⟨g32, 0, none⟩, ((j : Nat)) = ((j : Nat) : Int), j < n] ++ (acellsP cs32 (0 + j * 5) [.int .i64 x34.num, .int .i64 x34.vcpu, .int .i64 x34.peer, .bool x34.pending, .bool x34.masked])) (fun γ35 => (alA (al2 rfl (al2 rfl (al1 (by omega)))) (rda_pre ((hOw32.rdx hO13.len hx34)) _ rfl))) (fun γ35 => ds_ (sq_ (ao_ (qo0 2 [(0, .go (owns 4 0 1)), (1, .go (owns 0 0 5))] [0, 2, 5, 7, 8, 9] [(13, .func (.func 64) #[] #[.pointer (some ⟨γ1 1, 0, none⟩)]), (14, .agg #[.int .i64 x34.num, .int .i64 x34.vcpu, .int .i64 x34.peer, .bool x34.pending, .bool x34.masked])] (ops_inline (g := 64) (args := #[.agg #[.int .i64 x34.num, .int .i64 x34.vcpu, .int .i64 x34.peer, .bool x34.pending, .bool x34.masked], .pointer (some ⟨γ1 1, 0, none⟩)]) (by kernel_rfl) (by kernel_rfl) (by kernel_rfl) (fun args w => Try.call64 args w) Try.func64 rfl Try.ntmps64 rfl (sq_ (ma0 [] [1] (fun γ37 => [(2, .pointer (some ⟨γ37 0, 0, none⟩))]) (fun γ37 L => bx (γ37 0) (#[.int .i64 x34.num, .int .i64 x34.vcpu, .int .i64 x34.peer, .bool x34.pending, .bool x34.masked]) 40 :: L) (fun γ37 => ds_ (sq_ ?_)))))))))
   by_cases q39 : (x34.num : Int) = (k : Int)
   ·
    refine qa [(1, .go (owns 0 0 1)), (2, .go (owns 11 0 1)), (3, .yes)] [] [(3, .bool true)] ([(x34.num : Int) = (k : Int)]) (al1 q39) (ds_ (bk ([]) (.bool true) (qo0 4 [(6, .go (owns 1 0 1))] [0, 2, 7, 8, 9] [(16, .bool true), (17, .func (.yield (γ26 1)) #[] #[]), (19, .int .i64 x34.num)] (ops_yield (args := #[.int .i64 x34.num]) (by kernel_rfl) (by kernel_rfl) (by kernel_rfl) 2 rfl hr26 rfl (by kernel_rfl) (qa0 [] [3] [(4, .int .i64 x34.num)] (done_asg 2 rfl (at_block (ao_ (mo0 3 [(0, .go (owns 4 0 1))] [3] (fun γ43 => [(7, .slice po m co), (9, .slice (some ⟨γ43 0, 0, none⟩) 1 1)]) (fun γ43 L => bx (γ43 0) (#[.int .i64 x34.num]) 3 :: L) (fun γ43 => ops_append (α := Int) [bx (γ43 0) (#[.int .i64 x34.num]) 3, bx (γ37 0) (#[.int .i64 x34.num, .int .i64 x34.vcpu, .int .i64 x34.peer, .bool x34.pending, .bool x34.masked]) 40, bx (γ35 0) (#[.int .i64 x34.num, .int .i64 x34.vcpu, .int .i64 x34.peer, .bool x34.pending, .bool x34.masked]) 40, (γ26 1, .loop { r26 with state := .busy }), (γ26 0, .deferred (some [])), bx (γ24 0) (#[.slice po m co]) 28, bx (γ20 1) (#[.func (.func 64) #[] #[.pointer (some ⟨γ1 1, 0, none⟩)]]) 73, bx (γ20 0) (#[.slice (some ⟨g32, 0, none⟩) n cq13]) 24, bx (γ14 0) (#[.slice (some ⟨g32, 0, none⟩) n cq13]) 24, bx (γ3 1) (#[.slice none 0 0]) 24, bx (γ3 0) (#[.slice p n cap]) 24, bx (γ1 2) (#[.slice none 0 0]) 24, bx (γ1 1) (#[.int .i64 k]) 3, bx (γ1 0) (#[.slice p n cap]) 24, bx g32 cs32 40] Yo ([]) (.refl _) rfl (by kernel_rfl) (by kernel_rfl) (p := po) (n := m) (cap := co) (m := 1) (yv := .slice (some ⟨γ43 0, 0, none⟩) 1 1) (by kernel_rfl) (by kernel_rfl) (T := 3) (by_ := 8) (by kernel_rfl) ((suchL (isNum k) (l.take j))) ([x34.num]) hO (fun w hw => src_svn Try.underlying28 (sv_row (hw.row 0 rfl) (by rfl)) (by rfl)) (by rfl) (by have hmx : maxLen = 9223372036854775807 := rfl; omega) (by have hmx : maxLen = 9223372036854775807 := rfl; omega) (fun Y44 p44 cap44 hO44 => mo0 1 [(4, .go (owns 5 0 1))] [] (fun _ => []) (fun _ L => (L.set 5 (bx (γ24 0) (#[.slice p44 (m + 1) cap44]) 28))) (fun _ => on_ (done_block (done_rnd 3 rfl (qo0 2 [] [0, 2, 7, 8, 9] [(22, .bool false)] (on_ (ds_ (f_ (at_skip (done_block (ds_ (qa [(0, .fit)] [0, 2, 7, 8] [(9, .int .i64 ((j + 1 : Nat)))] ([Fit .i64 ((j + 1 : Nat))]) (al1 (fit64 (by omega) (by omega))) (Done.pick [[bx (γ43 0) (#[.int .i64 x34.num]) 3], [bx (γ37 0) (#[.int .i64 x34.num, .int .i64 x34.vcpu, .int .i64 x34.peer, .bool x34.pending, .bool x34.masked]) 40], [bx (γ35 0) (#[.int .i64 x34.num, .int .i64 x34.vcpu, .int .i64 x34.peer, .bool x34.pending, .bool x34.masked]) 40], [(γ26 1, .loop r26)], [(γ26 0, .deferred (some []))], [bx (γ24 0) (#[.slice p44 (m + 1) cap44]) 28], [bx (γ20 1) (#[.func (.func 64) #[] #[.pointer (some ⟨γ1 1, 0, none⟩)]]) 73], [bx (γ20 0) (#[.slice (some ⟨g32, 0, none⟩) n cq13]) 24], [bx (γ14 0) (#[.slice (some ⟨g32, 0, none⟩) n cq13]) 24], [bx (γ3 1) (#[.slice none 0 0]) 24], [bx (γ3 0) (#[.slice p n cap]) 24], [bx (γ1 2) (#[.slice none 0 0]) 24], [bx (γ1 1) (#[.int .i64 k]) 3], [bx (γ1 0) (#[.slice p n cap]) 24], [bx g32 cs32 40], Y44] [3, 4, 5, 6, 7, 8, 9, 10, 11, 12, 13, 15, 14] [0, 1, 2] ((γ26 1, .loop r26) :: (γ26 0, .deferred (some [])) :: bx (γ24 0) (#[.slice p44 (m + 1) cap44]) 28 :: bx (γ20 1) (#[.func (.func 64) #[] #[.pointer (some ⟨γ1 1, 0, none⟩)]]) 73 :: bx (γ20 0) (#[.slice (some ⟨g32, 0, none⟩) n cq13]) 24 :: bx (γ14 0) (#[.slice (some ⟨g32, 0, none⟩) n cq13]) 24 :: bx (γ3 1) (#[.slice none 0 0]) 24 :: bx (γ3 0) (#[.slice p n cap]) 24 :: bx (γ1 2) (#[.slice none 0 0]) 24 :: bx (γ1 1) (#[.int .i64 k]) 3 :: bx (γ1 0) (#[.slice p n cap]) 24 :: (Y44 ++ ([bx g32 cs32 40]))) (by kernel_rfl) rfl rfl ?_)))))))))))))))))))))))
    exact dr [0, 2, 7, 8, 9] (j + 1, Y44, p44, m + 1, cap44) ⟨by omega, by omega, by rw [← such_yes hx34 (decide_eq_true q39)]; exact hO44⟩
   ·
    refine qa [(1, .go (owns 0 0 1)), (2, .go (owns 11 0 1)), (3, .no)] [] [(3, .bool false)] ([¬ ((x34.num : Int) = (k : Int))]) (al1 q39) (ds_ (bk ([]) (.bool false) (qo0 7 [] [0, 2, 7, 8, 9] [(22, .bool false)] (on_ (ds_ (f_ (at_skip (done_block (ds_ (qa [(0, .fit)] [0, 2, 7, 8] [(9, .int .i64 ((j + 1 : Nat)))] ([Fit .i64 ((j + 1 : Nat))]) (al1 (fit64 (by omega) (by omega))) (Done.pick [[bx (γ37 0) (#[.int .i64 x34.num, .int .i64 x34.vcpu, .int .i64 x34.peer, .bool x34.pending, .bool x34.masked]) 40], [bx (γ35 0) (#[.int .i64 x34.num, .int .i64 x34.vcpu, .int .i64 x34.peer, .bool x34.pending, .bool x34.masked]) 40], [(γ26 1, .loop r26)], [(γ26 0, .deferred (some []))], [bx (γ24 0) (#[.slice po m co]) 28], [bx (γ20 1) (#[.func (.func 64) #[] #[.pointer (some ⟨γ1 1, 0, none⟩)]]) 73], [bx (γ20 0) (#[.slice (some ⟨g32, 0, none⟩) n cq13]) 24], [bx (γ14 0) (#[.slice (some ⟨g32, 0, none⟩) n cq13]) 24], [bx (γ3 1) (#[.slice none 0 0]) 24], [bx (γ3 0) (#[.slice p n cap]) 24], [bx (γ1 2) (#[.slice none 0 0]) 24], [bx (γ1 1) (#[.int .i64 k]) 3], [bx (γ1 0) (#[.slice p n cap]) 24], [bx g32 cs32 40], Yo] [2, 3, 4, 5, 6, 7, 8, 9, 10, 11, 12, 14, 13] [0, 1] ((γ26 1, .loop r26) :: (γ26 0, .deferred (some [])) :: bx (γ24 0) (#[.slice po m co]) 28 :: bx (γ20 1) (#[.func (.func 64) #[] #[.pointer (some ⟨γ1 1, 0, none⟩)]]) 73 :: bx (γ20 0) (#[.slice (some ⟨g32, 0, none⟩) n cq13]) 24 :: bx (γ14 0) (#[.slice (some ⟨g32, 0, none⟩) n cq13]) 24 :: bx (γ3 1) (#[.slice none 0 0]) 24 :: bx (γ3 0) (#[.slice p n cap]) 24 :: bx (γ1 2) (#[.slice none 0 0]) 24 :: bx (γ1 1) (#[.int .i64 k]) 3 :: bx (γ1 0) (#[.slice p n cap]) 24 :: (Yo ++ ([bx g32 cs32 40]))) (by kernel_rfl) rfl rfl ?_)))))))))))
    exact dr [0, 2, 7, 8, 9] (j + 1, Yo, po, m, co) ⟨by omega, by omega, by rw [← such_no hx34 (decide_eq_false q39)]; exact hO⟩
  ·
   refine qa [(0, .no)] [0, 2, 7, 8, 9] [(10, .bool false)] ([¬ (((j : Nat) : Int) < ((n : Nat) : Int))]) (al1 q29) (ds_ (sq_ (f_ (at_leave _ rfl (done_back (by rfl) (⟨0, rfl, ?_⟩))))))
   refine done_block (ds_ (sq_ (qa0 [(0, .go (owns 1 0 1))] [] [(2, .slice po m co)] (ds_ (at_backM 0 rfl ([]) (.slice po m co) [] (by kernel_rfl) (by kernel_rfl) al0 (qo0 1 [] [0, 1] [(5, .slice po m co)] (on_ (ds_ (sq_ ?_)))))))))
   have hOf := hO
   rw [such_all (j := j) (by omega)] at hOf
   have hlo := hOf.len
   have hls := such_len (isNum k) l
   refine ao_ (qo0 6 [(4, .go (owns 3 0 1))] [0, 5] [(13, .pointer (some ⟨γ14 0, 0, none⟩)), (17, .slice q13 n cq13), (18, .func (.func 64) #[] #[.pointer (some ⟨γ1 1, 0, none⟩)])] (Ops.pick [[bx (γ24 0) (#[.slice po m co]) 28], [bx (γ20 1) (#[.func (.func 64) #[] #[.pointer (some ⟨γ1 1, 0, none⟩)]]) 73], [bx (γ20 0) (#[.slice q13 n cq13]) 24], [bx (γ14 0) (#[.slice q13 n cq13]) 24], [bx (γ3 1) (#[.slice none 0 0]) 24], [bx (γ3 0) (#[.slice p n cap]) 24], [bx (γ1 2) (#[.slice none 0 0]) 24], [bx (γ1 1) (#[.int .i64 k]) 3], [bx (γ1 0) (#[.slice p n cap]) 24], Yo, Y13] [0, 1, 2, 3, 4, 5, 6, 7, 8, 10, 9] [] (bx (γ24 0) (#[.slice po m co]) 28 :: bx (γ20 1) (#[.func (.func 64) #[] #[.pointer (some ⟨γ1 1, 0, none⟩)]]) 73 :: bx (γ20 0) (#[.slice q13 n cq13]) 24 :: bx (γ14 0) (#[.slice q13 n cq13]) 24 :: bx (γ3 1) (#[.slice none 0 0]) 24 :: bx (γ3 0) (#[.slice p n cap]) 24 :: bx (γ1 2) (#[.slice none 0 0]) 24 :: bx (γ1 1) (#[.int .i64 k]) 3 :: bx (γ1 0) (#[.slice p n cap]) 24 :: (Y13 ++ (Yo ++ []))) (by kernel_rfl) rfl rfl (cP (fun v L' => ∃ qz mz cz Yz, v = .slice qz mz cz ∧ L' = [bx (γ24 0) (#[.slice po m co]) 28, bx (γ20 1) (#[.func (.func 64) #[] #[.pointer (some ⟨γ1 1, 0, none⟩)]]) 73, bx (γ20 0) (#[.slice q13 n cq13]) 24, bx (γ14 0) (#[.slice q13 n cq13]) 24, bx (γ3 1) (#[.slice none 0 0]) 24, bx (γ3 0) (#[.slice p n cap]) 24, bx (γ1 2) (#[.slice none 0 0]) 24, bx (γ1 1) (#[.int .i64 k]) 3, bx (γ1 0) (#[.slice p n cap]) 24] ++ (Yz ++ (Yo ++ [])) ∧ SlO 40 Yz qz mz cz (l.filter fun x => !(isNum k) x)) Try.call77 (fun w hw => (deletef_d _ ([bx (γ24 0) (#[.slice po m co]) 28, bx (γ20 1) (#[.func (.func 64) #[] #[.pointer (some ⟨γ1 1, 0, none⟩)]]) 73, bx (γ20 0) (#[.slice q13 n cq13]) 24, bx (γ14 0) (#[.slice q13 n cq13]) 24, bx (γ3 1) (#[.slice none 0 0]) 24, bx (γ3 0) (#[.slice p n cap]) 24, bx (γ1 2) (#[.slice none 0 0]) 24, bx (γ1 1) (#[.int .i64 k]) 3, bx (γ1 0) (#[.slice p n cap]) 24] ++ (Yo ++ [])) Y13 64 #[.pointer (some ⟨γ1 1, 0, none⟩)] (isNum k) q13 n cq13 l w (fun args w => Try.call64 args w) (hw.front (A := [bx (γ24 0) (#[.slice po m co]) 28, bx (γ20 1) (#[.func (.func 64) #[] #[.pointer (some ⟨γ1 1, 0, none⟩)]]) 73, bx (γ20 0) (#[.slice q13 n cq13]) 24, bx (γ14 0) (#[.slice q13 n cq13]) 24, bx (γ3 1) (#[.slice none 0 0]) 24, bx (γ3 0) (#[.slice p n cap]) 24, bx (γ1 2) (#[.slice none 0 0]) 24, bx (γ1 1) (#[.int .i64 k]) 3, bx (γ1 0) (#[.slice p n cap]) 24]) (Y := Y13) (R := (Yo ++ []))) hO13 (by omega) (fun x hx w' hX => isnum_d x (γ1 1) k w' (rd_one (hX.row 7 rfl)))).mono fun e w' ⟨qz, mz, cz, Yz, he, hO, hY⟩ => ⟨_, _, he, ⟨qz, mz, cz, Yz, rfl, rfl, hO⟩, hY.push⟩) ?_)))
   rintro v55 L55 ⟨q55, m55, cq55, Y55, rfl, rfl, hO55⟩
   have hml55 := hO55.len
   have hmf55 := List.length_filter_le (fun x => !(isNum k) x) l
   refine mo0 3 [(9, .go (owns 3 0 1))] [0, 5] (fun _ => []) (fun _ L => (L.set 3 (bx (γ14 0) (#[.slice q55 m55 cq55]) 24))) (fun _ => on_ (ds_ (sq_ (sq_ (qa0 [(3, .go (owns 3 0 1))] [0, 5] [(26, .int .i64 ((m55 : Nat))), (27, .int .i64 0)] (ds_ (at_block (at_loop (α := Nat × List Ob) [0, 5, 26, 27] (fun ⟨j3, Yp⟩ => [(0, .pointer (some ⟨γ14 0, 0, none⟩)), (5, .slice po m co), (26, .int .i64 ((m55 : Nat))), (27, .int .i64 ((j3 : Nat)))]) (fun ⟨j3, Yp⟩ => bx (γ24 0) (#[.slice po m co]) 28 :: bx (γ20 1) (#[.func (.func 64) #[] #[.pointer (some ⟨γ1 1, 0, none⟩)]]) 73 :: bx (γ20 0) (#[.slice q13 n cq13]) 24 :: bx (γ14 0) (#[.slice q55 m55 cq55]) 24 :: bx (γ3 1) (#[.slice none 0 0]) 24 :: bx (γ3 0) (#[.slice p n cap]) 24 :: bx (γ1 2) (#[.slice none 0 0]) 24 :: bx (γ1 1) (#[.int .i64 k]) 3 :: bx (γ1 0) (#[.slice p n cap]) 24 :: (Yp ++ (Yo ++ []))) (fun ⟨j3, Yp⟩ => j3 ≤ m55 ∧ SlO 40 Yp q55 m55 cq55 (mixV (unl (suchL (isNum k) l)) (l.filter fun x => !(isNum k) x) j3)) (fun ⟨j3, Yp⟩ => m55 - j3) (0, Y55) (by kernel_rfl) rfl ⟨Nat.zero_le _, by rw [mix_zero]; exact hO55⟩ ?_))))))))
   rintro ⟨j3, Yp⟩
   rintro ⟨hj3, hP⟩
   have hpl := hP.len
   rw [mix_len] at hpl
   refine sq_ ?_
   by_cases q59 : ((j3 : Nat) : Int) < ((m55 : Nat) : Int)
   ·
    refine qa [(0, .yes)] [0, 5, 26, 27] [(28, .bool true)] ([((j3 : Nat) : Int) < ((m55 : Nat) : Int)]) (al1 q59) (ds_ (sq_ (t_ (at_skip (ds_ (sq_ (at_block (sq_ (qa0 [] [0, 5, 26, 27] [(6, .int .i64 ((j3 : Nat)))] (ds_ (sq_ ?_)))))))))))
    have hln63 := hP.len
    obtain ⟨g63, cs63, rfl, rfl, hOw63⟩ := hP.rowOf (i := j3) (by omega)
    obtain ⟨x65, hx65⟩ := get_some (l := (mixV (unl (suchL (isNum k) l)) (l.filter fun x => !(isNum k) x) j3)) (m := j3) (by omega)
    refine ao_ (qo 9 [(4, .go (owns 3 0 1)), (6, .at g63 0 j3), (8, .go (ownps 9 (0 + j3 * 5 + 2) [.int .i64 x65.peer]))] [0, 5, 6, 26, 27] [(30, .slice po m co), (38, .int .i64 x65.peer)] ([(some ⟨g63, 0, none⟩ : Option Addr) = some ⟨g63, 0, none⟩, ((j3 : Nat)) = ((j3 : Nat) : Int), j3 < m55] ++ (acellsP cs63 (0 + j3 * 5 + 2) [.int .i64 x65.peer])) (alA (al2 rfl (al2 rfl (al1 (by omega)))) (rda_part ((hOw63.rdx hP.len hx65)) 2 _ rfl)) ?_)
    rcases q67 : decide (x65.peer ∈ (suchL (isNum k) l)) with _ | _
    ·
     refine cD (.bool false) Try.call27 (fun w hw => by have := contains_d po m co ((suchL (isNum k) l)) x65.peer w (hOf.atN (A := [_, _, _, _, _, _, _, _, _, _]) hw) hOf.len (by omega); rw [q67] at this; exact this) (on_ (ds_ (f_ (at_skip (done_block (ds_ (qa [(0, .fit)] [0, 5, 26] [(27, .int .i64 ((j3 + 1 : Nat)))] ([Fit .i64 ((j3 + 1 : Nat))]) (al1 (fit64 (by omega) (by omega))) ?_)))))))
     exact dr [0, 5, 26, 27] (j3 + 1, [bx g63 cs63 40]) ⟨by omega, by rw [← mix_same hx65 (show unl _ _ = _ from if_neg (of_decide_eq_false q67))]; exact hP⟩
    ·
     refine cD (.bool true) Try.call27 (fun w hw => by have := contains_d po m co ((suchL (isNum k) l)) x65.peer w (hOf.atN (A := [_, _, _, _, _, _, _, _, _, _]) hw) hOf.len (by omega); rw [q67] at this; exact this) (on_ (ds_ (t_ (ma [(3, .go (owns 3 0 1)), (5, .at g63 0 j3), (7, .go (ownps 9 (0 + j3 * 5 + 2) [undef]))] [0, 5, 26, 27] (fun _ => []) (fun _ L => (L.set 9 (bx g63 ((cs63).setIfInBounds (0 + j3 * 5 + 2) (.int .i64 0)) 40))) (fun _ => [(some ⟨g63, 0, none⟩ : Option Addr) = some ⟨g63, 0, none⟩, ((j3 : Nat)) = ((j3 : Nat) : Int), j3 < m55] ++ ([0 + j3 * 5 + 2 < (cs63).size])) (fun _ => (alA (al2 rfl (al2 rfl (al1 (by omega)))) (al1 (hOw63.room hP.len hx65 (f := 2) (by decide))))) (fun _ => done_block (ds_ (qa [(0, .fit)] [0, 5, 26] [(27, .int .i64 ((j3 + 1 : Nat)))] ([Fit .i64 ((j3 + 1 : Nat))]) (al1 (fit64 (by omega) (by omega))) ?_)))))))
     exact dr [0, 5, 26, 27] (j3 + 1, [bx g63 ((cs63).setIfInBounds (0 + j3 * 5 + 2) (.int .i64 0)) 40]) ⟨by omega, by rw [← mix_put hx65 (show unl _ _ = _ from if_pos (of_decide_eq_true q67))]; exact (SlO.ofOwn (hOw63.put (x' := (⟨x65.num, x65.vcpu, 0, x65.pending, x65.masked⟩ : Port)) hP.len hx65 (f := 2) (by decide) rfl) (len_set hP.len))⟩
   ·
    refine qa [(0, .no)] [0, 5, 26, 27] [(28, .bool false)] ([¬ (((j3 : Nat) : Int) < ((m55 : Nat) : Int))]) (al1 q59) (ds_ (sq_ (f_ (at_leave _ rfl (ds_ (sq_ ?_))))))
    have hPf := hP
    rw [mix_end (by omega)] at hPf
    refine qa0 [] [] [(4, .int .i64 ((m : Nat)))] (ds_ (bk ([]) (.int .i64 ((m : Nat))) ?_))
    by_cases q76 : ((m : Nat) : Int) = (0 : Int)
    ·
     refine qo 1 [(3, .yes)] [] [(7, .bool true)] ([((m : Nat) : Int) = (0 : Int)]) (al1 q76) (on_ (ds_ (t_ (sq_ (qa0 [] [] [(3, .int .i64 4)] (ds_ (bk ([]) (.int .i64 4) (qo0 1 [] [4, 7] [(8, .int .i64 4)] (on_ (ds_ (sq_ (qa0 [] [4, 7, 8] [(22, .bool true)] (ds_ (t_ (sq_ (qa0 [(2, .go (owns 4 0 1))] [4] [(5, .int .i64 4)] (ds_ (bk (owns 4 0 1) (.tuple #[.agg #[.slice none 0 0], .int .i64 4]) (qo0 4 [(5, .go (owns 6 0 1))] [4] [(5, .int .i64 4)] (on_ (ds_ (rt (owns 6 0 1) (.tuple #[.agg #[.slice none 0 0], .int .i64 4]) ?_))))))))))))))))))))))
     exact fun w' hw => by rw [closeV_none q5 hlo q76]; exact ⟨none, 0, 0, [], rfl, SlO.nil, hw.below, hw.sub (List.nil_sublist _)⟩
    ·
     refine qo 1 [(3, .no)] [] [(7, .bool false)] ([¬ (((m : Nat) : Int) = (0 : Int))]) (al1 q76) (on_ (ds_ (f_ (at_skip (ds_ (sq_ (qa0 [] [] [(3, .int .i64 0)] (ds_ (bk ([]) (.int .i64 0) (qo0 1 [] [4, 7] [(8, .int .i64 0)] (on_ (ds_ (sq_ (qa0 [] [4, 7, 8] [(22, .bool false)] (ds_ (f_ (at_skip (ds_ (sq_ (ma0 [(0, .go (owns 3 0 1)), (1, .go (owns 4 0 1))] [4] (fun _ => [(5, .int .i64 0)]) (fun _ L => (L.set 4 (bx (γ3 1) (#[.slice q55 m55 cq55]) 24))) (fun _ => ds_ (bk (owns 4 0 1) (.tuple #[.agg #[.slice q55 m55 cq55], .int .i64 0]) (mo0 4 [(5, .go (owns 6 0 1))] [4] (fun _ => [(5, .int .i64 0)]) (fun _ L => (L.set 6 (bx (γ1 2) (#[.slice q55 m55 cq55]) 24))) (fun _ => on_ (ds_ (rt (owns 6 0 1) (.tuple #[.agg #[.slice q55 m55 cq55], .int .i64 0]) ?_))))))))))))))))))))))))))
     exact fun w' hw => by rw [closeV_ok q5 hlo q76]; exact ⟨_, _, _, _, rfl, hPf, hw.below, (hs_nil (Hs.pick [[bx (γ24 0) (#[.slice po m co]) 28], [bx (γ20 1) (#[.func (.func 64) #[] #[.pointer (some ⟨γ1 1, 0, none⟩)]]) 73], [bx (γ20 0) (#[.slice q13 n cq13]) 24], [bx (γ14 0) (#[.slice q55 m55 cq55]) 24], [bx (γ3 1) (#[.slice q55 m55 cq55]) 24], [bx (γ3 0) (#[.slice p n cap]) 24], [bx (γ1 2) (#[.slice q55 m55 cq55]) 24], [bx (γ1 1) (#[.int .i64 k]) 3], [bx (γ1 0) (#[.slice p n cap]) 24], Yp, Yo] [9] [0, 1, 2, 3, 4, 5, 6, 7, 8, 10] (by kernel_rfl) hw))⟩

set_option maxRecDepth 100000 in
theorem drop_d (p : Option Addr) (n cap : Nat) (l : List Port) (own : Int) (w : World)
 (hsl : Sv w p l) (hn : n = l.length) (hb : n ≤ 1000)
 : Calls Try.prog 43 #[.agg #[.slice p n cap], .int .i64 own] w fun e w' => ∃ q m capq Y, e = .returned (.tuple #[.agg #[.slice q m capq], .int .i64 (dropV l own).2.1, .int .i64 (dropV l own).2.2]) ∧ SlO 40 Y q m capq (dropV l own).1 ∧ Below w.heap.size w w' ∧ Hs w Y w' := by
 refine enter (Hs.start w) Try.func43 rfl Try.ntmps43 rfl (sq_ (ma0 [] [] (fun γ1 => [(2, .pointer (some ⟨γ1 0, 0, none⟩)), (3, .pointer (some ⟨γ1 1, 0, none⟩)), (4, .pointer (some ⟨γ1 2, 0, none⟩))]) (fun γ1 L => bx (γ1 2) (#[.slice none 0 0]) 24 :: bx (γ1 1) (#[.int .i64 own]) 3 :: bx (γ1 0) (#[.slice p n cap]) 24 :: L) (fun γ1 => ds_ (sq_ (ma0 [(1, .go (owns 0 0 1))] [2, 3, 4] (fun γ2 => [(7, .pointer (some ⟨γ2 0, 0, none⟩))]) (fun γ2 L => bx (γ2 0) (#[.int .i64 0]) 3 :: L) (fun γ2 => ds_ (sq_ (ao_ (qo0 2 [(0, .go (owns 3 0 1))] [4, 7] [(11, .agg #[.slice p n cap]), (12, .func (.func 65) #[] #[.pointer (some ⟨γ1 1, 0, none⟩), .pointer (some ⟨γ2 0, 0, none⟩)])] (ops_inline (g := 54) (args := #[.agg #[.slice p n cap], .func (.func 65) #[] #[.pointer (some ⟨γ1 1, 0, none⟩), .pointer (some ⟨γ2 0, 0, none⟩)]]) (by kernel_rfl) (by kernel_rfl) (by kernel_rfl) (fun args w => Try.call54 args w) Try.func54 rfl Try.ntmps54 rfl (sq_ (ma0 [] [1] (fun γ4 => [(2, .pointer (some ⟨γ4 0, 0, none⟩)), (4, .pointer (some ⟨γ4 1, 0, none⟩))]) (fun γ4 L => bx (γ4 1) (#[.slice none 0 0]) 24 :: bx (γ4 0) (#[.slice p n cap]) 24 :: L) (fun γ4 => ds_ (sq_ (sq_ (ao_ (qo0 1 [(0, .go (owns 1 0 1))] [1, 2, 4] [(9, .agg #[.slice p n cap])] ?_)))))))))))))))))
 rcases q6 : rightB l with _ | _
 ·
  refine cD (.int .i64 260) Try.call16 (fun w hw => by have := check_d p n cap l w (hsl.kept hw.below) hn hb; rw [q6] at this; exact this) (qo0 1 [] [1, 2, 4] [(6, .int .i64 260)] (on_ (ds_ (sq_ (qa0 [] [1, 2, 4, 6] [(12, .bool true)] (ds_ (t_ (sq_ (qa0 [(2, .go (owns 0 0 1))] [4] [(5, .int .i64 260)] (ds_ (bk (owns 0 0 1) (.tuple #[.agg #[.slice none 0 0], .int .i64 260]) (mo0 6 [(7, .go (owns 0 0 1))] [4, 7] (fun γ10 => [(8, .pointer (some ⟨γ10 0, 0, none⟩)), (9, .int .i64 260)]) (fun γ10 L => bx (γ10 0) (#[.slice none 0 0]) 24 :: L) (fun γ10 => on_ (ds_ (sq_ ?_)))))))))))))))
  refine at_any (by kernel_rfl) ?_
  refine tk (m := 5) [2] [] [4, 7, 8] [(18, .int .i64 260)] ([]) #[false, false, true, false, false, false] al0 ?_
  refine any_cut 0 #[true, true, true, true, true, true] ([(4, .pointer (some ⟨γ1 2, 0, none⟩)), (5, .int .i64 0), (6, .int .i64 260)]) ([bx (γ10 0) (#[.slice none 0 0]) 24, bx (γ4 1) (#[.slice none 0 0]) 24, bx (γ4 0) (#[.slice p n cap]) 24, bx (γ2 0) (#[.int .i64 0]) 3, bx (γ1 2) (#[.slice none 0 0]) 24, bx (γ1 1) (#[.int .i64 own]) 3, bx (γ1 0) (#[.slice p n cap]) 24]) ?_ (fun hm => ?_)
  rotate_left
  ·
   refine any_fork [0, 1] (by kernel_rfl) (by simp) (each_cons _ rfl ?_ (each_cons _ rfl ?_ (each_nil)))
   ·
    refine qo0 1 [(0, .go (owns 0 0 1))] [4, 7, 18] [(16, .agg #[.slice none 0 0])] ?_
    refine od_ ?_
    refine any_fork [1, 3] (by kernel_rfl) (by simp) (each_cons _ rfl ?_ (each_cons _ rfl ?_ (each_nil)))
    ·
     refine qo0 1 [(1, .go (owns 3 0 1))] [4, 16, 18] [(17, .int .i64 0)] ?_
     refine od_ ?_
     refine a1 3 rfl ?_
     refine qo0 1 [(3, .go (owns 4 0 1))] [4, 17, 18] [] ?_
     refine od_ ?_
     refine tk (m := 0) [4, 5] [] [4] [(5, .int .i64 0), (6, .int .i64 260)] ([]) #[true, true, true, true, true, true] al0 ?_
     exact any_weak hm [4, 5, 6] (by kernel_rfl) rfl rfl rfl
    ·
     refine qo0 1 [(3, .go (owns 4 0 1))] [4, 7, 18] [] ?_
     refine od_ ?_
     refine a1 1 rfl ?_
     refine qo0 1 [(1, .go (owns 3 0 1))] [4, 18] [(17, .int .i64 0)] ?_
     refine od_ ?_
     refine tk (m := 0) [4, 5] [] [4] [(5, .int .i64 0), (6, .int .i64 260)] ([]) #[true, true, true, true, true, true] al0 ?_
     exact any_weak hm [4, 5, 6] (by kernel_rfl) rfl rfl rfl
   ·
    refine qo0 1 [(1, .go (owns 3 0 1))] [4, 8, 18] [(17, .int .i64 0)] ?_
    refine od_ ?_
    refine a1 0 rfl ?_
    refine qo0 1 [(0, .go (owns 0 0 1))] [4, 17, 18] [(16, .agg #[.slice none 0 0])] ?_
    refine od_ ?_
    refine a1 3 rfl ?_
    refine qo0 1 [(3, .go (owns 4 0 1))] [4, 17, 18] [] ?_
    refine od_ ?_
    refine tk (m := 0) [4, 5] [] [4] [(5, .int .i64 0), (6, .int .i64 260)] ([]) #[true, true, true, true, true, true] al0 ?_
    exact any_weak hm [4, 5, 6] (by kernel_rfl) rfl rfl rfl
  refine any_nil (by kernel_rfl) ?_
  refine ds_ (rt (owns 4 0 1) (.tuple #[.agg #[.slice none 0 0], .int .i64 0, .int .i64 260]) ?_)
  exact fun w' hw => by rw [dropV_bad q6]; exact ⟨none, 0, 0, [], rfl, SlO.nil, hw.below, hw.sub (List.nil_sublist _)⟩
 ·
  refine cD (.int .i64 0) Try.call16 (fun w hw => by have := check_d p n cap l w (hsl.kept hw.below) hn hb; rw [q6] at this; exact this) (qo0 1 [] [1, 2, 4] [(6, .int .i64 0)] (on_ (ds_ (sq_ (qa0 [] [1, 2, 4, 6] [(12, .bool false)] (ds_ (f_ (at_skip (ds_ (sq_ (ao_ (qo0 2 [(1, .go (owns 1 0 1))] [1, 4] [(16, .slice p n cap)] (cP (fun v L' => ∃ q capq Y, v = .slice q n capq ∧ L' = List.take 6 ([bx (γ4 1) (#[.slice none 0 0]) 24, bx (γ4 0) (#[.slice p n cap]) 24, bx (γ2 0) (#[.int .i64 0]) 3, bx (γ1 2) (#[.slice none 0 0]) 24, bx (γ1 1) (#[.int .i64 own]) 3, bx (γ1 0) (#[.slice p n cap]) 24]) ++ (Y ++ List.drop 6 ([bx (γ4 1) (#[.slice none 0 0]) 24, bx (γ4 0) (#[.slice p n cap]) 24, bx (γ2 0) (#[.int .i64 0]) 3, bx (γ1 2) (#[.slice none 0 0]) 24, bx (γ1 1) (#[.int .i64 own]) 3, bx (γ1 0) (#[.slice p n cap]) 24])) ∧ SlO 40 Y q n capq l) Try.call72 (fun w hw => (clone_d p n cap l w (hsl.kept hw.below) hn (by omega)).mono fun e w' ⟨q, capq, Y, he, hO, hb, hY⟩ => ⟨_, _, he, ⟨q, capq, Y, rfl, rfl, hO⟩, hw.join hb hY 6⟩) ?_)))))))))))))
  rintro v31 L31 ⟨q31, cq31, Y31, rfl, rfl, hO31⟩
  refine mo0 3 [(5, .go (owns 0 0 1))] [1, 4] (fun γ32 => [(7, .pointer (some ⟨γ32 0, 0, none⟩))]) (fun γ32 L => bx (γ32 0) (#[.slice q31 n cq31]) 24 :: L) (fun γ32 => on_ (ds_ (sq_ (sq_ (ao_ (qo0 1 [] [4, 7] [(19, .func (.func 65) #[] #[.pointer (some ⟨γ1 1, 0, none⟩), .pointer (some ⟨γ2 0, 0, none⟩)])] (ops_inline (g := 65) (args := #[.pointer (some ⟨γ32 0, 0, none⟩), .pointer (some ⟨γ1 1, 0, none⟩), .pointer (some ⟨γ2 0, 0, none⟩)]) (by kernel_rfl) (by kernel_rfl) (by kernel_rfl) (fun args w => Try.call65 args w) Try.func65 rfl Try.ntmps65 rfl (sq_ (qa0 [] [0, 1, 2] [] (ds_ (sq_ (sq_ (ao_ (qo0 1 [(0, .go (owns 5 0 1))] [0, 1, 2] [(5, .int .i64 own)] ?_))))))))))))))
  rcases q36 : vcpuB own with _ | _
  ·
   refine cD (.bool false) Try.call31 (fun w hw => by have := vcpu_d own w; rw [q36] at this; exact this) (qo0 1 [] [0, 1, 2] [(7, .bool true)] (on_ (ds_ (t_ (sq_ (qa0 [] [] [(4, .int .i64 2)] (ds_ (bk ([]) (.int .i64 2) (qo0 1 [] [4, 7] [(8, .int .i64 2)] (on_ (ds_ (sq_ (qa0 [] [4, 7, 8] [(22, .bool true)] (ds_ (t_ (sq_ (qa0 [(2, .go (owns 1 0 1))] [4] [(5, .int .i64 2)] (ds_ (bk (owns 1 0 1) (.tuple #[.agg #[.slice none 0 0], .int .i64 2]) (mo0 6 [(7, .go (owns 0 0 1))] [4, 7] (fun γ42 => [(8, .pointer (some ⟨γ42 0, 0, none⟩)), (9, .int .i64 2)]) (fun γ42 L => bx (γ42 0) (#[.slice none 0 0]) 24 :: L) (fun γ42 => on_ (ds_ (sq_ ?_)))))))))))))))))))))))
   refine at_any (by kernel_rfl) ?_
   refine tk (m := 5) [2] [] [4, 7, 8] [(18, .int .i64 2)] ([]) #[false, false, true, false, false, false] al0 ?_
   refine any_cut 0 #[true, true, true, true, true, true] ([(4, .pointer (some ⟨γ1 2, 0, none⟩)), (5, .int .i64 0), (6, .int .i64 2)]) (bx (γ42 0) (#[.slice none 0 0]) 24 :: bx (γ32 0) (#[.slice q31 n cq31]) 24 :: bx (γ4 1) (#[.slice none 0 0]) 24 :: bx (γ4 0) (#[.slice p n cap]) 24 :: bx (γ2 0) (#[.int .i64 0]) 3 :: bx (γ1 2) (#[.slice none 0 0]) 24 :: bx (γ1 1) (#[.int .i64 own]) 3 :: bx (γ1 0) (#[.slice p n cap]) 24 :: (Y31 ++ [])) ?_ (fun hm => ?_)
   rotate_left
   ·
    refine any_fork [0, 1] (by kernel_rfl) (by simp) (each_cons _ rfl ?_ (each_cons _ rfl ?_ (each_nil)))
    ·
     refine qo0 1 [(0, .go (owns 0 0 1))] [4, 7, 18] [(16, .agg #[.slice none 0 0])] ?_
     refine od_ ?_
     refine any_fork [1, 3] (by kernel_rfl) (by simp) (each_cons _ rfl ?_ (each_cons _ rfl ?_ (each_nil)))
     ·
      refine qo0 1 [(1, .go (owns 4 0 1))] [4, 16, 18] [(17, .int .i64 0)] ?_
      refine od_ ?_
      refine a1 3 rfl ?_
      refine qo0 1 [(3, .go (owns 5 0 1))] [4, 17, 18] [] ?_
      refine od_ ?_
      refine tk (m := 0) [4, 5] [] [4] [(5, .int .i64 0), (6, .int .i64 2)] ([]) #[true, true, true, true, true, true] al0 ?_
      exact any_weak hm [4, 5, 6] (by kernel_rfl) rfl rfl rfl
     ·
      refine qo0 1 [(3, .go (owns 5 0 1))] [4, 7, 18] [] ?_
      refine od_ ?_
      refine a1 1 rfl ?_
      refine qo0 1 [(1, .go (owns 4 0 1))] [4, 18] [(17, .int .i64 0)] ?_
      refine od_ ?_
      refine tk (m := 0) [4, 5] [] [4] [(5, .int .i64 0), (6, .int .i64 2)] ([]) #[true, true, true, true, true, true] al0 ?_
      exact any_weak hm [4, 5, 6] (by kernel_rfl) rfl rfl rfl
    ·
     refine qo0 1 [(1, .go (owns 4 0 1))] [4, 8, 18] [(17, .int .i64 0)] ?_
     refine od_ ?_
     refine a1 0 rfl ?_
     refine qo0 1 [(0, .go (owns 0 0 1))] [4, 17, 18] [(16, .agg #[.slice none 0 0])] ?_
     refine od_ ?_
     refine a1 3 rfl ?_
     refine qo0 1 [(3, .go (owns 5 0 1))] [4, 17, 18] [] ?_
     refine od_ ?_
     refine tk (m := 0) [4, 5] [] [4] [(5, .int .i64 0), (6, .int .i64 2)] ([]) #[true, true, true, true, true, true] al0 ?_
     exact any_weak hm [4, 5, 6] (by kernel_rfl) rfl rfl rfl
   refine any_nil (by kernel_rfl) ?_
   refine ds_ (rt (owns 5 0 1) (.tuple #[.agg #[.slice none 0 0], .int .i64 0, .int .i64 2]) ?_)
   exact fun w' hw => by rw [dropV_arg q6 q36]; exact ⟨none, 0, 0, [], rfl, SlO.nil, hw.below, hw.sub (List.nil_sublist _)⟩
  ·
   refine cD (.bool true) Try.call31 (fun w hw => by have := vcpu_d own w; rw [q36] at this; exact this) (qo0 1 [] [0, 1, 2] [(7, .bool false)] (on_ (ds_ (f_ (at_skip (ds_ (sq_ (ao_ (qo0 2 [] [2] [(8, .pointer (some ⟨γ32 0, 0, none⟩)), (9, .func (.func 66) #[] #[.pointer (some ⟨γ1 1, 0, none⟩)])] (ops_inline (g := 63) (args := #[.pointer (some ⟨γ32 0, 0, none⟩), .func (.func 66) #[] #[.pointer (some ⟨γ1 1, 0, none⟩)]]) (by kernel_rfl) (by kernel_rfl) (by kernel_rfl) (fun args w => Try.call63 args w) Try.func63 rfl Try.ntmps63 rfl (sq_ (qa0 [] [0, 1] [] (ds_ (sq_ (ao_ (qo0 4 [(2, .go (owns 0 0 1))] [0, 1] [(9, .agg #[.slice q31 n cq31]), (10, .func (.func 66) #[] #[.pointer (some ⟨γ1 1, 0, none⟩)])] (ops_inline (g := 37) (args := #[.agg #[.slice q31 n cq31], .func (.func 66) #[] #[.pointer (some ⟨γ1 1, 0, none⟩)]]) (by kernel_rfl) (by kernel_rfl) (by kernel_rfl) (fun args w => Try.call37 args w) Try.func37 rfl Try.ntmps37 rfl (sq_ (ma0 [] [] (fun γ64 => [(2, .pointer (some ⟨γ64 0, 0, none⟩)), (3, .pointer (some ⟨γ64 1, 0, none⟩))]) (fun γ64 L => bx (γ64 1) (#[.func (.func 66) #[] #[.pointer (some ⟨γ1 1, 0, none⟩)]]) 73 :: bx (γ64 0) (#[.slice q31 n cq31]) 24 :: L) (fun γ64 => ds_ (sq_ (qa0 [] [] [(4, .func (.func 60) #[] #[.pointer (some ⟨γ64 0, 0, none⟩), .pointer (some ⟨γ64 1, 0, none⟩)])] (ds_ (bk ([]) (.func (.func 60) #[] #[.pointer (some ⟨γ64 0, 0, none⟩), .pointer (some ⟨γ64 1, 0, none⟩)]) (ops_inlineM (g := 36) (args := #[.func (.func 60) #[] #[.pointer (some ⟨γ64 0, 0, none⟩), .pointer (some ⟨γ64 1, 0, none⟩)]]) (by kernel_rfl) (by kernel_rfl) (by kernel_rfl) (fun args w => Try.call36 args w) Try.func36 rfl Try.ntmps36 rfl (sq_ (qa0 [] [0] [] (ds_ (sq_ (ma0 [] [0] (fun γ68 => [(3, .pointer (some ⟨γ68 0, 0, none⟩))]) (fun γ68 L => bx (γ68 0) (#[.slice none 0 0]) 28 :: L) (fun γ68 => ds_ (sq_ (sq_ (qa0 [] [3] [(5, .func (.func 60) #[] #[.pointer (some ⟨γ64 0, 0, none⟩), .pointer (some ⟨γ64 1, 0, none⟩)])] (ds_ (at_block (at_range (gf := 60) (lb := #[.pointer (some ⟨γ64 0, 0, none⟩), .pointer (some ⟨γ64 1, 0, none⟩)]) (by kernel_rfl) (fun args w => Try.call60 args w) Try.func60 rfl Try.ntmps60 (by kernel_rfl) (fun γ70 r70 hr70 => sq_ (qa0 [(1, .go (owns 4 0 1))] [0, 2] [(7, .slice q31 n cq31), (8, .int .i64 ((n : Nat))), (9, .int .i64 0)] (ds_ (at_block (at_loop (α := Nat × List Ob × Option Addr × Nat × Nat) [0, 2, 7, 8, 9] (fun ⟨j, Yo, po, m, co⟩ => [(0, .func (.yield (γ70 1)) #[] #[]), (2, .pointer (some ⟨γ64 1, 0, none⟩)), (7, .slice q31 n cq31), (8, .int .i64 ((n : Nat))), (9, .int .i64 ((j : Nat)))]) (fun ⟨j, Yo, po, m, co⟩ => (γ70 1, .loop r70) :: (γ70 0, .deferred (some [])) :: bx (γ68 0) (#[.slice po m co]) 28 :: bx (γ64 1) (#[.func (.func 66) #[] #[.pointer (some ⟨γ1 1, 0, none⟩)]]) 73 :: bx (γ64 0) (#[.slice q31 n cq31]) 24 :: bx (γ32 0) (#[.slice q31 n cq31]) 24 :: bx (γ4 1) (#[.slice none 0 0]) 24 :: bx (γ4 0) (#[.slice p n cap]) 24 :: bx (γ2 0) (#[.int .i64 0]) 3 :: bx (γ1 2) (#[.slice none 0 0]) 24 :: bx (γ1 1) (#[.int .i64 own]) 3 :: bx (γ1 0) (#[.slice p n cap]) 24 :: (Yo ++ (Y31 ++ []))) (fun ⟨j, Yo, po, m, co⟩ => j ≤ n ∧ m ≤ j ∧ SlO 3 Yo po m co (suchL (isOwn own) (l.take j))) (fun ⟨j, Yo, po, m, co⟩ => n - j) (0, [], none, 0, 0) (by kernel_rfl) rfl ⟨Nat.zero_le _, Nat.le_refl _, by rw [List.take_zero]; exact SlO.nil⟩ ?_))))))))))))))))))))))))))))))))))))))))))
   rintro ⟨j, Yo, po, m, co⟩
   rintro ⟨hj, hm, hO⟩
   refine sq_ ?_
   by_cases q73 : ((j : Nat) : Int) < ((n : Nat) : Int)
   ·
    refine qa [(0, .yes)] [0, 2, 7, 8, 9] [(10, .bool true)] ([((j : Nat) : Int) < ((n : Nat) : Int)]) (al1 q73) (ds_ (sq_ (t_ (at_skip (ds_ (sq_ (at_block (sq_ (At.pick [[(γ70 1, .loop r70)], [(γ70 0, .deferred (some []))], [bx (γ68 0) (#[.slice po m co]) 28], [bx (γ64 1) (#[.func (.func 66) #[] #[.pointer (some ⟨γ1 1, 0, none⟩)]]) 73], [bx (γ64 0) (#[.slice q31 n cq31]) 24], [bx (γ32 0) (#[.slice q31 n cq31]) 24], [bx (γ4 1) (#[.slice none 0 0]) 24], [bx (γ4 0) (#[.slice p n cap]) 24], [bx (γ2 0) (#[.int .i64 0]) 3], [bx (γ1 2) (#[.slice none 0 0]) 24], [bx (γ1 1) (#[.int .i64 own]) 3], [bx (γ1 0) (#[.slice p n cap]) 24], Yo, Y31] [0, 1, 2, 3, 4, 5, 6, 7, 8, 9, 10, 11, 13, 12] [] ((γ70 1, .loop r70) :: (γ70 0, .deferred (some [])) :: bx (γ68 0) (#[.slice po m co]) 28 :: bx (γ64 1) (#[.func (.func 66) #[] #[.pointer (some ⟨γ1 1, 0, none⟩)]]) 73 :: bx (γ64 0) (#[.slice q31 n cq31]) 24 :: bx (γ32 0) (#[.slice q31 n cq31]) 24 :: bx (γ4 1) (#[.slice none 0 0]) 24 :: bx (γ4 0) (#[.slice p n cap]) 24 :: bx (γ2 0) (#[.int .i64 0]) 3 :: bx (γ1 2) (#[.slice none 0 0]) 24 :: bx (γ1 1) (#[.int .i64 own]) 3 :: bx (γ1 0) (#[.slice p n cap]) 24 :: (Y31 ++ (Yo ++ []))) (by kernel_rfl) rfl rfl ?_)))))))))
    have hln76 := hO31.len
    obtain ⟨g76, cs76, rfl, rfl, hOw76⟩ := hO31.rowOf (i := j) (by omega)
    obtain ⟨x78, hx78⟩ := get_some (l := l) (m := j) (by omega)
    refine ma [(0, .at g76 0 j), (1, .go (ownps 12 (0 + j * 5) [.int .i64 x78.num, .int .i64 x78.vcpu, .int .i64 x78.peer, .bool x78.pending, .bool x78.masked])), (3, .go (owns 0 0 5))] [0, 2, 7, 8, 9] (fun γ79 => [(5, .pointer (some ⟨γ79 0, 0, none⟩))]) (fun γ79 L => bx (γ79 0) (#[.int .i64 x78.num, .int .i64 x78.vcpu, .int .i64 x78.peer, .bool x78.pending, .bool x78.masked]) 40 :: L) (fun γ79 => [(some ⟨g76, 0, none⟩ : Option Addr) = some ⟨g76, 0, none⟩, ((j : Nat)) = ((j : Nat) : Int), j < n] ++ (acellsP cs76 (0 + j * 5) [.int .i64 x78.num, .int .i64 x78.vcpu, .int .i64 x78.peer, .bool x78.pending, .bool x78.masked])) (fun γ79 => (alA (al2 rfl (al2 rfl (al1 (by omega)))) (rda_pre ((hOw76.rdx hO31.len hx78)) _ rfl))) (fun γ79 => ds_ (sq_ (ao_ (qo0 2 [(0, .go (owns 4 0 1)), (1, .go (owns 0 0 5))] [0, 2, 5, 7, 8, 9] [(13, .func (.func 66) #[] #[.pointer (some ⟨γ1 1, 0, none⟩)]), (14, .agg #[.int .i64 x78.num, .int .i64 x78.vcpu, .int .i64 x78.peer, .bool x78.pending, .bool x78.masked])] (ops_inline (g := 66) (args := #[.agg #[.int .i64 x78.num, .int .i64 x78.vcpu, .int .i64 x78.peer, .bool x78.pending, .bool x78.masked], .pointer (some ⟨γ1 1, 0, none⟩)]) (by kernel_rfl) (by kernel_rfl) (by kernel_rfl) (fun args w => Try.call66 args w) Try.func66 rfl Try.ntmps66 rfl (sq_ (ma0 [] [1] (fun γ81 => [(2, .pointer (some ⟨γ81 0, 0, none⟩))]) (fun γ81 L => bx (γ81 0) (#[.int .i64 x78.num, .int .i64 x78.vcpu, .int .i64 x78.peer, .bool x78.pending, .bool x78.masked]) 40 :: L) (fun γ81 => ds_ (sq_ ?_)))))))))
    by_cases q83 : (x78.vcpu : Int) = (own : Int)
    ·
     refine qa [(1, .go (owns 0 1 1)), (2, .go (owns 12 0 1)), (3, .yes)] [] [(3, .bool true)] ([(x78.vcpu : Int) = (own : Int)]) (al1 q83) (ds_ (bk ([]) (.bool true) (qo0 4 [(6, .go (owns 1 0 1))] [0, 2, 7, 8, 9] [(16, .bool true), (17, .func (.yield (γ70 1)) #[] #[]), (19, .int .i64 x78.num)] (ops_yield (args := #[.int .i64 x78.num]) (by kernel_rfl) (by kernel_rfl) (by kernel_rfl) 2 rfl hr70 rfl (by kernel_rfl) (qa0 [] [3] [(4, .int .i64 x78.num)] (done_asg 2 rfl (at_block (ao_ (mo0 3 [(0, .go (owns 4 0 1))] [3] (fun γ87 => [(7, .slice po m co), (9, .slice (some ⟨γ87 0, 0, none⟩) 1 1)]) (fun γ87 L => bx (γ87 0) (#[.int .i64 x78.num]) 3 :: L) (fun γ87 => ops_append (α := Int) [bx (γ87 0) (#[.int .i64 x78.num]) 3, bx (γ81 0) (#[.int .i64 x78.num, .int .i64 x78.vcpu, .int .i64 x78.peer, .bool x78.pending, .bool x78.masked]) 40, bx (γ79 0) (#[.int .i64 x78.num, .int .i64 x78.vcpu, .int .i64 x78.peer, .bool x78.pending, .bool x78.masked]) 40, (γ70 1, .loop { r70 with state := .busy }), (γ70 0, .deferred (some [])), bx (γ68 0) (#[.slice po m co]) 28, bx (γ64 1) (#[.func (.func 66) #[] #[.pointer (some ⟨γ1 1, 0, none⟩)]]) 73, bx (γ64 0) (#[.slice (some ⟨g76, 0, none⟩) n cq31]) 24, bx (γ32 0) (#[.slice (some ⟨g76, 0, none⟩) n cq31]) 24, bx (γ4 1) (#[.slice none 0 0]) 24, bx (γ4 0) (#[.slice p n cap]) 24, bx (γ2 0) (#[.int .i64 0]) 3, bx (γ1 2) (#[.slice none 0 0]) 24, bx (γ1 1) (#[.int .i64 own]) 3, bx (γ1 0) (#[.slice p n cap]) 24, bx g76 cs76 40] Yo ([]) (.refl _) rfl (by kernel_rfl) (by kernel_rfl) (p := po) (n := m) (cap := co) (m := 1) (yv := .slice (some ⟨γ87 0, 0, none⟩) 1 1) (by kernel_rfl) (by kernel_rfl) (T := 3) (by_ := 8) (by kernel_rfl) ((suchL (isOwn own) (l.take j))) ([x78.num]) hO (fun w hw => src_svn Try.underlying28 (sv_row (hw.row 0 rfl) (by rfl)) (by rfl)) (by rfl) (by have hmx : maxLen = 9223372036854775807 := rfl; omega) (by have hmx : maxLen = 9223372036854775807 := rfl; omega) (fun Y88 p88 cap88 hO88 => mo0 1 [(4, .go (owns 5 0 1))] [] (fun _ => []) (fun _ L => (L.set 5 (bx (γ68 0) (#[.slice p88 (m + 1) cap88]) 28))) (fun _ => on_ (done_block (done_rnd 3 rfl (qo0 2 [] [0, 2, 7, 8, 9] [(22, .bool false)] (on_ (ds_ (f_ (at_skip (done_block (ds_ (qa [(0, .fit)] [0, 2, 7, 8] [(9, .int .i64 ((j + 1 : Nat)))] ([Fit .i64 ((j + 1 : Nat))]) (al1 (fit64 (by omega) (by omega))) (Done.pick [[bx (γ87 0) (#[.int .i64 x78.num]) 3], [bx (γ81 0) (#[.int .i64 x78.num, .int .i64 x78.vcpu, .int .i64 x78.peer, .bool x78.pending, .bool x78.masked]) 40], [bx (γ79 0) (#[.int .i64 x78.num, .int .i64 x78.vcpu, .int .i64 x78.peer, .bool x78.pending, .bool x78.masked]) 40], [(γ70 1, .loop r70)], [(γ70 0, .deferred (some []))], [bx (γ68 0) (#[.slice p88 (m + 1) cap88]) 28], [bx (γ64 1) (#[.func (.func 66) #[] #[.pointer (some ⟨γ1 1, 0, none⟩)]]) 73], [bx (γ64 0) (#[.slice (some ⟨g76, 0, none⟩) n cq31]) 24], [bx (γ32 0) (#[.slice (some ⟨g76, 0, none⟩) n cq31]) 24], [bx (γ4 1) (#[.slice none 0 0]) 24], [bx (γ4 0) (#[.slice p n cap]) 24], [bx (γ2 0) (#[.int .i64 0]) 3], [bx (γ1 2) (#[.slice none 0 0]) 24], [bx (γ1 1) (#[.int .i64 own]) 3], [bx (γ1 0) (#[.slice p n cap]) 24], [bx g76 cs76 40], Y88] [3, 4, 5, 6, 7, 8, 9, 10, 11, 12, 13, 14, 16, 15] [0, 1, 2] ((γ70 1, .loop r70) :: (γ70 0, .deferred (some [])) :: bx (γ68 0) (#[.slice p88 (m + 1) cap88]) 28 :: bx (γ64 1) (#[.func (.func 66) #[] #[.pointer (some ⟨γ1 1, 0, none⟩)]]) 73 :: bx (γ64 0) (#[.slice (some ⟨g76, 0, none⟩) n cq31]) 24 :: bx (γ32 0) (#[.slice (some ⟨g76, 0, none⟩) n cq31]) 24 :: bx (γ4 1) (#[.slice none 0 0]) 24 :: bx (γ4 0) (#[.slice p n cap]) 24 :: bx (γ2 0) (#[.int .i64 0]) 3 :: bx (γ1 2) (#[.slice none 0 0]) 24 :: bx (γ1 1) (#[.int .i64 own]) 3 :: bx (γ1 0) (#[.slice p n cap]) 24 :: (Y88 ++ ([bx g76 cs76 40]))) (by kernel_rfl) rfl rfl ?_)))))))))))))))))))))))
     exact dr [0, 2, 7, 8, 9] (j + 1, Y88, p88, m + 1, cap88) ⟨by omega, by omega, by rw [← such_yes hx78 (decide_eq_true q83)]; exact hO88⟩
    ·
     refine qa [(1, .go (owns 0 1 1)), (2, .go (owns 12 0 1)), (3, .no)] [] [(3, .bool false)] ([¬ ((x78.vcpu : Int) = (own : Int))]) (al1 q83) (ds_ (bk ([]) (.bool false) (qo0 7 [] [0, 2, 7, 8, 9] [(22, .bool false)] (on_ (ds_ (f_ (at_skip (done_block (ds_ (qa [(0, .fit)] [0, 2, 7, 8] [(9, .int .i64 ((j + 1 : Nat)))] ([Fit .i64 ((j + 1 : Nat))]) (al1 (fit64 (by omega) (by omega))) (Done.pick [[bx (γ81 0) (#[.int .i64 x78.num, .int .i64 x78.vcpu, .int .i64 x78.peer, .bool x78.pending, .bool x78.masked]) 40], [bx (γ79 0) (#[.int .i64 x78.num, .int .i64 x78.vcpu, .int .i64 x78.peer, .bool x78.pending, .bool x78.masked]) 40], [(γ70 1, .loop r70)], [(γ70 0, .deferred (some []))], [bx (γ68 0) (#[.slice po m co]) 28], [bx (γ64 1) (#[.func (.func 66) #[] #[.pointer (some ⟨γ1 1, 0, none⟩)]]) 73], [bx (γ64 0) (#[.slice (some ⟨g76, 0, none⟩) n cq31]) 24], [bx (γ32 0) (#[.slice (some ⟨g76, 0, none⟩) n cq31]) 24], [bx (γ4 1) (#[.slice none 0 0]) 24], [bx (γ4 0) (#[.slice p n cap]) 24], [bx (γ2 0) (#[.int .i64 0]) 3], [bx (γ1 2) (#[.slice none 0 0]) 24], [bx (γ1 1) (#[.int .i64 own]) 3], [bx (γ1 0) (#[.slice p n cap]) 24], [bx g76 cs76 40], Yo] [2, 3, 4, 5, 6, 7, 8, 9, 10, 11, 12, 13, 15, 14] [0, 1] ((γ70 1, .loop r70) :: (γ70 0, .deferred (some [])) :: bx (γ68 0) (#[.slice po m co]) 28 :: bx (γ64 1) (#[.func (.func 66) #[] #[.pointer (some ⟨γ1 1, 0, none⟩)]]) 73 :: bx (γ64 0) (#[.slice (some ⟨g76, 0, none⟩) n cq31]) 24 :: bx (γ32 0) (#[.slice (some ⟨g76, 0, none⟩) n cq31]) 24 :: bx (γ4 1) (#[.slice none 0 0]) 24 :: bx (γ4 0) (#[.slice p n cap]) 24 :: bx (γ2 0) (#[.int .i64 0]) 3 :: bx (γ1 2) (#[.slice none 0 0]) 24 :: bx (γ1 1) (#[.int .i64 own]) 3 :: bx (γ1 0) (#[.slice p n cap]) 24 :: (Yo ++ ([bx g76 cs76 40]))) (by kernel_rfl) rfl rfl ?_)))))))))))
     exact dr [0, 2, 7, 8, 9] (j + 1, Yo, po, m, co) ⟨by omega, by omega, by rw [← such_no hx78 (decide_eq_false q83)]; exact hO⟩
   ·
    refine qa [(0, .no)] [0, 2, 7, 8, 9] [(10, .bool false)] ([¬ (((j : Nat) : Int) < ((n : Nat) : Int))]) (al1 q73) (ds_ (sq_ (f_ (at_leave _ rfl (done_back (by rfl) (⟨0, rfl, ?_⟩))))))
    refine done_block (ds_ (sq_ (qa0 [(0, .go (owns 1 0 1))] [] [(2, .slice po m co)] (ds_ (at_backM 0 rfl ([]) (.slice po m co) [] (by kernel_rfl) (by kernel_rfl) al0 (qo0 1 [] [0, 1] [(5, .slice po m co)] (on_ (ds_ (sq_ ?_)))))))))
    have hOf := hO
    rw [such_all (j := j) (by omega)] at hOf
    have hlo := hOf.len
    have hls := such_len (isOwn own) l
    refine ao_ (qo0 6 [(4, .go (owns 3 0 1))] [0, 5] [(13, .pointer (some ⟨γ32 0, 0, none⟩)), (17, .slice q31 n cq31), (18, .func (.func 66) #[] #[.pointer (some ⟨γ1 1, 0, none⟩)])] (Ops.pick [[bx (γ68 0) (#[.slice po m co]) 28], [bx (γ64 1) (#[.func (.func 66) #[] #[.pointer (some ⟨γ1 1, 0, none⟩)]]) 73], [bx (γ64 0) (#[.slice q31 n cq31]) 24], [bx (γ32 0) (#[.slice q31 n cq31]) 24], [bx (γ4 1) (#[.slice none 0 0]) 24], [bx (γ4 0) (#[.slice p n cap]) 24], [bx (γ2 0) (#[.int .i64 0]) 3], [bx (γ1 2) (#[.slice none 0 0]) 24], [bx (γ1 1) (#[.int .i64 own]) 3], [bx (γ1 0) (#[.slice p n cap]) 24], Yo, Y31] [0, 1, 2, 3, 4, 5, 6, 7, 8, 9, 11, 10] [] (bx (γ68 0) (#[.slice po m co]) 28 :: bx (γ64 1) (#[.func (.func 66) #[] #[.pointer (some ⟨γ1 1, 0, none⟩)]]) 73 :: bx (γ64 0) (#[.slice q31 n cq31]) 24 :: bx (γ32 0) (#[.slice q31 n cq31]) 24 :: bx (γ4 1) (#[.slice none 0 0]) 24 :: bx (γ4 0) (#[.slice p n cap]) 24 :: bx (γ2 0) (#[.int .i64 0]) 3 :: bx (γ1 2) (#[.slice none 0 0]) 24 :: bx (γ1 1) (#[.int .i64 own]) 3 :: bx (γ1 0) (#[.slice p n cap]) 24 :: (Y31 ++ (Yo ++ []))) (by kernel_rfl) rfl rfl (cP (fun v L' => ∃ qz mz cz Yz, v = .slice qz mz cz ∧ L' = [bx (γ68 0) (#[.slice po m co]) 28, bx (γ64 1) (#[.func (.func 66) #[] #[.pointer (some ⟨γ1 1, 0, none⟩)]]) 73, bx (γ64 0) (#[.slice q31 n cq31]) 24, bx (γ32 0) (#[.slice q31 n cq31]) 24, bx (γ4 1) (#[.slice none 0 0]) 24, bx (γ4 0) (#[.slice p n cap]) 24, bx (γ2 0) (#[.int .i64 0]) 3, bx (γ1 2) (#[.slice none 0 0]) 24, bx (γ1 1) (#[.int .i64 own]) 3, bx (γ1 0) (#[.slice p n cap]) 24] ++ (Yz ++ (Yo ++ [])) ∧ SlO 40 Yz qz mz cz (l.filter fun x => !(isOwn own) x)) Try.call77 (fun w hw => (deletef_d _ ([bx (γ68 0) (#[.slice po m co]) 28, bx (γ64 1) (#[.func (.func 66) #[] #[.pointer (some ⟨γ1 1, 0, none⟩)]]) 73, bx (γ64 0) (#[.slice q31 n cq31]) 24, bx (γ32 0) (#[.slice q31 n cq31]) 24, bx (γ4 1) (#[.slice none 0 0]) 24, bx (γ4 0) (#[.slice p n cap]) 24, bx (γ2 0) (#[.int .i64 0]) 3, bx (γ1 2) (#[.slice none 0 0]) 24, bx (γ1 1) (#[.int .i64 own]) 3, bx (γ1 0) (#[.slice p n cap]) 24] ++ (Yo ++ [])) Y31 66 #[.pointer (some ⟨γ1 1, 0, none⟩)] (isOwn own) q31 n cq31 l w (fun args w => Try.call66 args w) (hw.front (A := [bx (γ68 0) (#[.slice po m co]) 28, bx (γ64 1) (#[.func (.func 66) #[] #[.pointer (some ⟨γ1 1, 0, none⟩)]]) 73, bx (γ64 0) (#[.slice q31 n cq31]) 24, bx (γ32 0) (#[.slice q31 n cq31]) 24, bx (γ4 1) (#[.slice none 0 0]) 24, bx (γ4 0) (#[.slice p n cap]) 24, bx (γ2 0) (#[.int .i64 0]) 3, bx (γ1 2) (#[.slice none 0 0]) 24, bx (γ1 1) (#[.int .i64 own]) 3, bx (γ1 0) (#[.slice p n cap]) 24]) (Y := Y31) (R := (Yo ++ []))) hO31 (by omega) (fun x hx w' hX => isown_d x (γ1 1) own w' (rd_one (hX.row 8 rfl)))).mono fun e w' ⟨qz, mz, cz, Yz, he, hO, hY⟩ => ⟨_, _, he, ⟨qz, mz, cz, Yz, rfl, rfl, hO⟩, hY.push⟩) ?_)))
    rintro v99 L99 ⟨q99, m99, cq99, Y99, rfl, rfl, hO99⟩
    have hml99 := hO99.len
    have hmf99 := List.length_filter_le (fun x => !(isOwn own) x) l
    refine mo0 3 [(9, .go (owns 3 0 1))] [0, 5] (fun _ => []) (fun _ L => (L.set 3 (bx (γ32 0) (#[.slice q99 m99 cq99]) 24))) (fun _ => on_ (ds_ (sq_ (sq_ (qa0 [(3, .go (owns 3 0 1))] [0, 5] [(26, .int .i64 ((m99 : Nat))), (27, .int .i64 0)] (ds_ (at_block (at_loop (α := Nat × List Ob) [0, 5, 26, 27] (fun ⟨j3, Yp⟩ => [(0, .pointer (some ⟨γ32 0, 0, none⟩)), (5, .slice po m co), (26, .int .i64 ((m99 : Nat))), (27, .int .i64 ((j3 : Nat)))]) (fun ⟨j3, Yp⟩ => bx (γ68 0) (#[.slice po m co]) 28 :: bx (γ64 1) (#[.func (.func 66) #[] #[.pointer (some ⟨γ1 1, 0, none⟩)]]) 73 :: bx (γ64 0) (#[.slice q31 n cq31]) 24 :: bx (γ32 0) (#[.slice q99 m99 cq99]) 24 :: bx (γ4 1) (#[.slice none 0 0]) 24 :: bx (γ4 0) (#[.slice p n cap]) 24 :: bx (γ2 0) (#[.int .i64 0]) 3 :: bx (γ1 2) (#[.slice none 0 0]) 24 :: bx (γ1 1) (#[.int .i64 own]) 3 :: bx (γ1 0) (#[.slice p n cap]) 24 :: (Yp ++ (Yo ++ []))) (fun ⟨j3, Yp⟩ => j3 ≤ m99 ∧ SlO 40 Yp q99 m99 cq99 (mixV (unl (suchL (isOwn own) l)) (l.filter fun x => !(isOwn own) x) j3)) (fun ⟨j3, Yp⟩ => m99 - j3) (0, Y99) (by kernel_rfl) rfl ⟨Nat.zero_le _, by rw [mix_zero]; exact hO99⟩ ?_))))))))
    rintro ⟨j3, Yp⟩
    rintro ⟨hj3, hP⟩
    have hpl := hP.len
    rw [mix_len] at hpl
    refine sq_ ?_
    by_cases q103 : ((j3 : Nat) : Int) < ((m99 : Nat) : Int)
    ·
     refine qa [(0, .yes)] [0, 5, 26, 27] [(28, .bool true)] ([((j3 : Nat) : Int) < ((m99 : Nat) : Int)]) (al1 q103) (ds_ (sq_ (t_ (at_skip (ds_ (sq_ (at_block (sq_ (qa0 [] [0, 5, 26, 27] [(6, .int .i64 ((j3 : Nat)))] (ds_ (sq_ ?_)))))))))))
     have hln107 := hP.len
     obtain ⟨g107, cs107, rfl, rfl, hOw107⟩ := hP.rowOf (i := j3) (by omega)
     obtain ⟨x109, hx109⟩ := get_some (l := (mixV (unl (suchL (isOwn own) l)) (l.filter fun x => !(isOwn own) x) j3)) (m := j3) (by omega)
     refine ao_ (qo 9 [(4, .go (owns 3 0 1)), (6, .at g107 0 j3), (8, .go (ownps 10 (0 + j3 * 5 + 2) [.int .i64 x109.peer]))] [0, 5, 6, 26, 27] [(30, .slice po m co), (38, .int .i64 x109.peer)] ([(some ⟨g107, 0, none⟩ : Option Addr) = some ⟨g107, 0, none⟩, ((j3 : Nat)) = ((j3 : Nat) : Int), j3 < m99] ++ (acellsP cs107 (0 + j3 * 5 + 2) [.int .i64 x109.peer])) (alA (al2 rfl (al2 rfl (al1 (by omega)))) (rda_part ((hOw107.rdx hP.len hx109)) 2 _ rfl)) ?_)
     rcases q111 : decide (x109.peer ∈ (suchL (isOwn own) l)) with _ | _
     ·
      refine cD (.bool false) Try.call27 (fun w hw => by have := contains_d po m co ((suchL (isOwn own) l)) x109.peer w (hOf.atN (A := [_, _, _, _, _, _, _, _, _, _, _]) hw) hOf.len (by omega); rw [q111] at this; exact this) (on_ (ds_ (f_ (at_skip (done_block (ds_ (qa [(0, .fit)] [0, 5, 26] [(27, .int .i64 ((j3 + 1 : Nat)))] ([Fit .i64 ((j3 + 1 : Nat))]) (al1 (fit64 (by omega) (by omega))) ?_)))))))
      exact dr [0, 5, 26, 27] (j3 + 1, [bx g107 cs107 40]) ⟨by omega, by rw [← mix_same hx109 (show unl _ _ = _ from if_neg (of_decide_eq_false q111))]; exact hP⟩
     ·
      refine cD (.bool true) Try.call27 (fun w hw => by have := contains_d po m co ((suchL (isOwn own) l)) x109.peer w (hOf.atN (A := [_, _, _, _, _, _, _, _, _, _, _]) hw) hOf.len (by omega); rw [q111] at this; exact this) (on_ (ds_ (t_ (ma [(3, .go (owns 3 0 1)), (5, .at g107 0 j3), (7, .go (ownps 10 (0 + j3 * 5 + 2) [undef]))] [0, 5, 26, 27] (fun _ => []) (fun _ L => (L.set 10 (bx g107 ((cs107).setIfInBounds (0 + j3 * 5 + 2) (.int .i64 0)) 40))) (fun _ => [(some ⟨g107, 0, none⟩ : Option Addr) = some ⟨g107, 0, none⟩, ((j3 : Nat)) = ((j3 : Nat) : Int), j3 < m99] ++ ([0 + j3 * 5 + 2 < (cs107).size])) (fun _ => (alA (al2 rfl (al2 rfl (al1 (by omega)))) (al1 (hOw107.room hP.len hx109 (f := 2) (by decide))))) (fun _ => done_block (ds_ (qa [(0, .fit)] [0, 5, 26] [(27, .int .i64 ((j3 + 1 : Nat)))] ([Fit .i64 ((j3 + 1 : Nat))]) (al1 (fit64 (by omega) (by omega))) ?_)))))))
      exact dr [0, 5, 26, 27] (j3 + 1, [bx g107 ((cs107).setIfInBounds (0 + j3 * 5 + 2) (.int .i64 0)) 40]) ⟨by omega, by rw [← mix_put hx109 (show unl _ _ = _ from if_pos (of_decide_eq_true q111))]; exact (SlO.ofOwn (hOw107.put (x' := (⟨x109.num, x109.vcpu, 0, x109.pending, x109.masked⟩ : Port)) hP.len hx109 (f := 2) (by decide) rfl) (len_set hP.len))⟩
    ·
     refine qa [(0, .no)] [0, 5, 26, 27] [(28, .bool false)] ([¬ (((j3 : Nat) : Int) < ((m99 : Nat) : Int))]) (al1 q103) (ds_ (sq_ (f_ (at_leave _ rfl (ds_ (sq_ ?_))))))
     have hPf := hP
     rw [mix_end (by omega)] at hPf
     refine qa0 [] [] [(4, .int .i64 ((m : Nat)))] (ds_ (bk ([]) (.int .i64 ((m : Nat))) (mo0 1 [(3, .go (owns 6 0 1))] [] (fun _ => []) (fun _ L => (L.set 6 (bx (γ2 0) (#[.int .i64 ((m : Nat))]) 3))) (fun _ => on_ (ds_ (sq_ (qa0 [] [] [(4, .int .i64 0)] (ds_ (bk ([]) (.int .i64 0) (qo0 1 [] [4, 7] [(8, .int .i64 0)] (on_ (ds_ (sq_ (qa0 [] [4, 7, 8] [(22, .bool false)] (ds_ (f_ (at_skip (ds_ (sq_ (ma0 [(0, .go (owns 3 0 1)), (1, .go (owns 4 0 1))] [4] (fun _ => [(5, .int .i64 0)]) (fun _ L => (L.set 4 (bx (γ4 1) (#[.slice q99 m99 cq99]) 24))) (fun _ => ds_ (bk (owns 4 0 1) (.tuple #[.agg #[.slice q99 m99 cq99], .int .i64 0]) (mo0 6 [(7, .go (owns 0 0 1))] [4, 7] (fun γ124 => [(8, .pointer (some ⟨γ124 0, 0, none⟩)), (9, .int .i64 0)]) (fun γ124 L => bx (γ124 0) (#[.slice q99 m99 cq99]) 24 :: L) (fun γ124 => on_ (ds_ (sq_ ?_))))))))))))))))))))))))))
     refine at_any (by kernel_rfl) ?_
     refine tk (m := 5) [2] [] [4, 7, 8] [(18, .int .i64 0)] ([]) #[false, false, true, false, false, false] al0 ?_
     refine any_cut 0 #[true, true, true, true, true, true] ([(4, .pointer (some ⟨γ1 2, 0, none⟩)), (5, .int .i64 ((m : Nat))), (6, .int .i64 0)]) (bx (γ124 0) (#[.slice q99 m99 cq99]) 24 :: bx (γ68 0) (#[.slice po m co]) 28 :: bx (γ64 1) (#[.func (.func 66) #[] #[.pointer (some ⟨γ1 1, 0, none⟩)]]) 73 :: bx (γ64 0) (#[.slice q31 n cq31]) 24 :: bx (γ32 0) (#[.slice q99 m99 cq99]) 24 :: bx (γ4 1) (#[.slice q99 m99 cq99]) 24 :: bx (γ4 0) (#[.slice p n cap]) 24 :: bx (γ2 0) (#[.int .i64 ((m : Nat))]) 3 :: bx (γ1 2) (#[.slice q99 m99 cq99]) 24 :: bx (γ1 1) (#[.int .i64 own]) 3 :: bx (γ1 0) (#[.slice p n cap]) 24 :: (Yp ++ (Yo ++ []))) ?_ (fun hm => ?_)
     rotate_left
     ·
      refine any_fork [0, 1] (by kernel_rfl) (by simp) (each_cons _ rfl ?_ (each_cons _ rfl ?_ (each_nil)))
      ·
       refine qo0 1 [(0, .go (owns 0 0 1))] [4, 7, 18] [(16, .agg #[.slice q99 m99 cq99])] ?_
       refine od_ ?_
       refine any_fork [1, 3] (by kernel_rfl) (by simp) (each_cons _ rfl ?_ (each_cons _ rfl ?_ (each_nil)))
       ·
        refine qo0 1 [(1, .go (owns 7 0 1))] [4, 16, 18] [(17, .int .i64 ((m : Nat)))] ?_
        refine od_ ?_
        refine a1 3 rfl ?_
        refine mo0 1 [(3, .go (owns 8 0 1))] [4, 17, 18] (fun _ => []) (fun _ L => (L.set 8 (bx (γ1 2) (#[.slice q99 m99 cq99]) 24))) (fun _ => ?_)
        refine od_ ?_
        refine tk (m := 0) [4, 5] [] [4] [(5, .int .i64 ((m : Nat))), (6, .int .i64 0)] ([]) #[true, true, true, true, true, true] al0 ?_
        exact any_weak hm [4, 5, 6] (by kernel_rfl) rfl rfl rfl
       ·
        refine mo0 1 [(3, .go (owns 8 0 1))] [4, 7, 18] (fun _ => []) (fun _ L => (L.set 8 (bx (γ1 2) (#[.slice q99 m99 cq99]) 24))) (fun _ => ?_)
        refine od_ ?_
        refine a1 1 rfl ?_
        refine qo0 1 [(1, .go (owns 7 0 1))] [4, 18] [(17, .int .i64 ((m : Nat)))] ?_
        refine od_ ?_
        refine tk (m := 0) [4, 5] [] [4] [(5, .int .i64 ((m : Nat))), (6, .int .i64 0)] ([]) #[true, true, true, true, true, true] al0 ?_
        exact any_weak hm [4, 5, 6] (by kernel_rfl) rfl rfl rfl
      ·
       refine qo0 1 [(1, .go (owns 7 0 1))] [4, 8, 18] [(17, .int .i64 ((m : Nat)))] ?_
       refine od_ ?_
       refine a1 0 rfl ?_
       refine qo0 1 [(0, .go (owns 0 0 1))] [4, 17, 18] [(16, .agg #[.slice q99 m99 cq99])] ?_
       refine od_ ?_
       refine a1 3 rfl ?_
       refine mo0 1 [(3, .go (owns 8 0 1))] [4, 17, 18] (fun _ => []) (fun _ L => (L.set 8 (bx (γ1 2) (#[.slice q99 m99 cq99]) 24))) (fun _ => ?_)
       refine od_ ?_
       refine tk (m := 0) [4, 5] [] [4] [(5, .int .i64 ((m : Nat))), (6, .int .i64 0)] ([]) #[true, true, true, true, true, true] al0 ?_
       exact any_weak hm [4, 5, 6] (by kernel_rfl) rfl rfl rfl
     refine any_nil (by kernel_rfl) ?_
     refine ds_ (rt (owns 8 0 1) (.tuple #[.agg #[.slice q99 m99 cq99], .int .i64 ((m : Nat)), .int .i64 0]) ?_)
     exact fun w' hw => by rw [dropV_ok q6 q36 hlo]; exact ⟨_, _, _, _, rfl, hPf, hw.below, (hs_nil (Hs.pick [[bx (γ124 0) (#[.slice q99 m99 cq99]) 24], [bx (γ68 0) (#[.slice po m co]) 28], [bx (γ64 1) (#[.func (.func 66) #[] #[.pointer (some ⟨γ1 1, 0, none⟩)]]) 73], [bx (γ64 0) (#[.slice q31 n cq31]) 24], [bx (γ32 0) (#[.slice q99 m99 cq99]) 24], [bx (γ4 1) (#[.slice q99 m99 cq99]) 24], [bx (γ4 0) (#[.slice p n cap]) 24], [bx (γ2 0) (#[.int .i64 ((m : Nat))]) 3], [bx (γ1 2) (#[.slice q99 m99 cq99]) 24], [bx (γ1 1) (#[.int .i64 own]) 3], [bx (γ1 0) (#[.slice p n cap]) 24], Yp, Yo] [11] [0, 1, 2, 3, 4, 5, 6, 7, 8, 9, 10, 12] (by kernel_rfl) hw))⟩
end Go.Proofs.Ytfhlmijdokfdpaa

/-! event.Clear. -/
namespace Go.Proofs.Ytfhlmijdokfdpaa
open Go Go.RowKit

set_option maxRecDepth 100000 in
theorem clear_d (p : Option Addr) (n cap : Nat) (l : List Port) (k : Int) (w : World)
 (hsl : Sv w p l) (hn : n = l.length) (hb : n ≤ 1000)
 : Calls Try.prog 23 #[.agg #[.slice p n cap], .int .i64 k] w fun e w' => ∃ q m capq Y, e = .returned (.tuple #[.agg #[.slice q m capq], .bool (clearV l k).2.1, .int .i64 (clearV l k).2.2]) ∧ SlO 40 Y q m capq (clearV l k).1 ∧ Below w.heap.size w w' ∧ Hs w Y w' := by
 refine enter (Hs.start w) Try.func23 rfl Try.ntmps23 rfl (sq_ (ma0 [] [1] (fun γ1 => [(2, .pointer (some ⟨γ1 0, 0, none⟩)), (4, .pointer (some ⟨γ1 1, 0, none⟩))]) (fun γ1 L => bx (γ1 1) (#[.slice none 0 0]) 24 :: bx (γ1 0) (#[.slice p n cap]) 24 :: L) (fun γ1 => ds_ (sq_ (ma0 [(1, .go (owns 0 0 1))] [1, 2, 4] (fun γ2 => [(7, .pointer (some ⟨γ2 0, 0, none⟩))]) (fun γ2 L => bx (γ2 0) (#[.bool false]) 4 :: L) (fun γ2 => ds_ (sq_ (ao_ (qo0 3 [(0, .go (owns 2 0 1))] [4, 7] [(12, .agg #[.slice p n cap]), (13, .int .i64 k), (14, .func (.func 41) #[] #[.pointer (some ⟨γ2 0, 0, none⟩)])] (ops_inline (g := 40) (args := #[.agg #[.slice p n cap], .int .i64 k, .func (.func 41) #[] #[.pointer (some ⟨γ2 0, 0, none⟩)]]) (by kernel_rfl) (by kernel_rfl) (by kernel_rfl) (fun args w => Try.call40 args w) Try.func40 rfl Try.ntmps40 rfl (sq_ (ma0 [] [] (fun γ4 => [(3, .pointer (some ⟨γ4 0, 0, none⟩)), (4, .pointer (some ⟨γ4 1, 0, none⟩)), (5, .pointer (some ⟨γ4 2, 0, none⟩)), (6, .pointer (some ⟨γ4 3, 0, none⟩))]) (fun γ4 L => bx (γ4 3) (#[.slice none 0 0]) 24 :: bx (γ4 2) (#[.func (.func 41) #[] #[.pointer (some ⟨γ2 0, 0, none⟩)]]) 75 :: bx (γ4 1) (#[.int .i64 k]) 3 :: bx (γ4 0) (#[.slice p n cap]) 24 :: L) (fun γ4 => ds_ (sq_ (ma0 [(1, .go (owns 0 0 1))] [3, 4, 5, 6] (fun γ5 => [(9, .pointer (some ⟨γ5 0, 0, none⟩))]) (fun γ5 L => bx (γ5 0) (#[.int .i64 0]) 3 :: L) (fun γ5 => ds_ (sq_ (ao_ (qo0 2 [(0, .go (owns 4 0 1))] [6, 9] [(13, .agg #[.slice p n cap]), (14, .func (.func 61) #[] #[.pointer (some ⟨γ4 1, 0, none⟩), .pointer (some ⟨γ4 2, 0, none⟩), .pointer (some ⟨γ4 0, 0, none⟩), .pointer (some ⟨γ5 0, 0, none⟩)])] (ops_inline (g := 54) (args := #[.agg #[.slice p n cap], .func (.func 61) #[] #[.pointer (some ⟨γ4 1, 0, none⟩), .pointer (some ⟨γ4 2, 0, none⟩), .pointer (some ⟨γ4 0, 0, none⟩), .pointer (some ⟨γ5 0, 0, none⟩)]]) (by kernel_rfl) (by kernel_rfl) (by kernel_rfl) (fun args w => Try.call54 args w) Try.func54 rfl Try.ntmps54 rfl (sq_ (ma0 [] [1] (fun γ7 => [(2, .pointer (some ⟨γ7 0, 0, none⟩)), (4, .pointer (some ⟨γ7 1, 0, none⟩))]) (fun γ7 L => bx (γ7 1) (#[.slice none 0 0]) 24 :: bx (γ7 0) (#[.slice p n cap]) 24 :: L) (fun γ7 => ds_ (sq_ (sq_ (ao_ (qo0 1 [(0, .go (owns 1 0 1))] [1, 2, 4] [(9, .agg #[.slice p n cap])] ?_)))))))))))))))))))))))))))
 rcases q9 : rightB l with _ | _
 ·
  refine cD (.int .i64 260) Try.call16 (fun w hw => by have := check_d p n cap l w (hsl.kept hw.below) hn hb; rw [q9] at this; exact this) (qo0 1 [] [1, 2, 4] [(6, .int .i64 260)] (on_ (ds_ (sq_ (qa0 [] [1, 2, 4, 6] [(12, .bool true)] (ds_ (t_ (sq_ (qa0 [(2, .go (owns 0 0 1))] [4] [(5, .int .i64 260)] (ds_ (bk (owns 0 0 1) (.tuple #[.agg #[.slice none 0 0], .int .i64 260]) (mo0 6 [(7, .go (owns 0 0 1))] [6, 9] (fun γ13 => [(10, .pointer (some ⟨γ13 0, 0, none⟩)), (11, .int .i64 260)]) (fun γ13 L => bx (γ13 0) (#[.slice none 0 0]) 24 :: L) (fun γ13 => on_ (ds_ (sq_ ?_)))))))))))))))
  refine at_any (by kernel_rfl) ?_
  refine tk (m := 5) [2] [] [6, 9, 10] [(20, .int .i64 260)] ([]) #[false, false, true, false, false, false] al0 ?_
  refine any_cut 0 #[true, true, true, true, true, true] ([(6, .pointer (some ⟨γ4 3, 0, none⟩)), (7, .int .i64 0), (8, .int .i64 260)]) ([bx (γ13 0) (#[.slice none 0 0]) 24, bx (γ7 1) (#[.slice none 0 0]) 24, bx (γ7 0) (#[.slice p n cap]) 24, bx (γ5 0) (#[.int .i64 0]) 3, bx (γ4 3) (#[.slice none 0 0]) 24, bx (γ4 2) (#[.func (.func 41) #[] #[.pointer (some ⟨γ2 0, 0, none⟩)]]) 75, bx (γ4 1) (#[.int .i64 k]) 3, bx (γ4 0) (#[.slice p n cap]) 24, bx (γ2 0) (#[.bool false]) 4, bx (γ1 1) (#[.slice none 0 0]) 24, bx (γ1 0) (#[.slice p n cap]) 24]) ?_ (fun hm => ?_)
  rotate_left
  ·
   refine any_fork [0, 1] (by kernel_rfl) (by simp) (each_cons _ rfl ?_ (each_cons _ rfl ?_ (each_nil)))
   ·
    refine qo0 1 [(0, .go (owns 0 0 1))] [6, 9, 20] [(18, .agg #[.slice none 0 0])] ?_
    refine od_ ?_
    refine any_fork [1, 3] (by kernel_rfl) (by simp) (each_cons _ rfl ?_ (each_cons _ rfl ?_ (each_nil)))
    ·
     refine qo0 1 [(1, .go (owns 3 0 1))] [6, 18, 20] [(19, .int .i64 0)] ?_
     refine od_ ?_
     refine a1 3 rfl ?_
     refine qo0 1 [(3, .go (owns 4 0 1))] [6, 19, 20] [] ?_
     refine od_ ?_
     refine tk (m := 0) [4, 5] [] [6] [(7, .int .i64 0), (8, .int .i64 260)] ([]) #[true, true, true, true, true, true] al0 ?_
     exact any_weak hm [6, 7, 8] (by kernel_rfl) rfl rfl rfl
    ·
     refine qo0 1 [(3, .go (owns 4 0 1))] [6, 9, 20] [] ?_
     refine od_ ?_
     refine a1 1 rfl ?_
     refine qo0 1 [(1, .go (owns 3 0 1))] [6, 20] [(19, .int .i64 0)] ?_
     refine od_ ?_
     refine tk (m := 0) [4, 5] [] [6] [(7, .int .i64 0), (8, .int .i64 260)] ([]) #[true, true, true, true, true, true] al0 ?_
     exact any_weak hm [6, 7, 8] (by kernel_rfl) rfl rfl rfl
   ·
    refine qo0 1 [(1, .go (owns 3 0 1))] [6, 10, 20] [(19, .int .i64 0)] ?_
    refine od_ ?_
    refine a1 0 rfl ?_
    refine qo0 1 [(0, .go (owns 0 0 1))] [6, 19, 20] [(18, .agg #[.slice none 0 0])] ?_
    refine od_ ?_
    refine a1 3 rfl ?_
    refine qo0 1 [(3, .go (owns 4 0 1))] [6, 19, 20] [] ?_
    refine od_ ?_
    refine tk (m := 0) [4, 5] [] [6] [(7, .int .i64 0), (8, .int .i64 260)] ([]) #[true, true, true, true, true, true] al0 ?_
    exact any_weak hm [6, 7, 8] (by kernel_rfl) rfl rfl rfl
  refine any_nil (by kernel_rfl) ?_
  refine ds_ (bk (owns 4 0 1) (.tuple #[.agg #[.slice none 0 0], .int .i64 0, .int .i64 260]) (mo0 8 [(9, .go (owns 0 0 1))] [4, 7] (fun γ31 => [(8, .pointer (some ⟨γ31 0, 0, none⟩)), (10, .int .i64 260)]) (fun γ31 L => bx (γ31 0) (#[.slice none 0 0]) 24 :: L) (fun γ31 => on_ (ds_ (sq_ ?_)))))
  refine at_any (by kernel_rfl) ?_
  refine tk (m := 5) [2] [] [4, 7, 8] [(21, .int .i64 260)] ([]) #[false, false, true, false, false, false] al0 ?_
  refine any_cut 0 #[true, true, true, true, true, true] ([(4, .pointer (some ⟨γ1 1, 0, none⟩)), (5, .bool false), (6, .int .i64 260)]) ([bx (γ31 0) (#[.slice none 0 0]) 24, bx (γ13 0) (#[.slice none 0 0]) 24, bx (γ7 1) (#[.slice none 0 0]) 24, bx (γ7 0) (#[.slice p n cap]) 24, bx (γ5 0) (#[.int .i64 0]) 3, bx (γ4 3) (#[.slice none 0 0]) 24, bx (γ4 2) (#[.func (.func 41) #[] #[.pointer (some ⟨γ2 0, 0, none⟩)]]) 75, bx (γ4 1) (#[.int .i64 k]) 3, bx (γ4 0) (#[.slice p n cap]) 24, bx (γ2 0) (#[.bool false]) 4, bx (γ1 1) (#[.slice none 0 0]) 24, bx (γ1 0) (#[.slice p n cap]) 24]) ?_ (fun hm => ?_)
  rotate_left
  ·
   refine any_fork [0, 1] (by kernel_rfl) (by simp) (each_cons _ rfl ?_ (each_cons _ rfl ?_ (each_nil)))
   ·
    refine qo0 1 [(0, .go (owns 0 0 1))] [4, 7, 21] [(19, .agg #[.slice none 0 0])] ?_
    refine od_ ?_
    refine any_fork [1, 3] (by kernel_rfl) (by simp) (each_cons _ rfl ?_ (each_cons _ rfl ?_ (each_nil)))
    ·
     refine qo0 1 [(1, .go (owns 9 0 1))] [4, 19, 21] [(20, .bool false)] ?_
     refine od_ ?_
     refine a1 3 rfl ?_
     refine qo0 1 [(3, .go (owns 10 0 1))] [4, 20, 21] [] ?_
     refine od_ ?_
     refine tk (m := 0) [4, 5] [] [4] [(5, .bool false), (6, .int .i64 260)] ([]) #[true, true, true, true, true, true] al0 ?_
     exact any_weak hm [4, 5, 6] (by kernel_rfl) rfl rfl rfl
    ·
     refine qo0 1 [(3, .go (owns 10 0 1))] [4, 7, 21] [] ?_
     refine od_ ?_
     refine a1 1 rfl ?_
     refine qo0 1 [(1, .go (owns 9 0 1))] [4, 21] [(20, .bool false)] ?_
     refine od_ ?_
     refine tk (m := 0) [4, 5] [] [4] [(5, .bool false), (6, .int .i64 260)] ([]) #[true, true, true, true, true, true] al0 ?_
     exact any_weak hm [4, 5, 6] (by kernel_rfl) rfl rfl rfl
   ·
    refine qo0 1 [(1, .go (owns 9 0 1))] [4, 8, 21] [(20, .bool false)] ?_
    refine od_ ?_
    refine a1 0 rfl ?_
    refine qo0 1 [(0, .go (owns 0 0 1))] [4, 20, 21] [(19, .agg #[.slice none 0 0])] ?_
    refine od_ ?_
    refine a1 3 rfl ?_
    refine qo0 1 [(3, .go (owns 10 0 1))] [4, 20, 21] [] ?_
    refine od_ ?_
    refine tk (m := 0) [4, 5] [] [4] [(5, .bool false), (6, .int .i64 260)] ([]) #[true, true, true, true, true, true] al0 ?_
    exact any_weak hm [4, 5, 6] (by kernel_rfl) rfl rfl rfl
  refine any_nil (by kernel_rfl) ?_
  refine ds_ (rt (owns 10 0 1) (.tuple #[.agg #[.slice none 0 0], .bool false, .int .i64 260]) ?_)
  exact fun w' hw => by rw [clearV_bad q9]; exact ⟨none, 0, 0, [], rfl, SlO.nil, hw.below, hw.sub (List.nil_sublist _)⟩
 ·
  refine cD (.int .i64 0) Try.call16 (fun w hw => by have := check_d p n cap l w (hsl.kept hw.below) hn hb; rw [q9] at this; exact this) (qo0 1 [] [1, 2, 4] [(6, .int .i64 0)] (on_ (ds_ (sq_ (qa0 [] [1, 2, 4, 6] [(12, .bool false)] (ds_ (f_ (at_skip (ds_ (sq_ (ao_ (qo0 2 [(1, .go (owns 1 0 1))] [1, 4] [(16, .slice p n cap)] (cP (fun v L' => ∃ q capq Y, v = .slice q n capq ∧ L' = List.take 10 ([bx (γ7 1) (#[.slice none 0 0]) 24, bx (γ7 0) (#[.slice p n cap]) 24, bx (γ5 0) (#[.int .i64 0]) 3, bx (γ4 3) (#[.slice none 0 0]) 24, bx (γ4 2) (#[.func (.func 41) #[] #[.pointer (some ⟨γ2 0, 0, none⟩)]]) 75, bx (γ4 1) (#[.int .i64 k]) 3, bx (γ4 0) (#[.slice p n cap]) 24, bx (γ2 0) (#[.bool false]) 4, bx (γ1 1) (#[.slice none 0 0]) 24, bx (γ1 0) (#[.slice p n cap]) 24]) ++ (Y ++ List.drop 10 ([bx (γ7 1) (#[.slice none 0 0]) 24, bx (γ7 0) (#[.slice p n cap]) 24, bx (γ5 0) (#[.int .i64 0]) 3, bx (γ4 3) (#[.slice none 0 0]) 24, bx (γ4 2) (#[.func (.func 41) #[] #[.pointer (some ⟨γ2 0, 0, none⟩)]]) 75, bx (γ4 1) (#[.int .i64 k]) 3, bx (γ4 0) (#[.slice p n cap]) 24, bx (γ2 0) (#[.bool false]) 4, bx (γ1 1) (#[.slice none 0 0]) 24, bx (γ1 0) (#[.slice p n cap]) 24])) ∧ SlO 40 Y q n capq l) Try.call72 (fun w hw => (clone_d p n cap l w (hsl.kept hw.below) hn (by omega)).mono fun e w' ⟨q, capq, Y, he, hO, hb, hY⟩ => ⟨_, _, he, ⟨q, capq, Y, rfl, rfl, hO⟩, hw.join hb hY 10⟩) ?_)))))))))))))
  rintro v52 L52 ⟨q52, cq52, Y52, rfl, rfl, hO52⟩
  have hnq52 := hO52.len
  rcases hO52.parts with ⟨rfl, rfl, hz52⟩ | ⟨g52, cs52, rfl, rfl, hOw52⟩
  ·
   refine mo0 3 [(5, .go (owns 0 0 1))] [1, 4] (fun γ53 => [(7, .pointer (some ⟨γ53 0, 0, none⟩))]) (fun γ53 L => bx (γ53 0) (#[.slice none n cq52]) 24 :: L) (fun γ53 => on_ (ds_ (sq_ (sq_ (ao_ (qo0 1 [] [4, 7] [(19, .func (.func 61) #[] #[.pointer (some ⟨γ4 1, 0, none⟩), .pointer (some ⟨γ4 2, 0, none⟩), .pointer (some ⟨γ4 0, 0, none⟩), .pointer (some ⟨γ5 0, 0, none⟩)])] (ops_inline (g := 61) (args := #[.pointer (some ⟨γ53 0, 0, none⟩), .pointer (some ⟨γ4 1, 0, none⟩), .pointer (some ⟨γ4 2, 0, none⟩), .pointer (some ⟨γ4 0, 0, none⟩), .pointer (some ⟨γ5 0, 0, none⟩)]) (by kernel_rfl) (by kernel_rfl) (by kernel_rfl) (fun args w => Try.call61 args w) Try.func61 rfl Try.ntmps61 rfl (sq_ (qa0 [] [0, 1, 2, 3, 4] [] (ds_ (sq_ ?_)))))))))))
   refine at_calm rfl (by kernel_rfl) (by kernel_rfl) ?_
   refine cm 5 [(3, .go (owns 0 0 1)), (4, .go (owns 6 0 1))] [0, 2, 3, 4] [(14, .slice none n cq52), (15, .int .i64 k)] ([]) (by kernel_rfl) rfl al0 ?_
   rcases hg57 : getB l k with _ | y57
   ·
    refine cK (.pointer none) Try.call32 (fun w hw => by have := port_d none n cq52 l k w (hO52.atN (A := []) hw) hnq52 (by omega) (ris_all (right_ris q9)) (ris_asc l 0 (right_ris q9)); rw [portV_none hg57] at this; exact this) ?_
    refine cm 1 [] [0, 2, 3, 4] [(7, .pointer none)] ([]) (by kernel_rfl) rfl al0 ?_
    refine calm_nil' ?_
    refine ds_ (sq_ (sq_ (qa0 [] [0, 2, 3, 4, 7] [(18, .bool true)] (ds_ (t_ (sq_ (qa0 [] [] [(6, .int .i64 4)] (ds_ (bk ([]) (.int .i64 4) (qo0 1 [] [4, 7] [(8, .int .i64 4)] (on_ (ds_ (sq_ (qa0 [] [4, 7, 8] [(22, .bool true)] (ds_ (t_ (sq_ (qa0 [(2, .go (owns 1 0 1))] [4] [(5, .int .i64 4)] (ds_ (bk (owns 1 0 1) (.tuple #[.agg #[.slice none 0 0], .int .i64 4]) (mo0 6 [(7, .go (owns 0 0 1))] [6, 9] (fun γ64 => [(10, .pointer (some ⟨γ64 0, 0, none⟩)), (11, .int .i64 4)]) (fun γ64 L => bx (γ64 0) (#[.slice none 0 0]) 24 :: L) (fun γ64 => on_ (ds_ (sq_ ?_))))))))))))))))))))))))
    refine at_any (by kernel_rfl) ?_
    refine tk (m := 5) [2] [] [6, 9, 10] [(20, .int .i64 4)] ([]) #[false, false, true, false, false, false] al0 ?_
    refine any_cut 0 #[true, true, true, true, true, true] ([(6, .pointer (some ⟨γ4 3, 0, none⟩)), (7, .int .i64 0), (8, .int .i64 4)]) ([bx (γ64 0) (#[.slice none 0 0]) 24, bx (γ53 0) (#[.slice none n cq52]) 24, bx (γ7 1) (#[.slice none 0 0]) 24, bx (γ7 0) (#[.slice p n cap]) 24, bx (γ5 0) (#[.int .i64 0]) 3, bx (γ4 3) (#[.slice none 0 0]) 24, bx (γ4 2) (#[.func (.func 41) #[] #[.pointer (some ⟨γ2 0, 0, none⟩)]]) 75, bx (γ4 1) (#[.int .i64 k]) 3, bx (γ4 0) (#[.slice p n cap]) 24, bx (γ2 0) (#[.bool false]) 4, bx (γ1 1) (#[.slice none 0 0]) 24, bx (γ1 0) (#[.slice p n cap]) 24]) ?_ (fun hm => ?_)
    rotate_left
    ·
     refine any_fork [0, 1] (by kernel_rfl) (by simp) (each_cons _ rfl ?_ (each_cons _ rfl ?_ (each_nil)))
     ·
      refine qo0 1 [(0, .go (owns 0 0 1))] [6, 9, 20] [(18, .agg #[.slice none 0 0])] ?_
      refine od_ ?_
      refine any_fork [1, 3] (by kernel_rfl) (by simp) (each_cons _ rfl ?_ (each_cons _ rfl ?_ (each_nil)))
      ·
       refine qo0 1 [(1, .go (owns 4 0 1))] [6, 18, 20] [(19, .int .i64 0)] ?_
       refine od_ ?_
       refine a1 3 rfl ?_
       refine qo0 1 [(3, .go (owns 5 0 1))] [6, 19, 20] [] ?_
       refine od_ ?_
       refine tk (m := 0) [4, 5] [] [6] [(7, .int .i64 0), (8, .int .i64 4)] ([]) #[true, true, true, true, true, true] al0 ?_
       exact any_weak hm [6, 7, 8] (by kernel_rfl) rfl rfl rfl
      ·
       refine qo0 1 [(3, .go (owns 5 0 1))] [6, 9, 20] [] ?_
       refine od_ ?_
       refine a1 1 rfl ?_
       refine qo0 1 [(1, .go (owns 4 0 1))] [6, 20] [(19, .int .i64 0)] ?_
       refine od_ ?_
       refine tk (m := 0) [4, 5] [] [6] [(7, .int .i64 0), (8, .int .i64 4)] ([]) #[true, true, true, true, true, true] al0 ?_
       exact any_weak hm [6, 7, 8] (by kernel_rfl) rfl rfl rfl
     ·
      refine qo0 1 [(1, .go (owns 4 0 1))] [6, 10, 20] [(19, .int .i64 0)] ?_
      refine od_ ?_
      refine a1 0 rfl ?_
      refine qo0 1 [(0, .go (owns 0 0 1))] [6, 19, 20] [(18, .agg #[.slice none 0 0])] ?_
      refine od_ ?_
      refine a1 3 rfl ?_
      refine qo0 1 [(3, .go (owns 5 0 1))] [6, 19, 20] [] ?_
      refine od_ ?_
      refine tk (m := 0) [4, 5] [] [6] [(7, .int .i64 0), (8, .int .i64 4)] ([]) #[true, true, true, true, true, true] al0 ?_
      exact any_weak hm [6, 7, 8] (by kernel_rfl) rfl rfl rfl
    refine any_nil (by kernel_rfl) ?_
    refine ds_ (bk (owns 5 0 1) (.tuple #[.agg #[.slice none 0 0], .int .i64 0, .int .i64 4]) (mo0 8 [(9, .go (owns 0 0 1))] [4, 7] (fun γ82 => [(8, .pointer (some ⟨γ82 0, 0, none⟩)), (10, .int .i64 4)]) (fun γ82 L => bx (γ82 0) (#[.slice none 0 0]) 24 :: L) (fun γ82 => on_ (ds_ (sq_ ?_)))))
    refine at_any (by kernel_rfl) ?_
    refine tk (m := 5) [2] [] [4, 7, 8] [(21, .int .i64 4)] ([]) #[false, false, true, false, false, false] al0 ?_
    refine any_cut 0 #[true, true, true, true, true, true] ([(4, .pointer (some ⟨γ1 1, 0, none⟩)), (5, .bool false), (6, .int .i64 4)]) ([bx (γ82 0) (#[.slice none 0 0]) 24, bx (γ64 0) (#[.slice none 0 0]) 24, bx (γ53 0) (#[.slice none n cq52]) 24, bx (γ7 1) (#[.slice none 0 0]) 24, bx (γ7 0) (#[.slice p n cap]) 24, bx (γ5 0) (#[.int .i64 0]) 3, bx (γ4 3) (#[.slice none 0 0]) 24, bx (γ4 2) (#[.func (.func 41) #[] #[.pointer (some ⟨γ2 0, 0, none⟩)]]) 75, bx (γ4 1) (#[.int .i64 k]) 3, bx (γ4 0) (#[.slice p n cap]) 24, bx (γ2 0) (#[.bool false]) 4, bx (γ1 1) (#[.slice none 0 0]) 24, bx (γ1 0) (#[.slice p n cap]) 24]) ?_ (fun hm => ?_)
    rotate_left
    ·
     refine any_fork [0, 1] (by kernel_rfl) (by simp) (each_cons _ rfl ?_ (each_cons _ rfl ?_ (each_nil)))
     ·
      refine qo0 1 [(0, .go (owns 0 0 1))] [4, 7, 21] [(19, .agg #[.slice none 0 0])] ?_
      refine od_ ?_
      refine any_fork [1, 3] (by kernel_rfl) (by simp) (each_cons _ rfl ?_ (each_cons _ rfl ?_ (each_nil)))
      ·
       refine qo0 1 [(1, .go (owns 10 0 1))] [4, 19, 21] [(20, .bool false)] ?_
       refine od_ ?_
       refine a1 3 rfl ?_
       refine qo0 1 [(3, .go (owns 11 0 1))] [4, 20, 21] [] ?_
       refine od_ ?_
       refine tk (m := 0) [4, 5] [] [4] [(5, .bool false), (6, .int .i64 4)] ([]) #[true, true, true, true, true, true] al0 ?_
       exact any_weak hm [4, 5, 6] (by kernel_rfl) rfl rfl rfl
      ·
       refine qo0 1 [(3, .go (owns 11 0 1))] [4, 7, 21] [] ?_
       refine od_ ?_
       refine a1 1 rfl ?_
       refine qo0 1 [(1, .go (owns 10 0 1))] [4, 21] [(20, .bool false)] ?_
       refine od_ ?_
       refine tk (m := 0) [4, 5] [] [4] [(5, .bool false), (6, .int .i64 4)] ([]) #[true, true, true, true, true, true] al0 ?_
       exact any_weak hm [4, 5, 6] (by kernel_rfl) rfl rfl rfl
     ·
      refine qo0 1 [(1, .go (owns 10 0 1))] [4, 8, 21] [(20, .bool false)] ?_
      refine od_ ?_
      refine a1 0 rfl ?_
      refine qo0 1 [(0, .go (owns 0 0 1))] [4, 20, 21] [(19, .agg #[.slice none 0 0])] ?_
      refine od_ ?_
      refine a1 3 rfl ?_
      refine qo0 1 [(3, .go (owns 11 0 1))] [4, 20, 21] [] ?_
      refine od_ ?_
      refine tk (m := 0) [4, 5] [] [4] [(5, .bool false), (6, .int .i64 4)] ([]) #[true, true, true, true, true, true] al0 ?_
      exact any_weak hm [4, 5, 6] (by kernel_rfl) rfl rfl rfl
    refine any_nil (by kernel_rfl) ?_
    refine ds_ (rt (owns 11 0 1) (.tuple #[.agg #[.slice none 0 0], .bool false, .int .i64 4]) ?_)
    exact fun w' hw => by rw [clearV_none q9 hg57]; exact ⟨none, 0, 0, [], rfl, SlO.nil, hw.below, hw.sub (List.nil_sublist _)⟩
   ·
    have hy57 := (get_pos (ris_asc l 0 (right_ris q9)) hg57).1
    exact absurd (List.getElem?_eq_some_iff.1 hy57).1 (by omega)
  ·
   refine mo0 3 [(5, .go (owns 0 0 1))] [1, 4] (fun γ101 => [(7, .pointer (some ⟨γ101 0, 0, none⟩))]) (fun γ101 L => bx (γ101 0) (#[.slice (some ⟨g52, 0, none⟩) n cq52]) 24 :: L) (fun γ101 => on_ (ds_ (sq_ (sq_ (ao_ (qo0 1 [] [4, 7] [(19, .func (.func 61) #[] #[.pointer (some ⟨γ4 1, 0, none⟩), .pointer (some ⟨γ4 2, 0, none⟩), .pointer (some ⟨γ4 0, 0, none⟩), .pointer (some ⟨γ5 0, 0, none⟩)])] (ops_inline (g := 61) (args := #[.pointer (some ⟨γ101 0, 0, none⟩), .pointer (some ⟨γ4 1, 0, none⟩), .pointer (some ⟨γ4 2, 0, none⟩), .pointer (some ⟨γ4 0, 0, none⟩), .pointer (some ⟨γ5 0, 0, none⟩)]) (by kernel_rfl) (by kernel_rfl) (by kernel_rfl) (fun args w => Try.call61 args w) Try.func61 rfl Try.ntmps61 rfl (sq_ (qa0 [] [0, 1, 2, 3, 4] [] (ds_ (sq_ ?_)))))))))))
   refine at_calm rfl (by kernel_rfl) (by kernel_rfl) ?_
   refine cm 5 [(3, .go (owns 0 0 1)), (4, .go (owns 6 0 1))] [0, 2, 3, 4] [(14, .slice (some ⟨g52, 0, none⟩) n cq52), (15, .int .i64 k)] ([]) (by kernel_rfl) rfl al0 ?_
   rcases hg105 : getB l k with _ | y105
   ·
    refine cK (.pointer none) Try.call32 (fun w hw => by have := port_d (some ⟨g52, 0, none⟩) n cq52 l k w (hO52.atN (A := [_, _, _, _, _, _, _, _, _, _, _]) hw) hnq52 (by omega) (ris_all (right_ris q9)) (ris_asc l 0 (right_ris q9)); rw [portV_none hg105] at this; exact this) ?_
    refine cm 1 [] [0, 2, 3, 4] [(7, .pointer none)] ([]) (by kernel_rfl) rfl al0 ?_
    refine calm_nil' ?_
    refine ds_ (sq_ (sq_ (qa0 [] [0, 2, 3, 4, 7] [(18, .bool true)] (ds_ (t_ (sq_ (qa0 [] [] [(6, .int .i64 4)] (ds_ (bk ([]) (.int .i64 4) (qo0 1 [] [4, 7] [(8, .int .i64 4)] (on_ (ds_ (sq_ (qa0 [] [4, 7, 8] [(22, .bool true)] (ds_ (t_ (sq_ (qa0 [(2, .go (owns 1 0 1))] [4] [(5, .int .i64 4)] (ds_ (bk (owns 1 0 1) (.tuple #[.agg #[.slice none 0 0], .int .i64 4]) (mo0 6 [(7, .go (owns 0 0 1))] [6, 9] (fun γ112 => [(10, .pointer (some ⟨γ112 0, 0, none⟩)), (11, .int .i64 4)]) (fun γ112 L => bx (γ112 0) (#[.slice none 0 0]) 24 :: L) (fun γ112 => on_ (ds_ (sq_ ?_))))))))))))))))))))))))
    refine at_any (by kernel_rfl) ?_
    refine tk (m := 5) [2] [] [6, 9, 10] [(20, .int .i64 4)] ([]) #[false, false, true, false, false, false] al0 ?_
    refine any_cut 0 #[true, true, true, true, true, true] ([(6, .pointer (some ⟨γ4 3, 0, none⟩)), (7, .int .i64 0), (8, .int .i64 4)]) ([bx (γ112 0) (#[.slice none 0 0]) 24, bx (γ101 0) (#[.slice (some ⟨g52, 0, none⟩) n cq52]) 24, bx (γ7 1) (#[.slice none 0 0]) 24, bx (γ7 0) (#[.slice p n cap]) 24, bx (γ5 0) (#[.int .i64 0]) 3, bx (γ4 3) (#[.slice none 0 0]) 24, bx (γ4 2) (#[.func (.func 41) #[] #[.pointer (some ⟨γ2 0, 0, none⟩)]]) 75, bx (γ4 1) (#[.int .i64 k]) 3, bx (γ4 0) (#[.slice p n cap]) 24, bx (γ2 0) (#[.bool false]) 4, bx (γ1 1) (#[.slice none 0 0]) 24, bx (γ1 0) (#[.slice p n cap]) 24, bx g52 cs52 40]) ?_ (fun hm => ?_)
    rotate_left
    ·
     refine any_fork [0, 1] (by kernel_rfl) (by simp) (each_cons _ rfl ?_ (each_cons _ rfl ?_ (each_nil)))
     ·
      refine qo0 1 [(0, .go (owns 0 0 1))] [6, 9, 20] [(18, .agg #[.slice none 0 0])] ?_
      refine od_ ?_
      refine any_fork [1, 3] (by kernel_rfl) (by simp) (each_cons _ rfl ?_ (each_cons _ rfl ?_ (each_nil)))
      ·
       refine qo0 1 [(1, .go (owns 4 0 1))] [6, 18, 20] [(19, .int .i64 0)] ?_
       refine od_ ?_
       refine a1 3 rfl ?_
       refine qo0 1 [(3, .go (owns 5 0 1))] [6, 19, 20] [] ?_
       refine od_ ?_
       refine tk (m := 0) [4, 5] [] [6] [(7, .int .i64 0), (8, .int .i64 4)] ([]) #[true, true, true, true, true, true] al0 ?_
       exact any_weak hm [6, 7, 8] (by kernel_rfl) rfl rfl rfl
      ·
       refine qo0 1 [(3, .go (owns 5 0 1))] [6, 9, 20] [] ?_
       refine od_ ?_
       refine a1 1 rfl ?_
       refine qo0 1 [(1, .go (owns 4 0 1))] [6, 20] [(19, .int .i64 0)] ?_
       refine od_ ?_
       refine tk (m := 0) [4, 5] [] [6] [(7, .int .i64 0), (8, .int .i64 4)] ([]) #[true, true, true, true, true, true] al0 ?_
       exact any_weak hm [6, 7, 8] (by kernel_rfl) rfl rfl rfl
     ·
      refine qo0 1 [(1, .go (owns 4 0 1))] [6, 10, 20] [(19, .int .i64 0)] ?_
      refine od_ ?_
      refine a1 0 rfl ?_
      refine qo0 1 [(0, .go (owns 0 0 1))] [6, 19, 20] [(18, .agg #[.slice none 0 0])] ?_
      refine od_ ?_
      refine a1 3 rfl ?_
      refine qo0 1 [(3, .go (owns 5 0 1))] [6, 19, 20] [] ?_
      refine od_ ?_
      refine tk (m := 0) [4, 5] [] [6] [(7, .int .i64 0), (8, .int .i64 4)] ([]) #[true, true, true, true, true, true] al0 ?_
      exact any_weak hm [6, 7, 8] (by kernel_rfl) rfl rfl rfl
    refine any_nil (by kernel_rfl) ?_
    refine ds_ (bk (owns 5 0 1) (.tuple #[.agg #[.slice none 0 0], .int .i64 0, .int .i64 4]) (mo0 8 [(9, .go (owns 0 0 1))] [4, 7] (fun γ130 => [(8, .pointer (some ⟨γ130 0, 0, none⟩)), (10, .int .i64 4)]) (fun γ130 L => bx (γ130 0) (#[.slice none 0 0]) 24 :: L) (fun γ130 => on_ (ds_ (sq_ ?_)))))
    refine at_any (by kernel_rfl) ?_
    refine tk (m := 5) [2] [] [4, 7, 8] [(21, .int .i64 4)] ([]) #[false, false, true, false, false, false] al0 ?_
    refine any_cut 0 #[true, true, true, true, true, true] ([(4, .pointer (some ⟨γ1 1, 0, none⟩)), (5, .bool false), (6, .int .i64 4)]) ([bx (γ130 0) (#[.slice none 0 0]) 24, bx (γ112 0) (#[.slice none 0 0]) 24, bx (γ101 0) (#[.slice (some ⟨g52, 0, none⟩) n cq52]) 24, bx (γ7 1) (#[.slice none 0 0]) 24, bx (γ7 0) (#[.slice p n cap]) 24, bx (γ5 0) (#[.int .i64 0]) 3, bx (γ4 3) (#[.slice none 0 0]) 24, bx (γ4 2) (#[.func (.func 41) #[] #[.pointer (some ⟨γ2 0, 0, none⟩)]]) 75, bx (γ4 1) (#[.int .i64 k]) 3, bx (γ4 0) (#[.slice p n cap]) 24, bx (γ2 0) (#[.bool false]) 4, bx (γ1 1) (#[.slice none 0 0]) 24, bx (γ1 0) (#[.slice p n cap]) 24, bx g52 cs52 40]) ?_ (fun hm => ?_)
    rotate_left
    ·
     refine any_fork [0, 1] (by kernel_rfl) (by simp) (each_cons _ rfl ?_ (each_cons _ rfl ?_ (each_nil)))
     ·
      refine qo0 1 [(0, .go (owns 0 0 1))] [4, 7, 21] [(19, .agg #[.slice none 0 0])] ?_
      refine od_ ?_
      refine any_fork [1, 3] (by kernel_rfl) (by simp) (each_cons _ rfl ?_ (each_cons _ rfl ?_ (each_nil)))
      ·
       refine qo0 1 [(1, .go (owns 10 0 1))] [4, 19, 21] [(20, .bool false)] ?_
       refine od_ ?_
       refine a1 3 rfl ?_
       refine qo0 1 [(3, .go (owns 11 0 1))] [4, 20, 21] [] ?_
       refine od_ ?_
       refine tk (m := 0) [4, 5] [] [4] [(5, .bool false), (6, .int .i64 4)] ([]) #[true, true, true, true, true, true] al0 ?_
       exact any_weak hm [4, 5, 6] (by kernel_rfl) rfl rfl rfl
      ·
       refine qo0 1 [(3, .go (owns 11 0 1))] [4, 7, 21] [] ?_
       refine od_ ?_
       refine a1 1 rfl ?_
       refine qo0 1 [(1, .go (owns 10 0 1))] [4, 21] [(20, .bool false)] ?_
       refine od_ ?_
       refine tk (m := 0) [4, 5] [] [4] [(5, .bool false), (6, .int .i64 4)] ([]) #[true, true, true, true, true, true] al0 ?_
       exact any_weak hm [4, 5, 6] (by kernel_rfl) rfl rfl rfl
     ·
      refine qo0 1 [(1, .go (owns 10 0 1))] [4, 8, 21] [(20, .bool false)] ?_
      refine od_ ?_
      refine a1 0 rfl ?_
      refine qo0 1 [(0, .go (owns 0 0 1))] [4, 20, 21] [(19, .agg #[.slice none 0 0])] ?_
      refine od_ ?_
      refine a1 3 rfl ?_
      refine qo0 1 [(3, .go (owns 11 0 1))] [4, 20, 21] [] ?_
      refine od_ ?_
      refine tk (m := 0) [4, 5] [] [4] [(5, .bool false), (6, .int .i64 4)] ([]) #[true, true, true, true, true, true] al0 ?_
      exact any_weak hm [4, 5, 6] (by kernel_rfl) rfl rfl rfl
    refine any_nil (by kernel_rfl) ?_
    refine ds_ (rt (owns 11 0 1) (.tuple #[.agg #[.slice none 0 0], .bool false, .int .i64 4]) ?_)
    exact fun w' hw => by rw [clearV_none q9 hg105]; exact ⟨none, 0, 0, [], rfl, SlO.nil, hw.below, hw.sub (List.nil_sublist _)⟩
   ·
    have hy105 := (get_pos (ris_asc l 0 (right_ris q9)) hg105).1
    refine cK (.pointer (some ⟨g52, 0 + (posB l k) * 5, none⟩)) Try.call32 (fun w hw => by have := port_d (some ⟨g52, 0, none⟩) n cq52 l k w (hO52.atN (A := [_, _, _, _, _, _, _, _, _, _, _]) hw) hnq52 (by omega) (ris_all (right_ris q9)) (ris_asc l 0 (right_ris q9)); rw [portV_some hg105] at this; exact this) ?_
    refine cm 1 [] [0, 2, 3, 4] [(7, .pointer (some ⟨g52, 0 + (posB l k) * 5, none⟩))] ([]) (by kernel_rfl) rfl al0 ?_
    refine calm_nil' ?_
    refine ds_ (sq_ (sq_ (qa0 [] [0, 2, 3, 4, 7] [(18, .bool false)] (ds_ (f_ (at_skip (ds_ (sq_ ?_))))))))
    refine at_any (by kernel_rfl) ?_
    refine tk (m := 8) [1, 2, 3, 4] [] [2, 3, 4] [(21, .pointer (some ⟨g52, 0 + (posB l k) * 5, none⟩)), (24, .pointer (some ⟨γ101 0, 0, none⟩))] ([]) #[false, true, true, true, true, false, false, false, false, false, false, false] al0 ?_
    refine any_cut 6 #[true, true, true, true, true, true, false, false, false, false, false, false] ([(3, .pointer (some ⟨γ4 0, 0, none⟩)), (4, .pointer (some ⟨γ5 0, 0, none⟩)), (20, .func (.func 41) #[] #[.pointer (some ⟨γ2 0, 0, none⟩)]), (21, .pointer (some ⟨g52, 0 + (posB l k) * 5, none⟩)), (25, .slice (some ⟨g52, 0, none⟩) n cq52)]) ([bx (γ101 0) (#[.slice (some ⟨g52, 0, none⟩) n cq52]) 24, bx (γ7 1) (#[.slice none 0 0]) 24, bx (γ7 0) (#[.slice p n cap]) 24, bx (γ5 0) (#[.int .i64 0]) 3, bx (γ4 3) (#[.slice none 0 0]) 24, bx (γ4 2) (#[.func (.func 41) #[] #[.pointer (some ⟨γ2 0, 0, none⟩)]]) 75, bx (γ4 1) (#[.int .i64 k]) 3, bx (γ4 0) (#[.slice p n cap]) 24, bx (γ2 0) (#[.bool false]) 4, bx (γ1 1) (#[.slice none 0 0]) 24, bx (γ1 0) (#[.slice p n cap]) 24, bx g52 cs52 40]) ?_ (fun hm => ?_)
    rotate_left
    ·
     refine any_fork [0, 5] (by kernel_rfl) (by simp) (each_cons _ rfl ?_ (each_cons _ rfl ?_ (each_nil)))
     ·
      refine qo0 1 [(0, .go (owns 5 0 1))] [3, 4, 21, 24] [(20, .func (.func 41) #[] #[.pointer (some ⟨γ2 0, 0, none⟩)])] ?_
      refine od_ ?_
      refine a1 5 rfl ?_
      refine qo0 1 [(5, .go (owns 0 0 1))] [3, 4, 20, 21] [(25, .slice (some ⟨g52, 0, none⟩) n cq52)] ?_
      refine od_ ?_
      exact any_weak hm [3, 4, 20, 21, 25] (by kernel_rfl) rfl rfl rfl
     ·
      refine qo0 1 [(5, .go (owns 0 0 1))] [2, 3, 4, 21] [(25, .slice (some ⟨g52, 0, none⟩) n cq52)] ?_
      refine od_ ?_
      refine a1 0 rfl ?_
      refine qo0 1 [(0, .go (owns 5 0 1))] [3, 4, 21, 25] [(20, .func (.func 41) #[] #[.pointer (some ⟨γ2 0, 0, none⟩)])] ?_
      refine od_ ?_
      exact any_weak hm [3, 4, 20, 21, 25] (by kernel_rfl) rfl rfl rfl
    refine a1 6 rfl ?_
    refine ops_inline (g := 41) (args := #[.pointer (some ⟨g52, 0 + (posB l k) * 5, none⟩), .slice (some ⟨g52, 0, none⟩) n cq52, .pointer (some ⟨γ2 0, 0, none⟩)]) (by kernel_rfl) (by kernel_rfl) (by kernel_rfl) (fun args w => Try.call41 args w) Try.func41 rfl Try.ntmps41 rfl (sq_ (qa0 [] [0, 2] [] (ds_ (sq_ (ma [(4, .go (ownps 11 (0 + (posB l k) * 5 + 3) [.bool y105.pending])), (5, .go (owns 8 0 1)), (8, .go (ownps 11 (0 + (posB l k) * 5 + 3) [undef]))] [0] (fun _ => []) (fun _ L => ((L.set 8 (bx (γ2 0) (#[.bool y105.pending]) 4)).set 11 (bx g52 ((cs52).setIfInBounds (0 + (posB l k) * 5 + 3) (.bool false)) 40))) (fun _ => acellsP cs52 (0 + (posB l k) * 5 + 3) [.bool y105.pending] ++ ([0 + (posB l k) * 5 + 3 < (cs52).size])) (fun _ => (alA (rda_part ((hOw52.rdx hnq52 hy105)) 3 _ rfl) (al1 (hOw52.room hnq52 hy105 (f := 3) (by decide))))) (fun _ => ds_ (sq_ (qa0 [] [] [(5, .pointer (some ⟨g52, 0 + (posB l k) * 5, none⟩)), (6, .int .i64 0)] (ds_ (bk ([]) (.tuple #[.pointer (some ⟨g52, 0 + (posB l k) * 5, none⟩), .int .i64 0]) ?_))))))))))
    refine od_ ?_
    refine tk (m := 0) [7, 8, 9, 10, 11] [] [3, 4] [(8, .pointer (some ⟨g52, 0 + (posB l k) * 5, none⟩)), (9, .int .i64 0)] ([]) #[true, true, true, true, true, true, true, true, true, true, true, true] al0 ?_
    refine any_nil (by kernel_rfl) ?_
    refine ds_ (sq_ (sq_ (qa0 [] [3, 4, 8, 9] [(30, .bool false)] (ds_ (f_ (at_skip (ds_ (sq_ ?_))))))))
    refine at_calm rfl (by kernel_rfl) (by kernel_rfl) ?_
    refine cm 6 [(1, .go (owns 7 0 1)), (5, .go (ownps 11 (0 + (posB l k) * 5) [.int .i64 y105.num]))] [4, 8] [(33, .slice p n cap), (37, .int .i64 y105.num)] (acellsP ((cs52).setIfInBounds (0 + (posB l k) * 5 + 3) (.bool false)) (0 + (posB l k) * 5) [.int .i64 y105.num]) (by kernel_rfl) rfl (rda_pre (((hOw52.put (x' := (⟨y105.num, y105.vcpu, y105.peer, false, y105.masked⟩ : Port)) hnq52 hy105 (f := 3) (by decide) rfl).rdx (len_set hnq52) (get_set hy105))) _ rfl) ?_
    skip
    ·
     obtain ⟨b166, o166, rfl⟩ := hsl.pos (i := posB l y105.num) (List.getElem?_eq_some_iff.1 (get_pos (ris_asc l 0 (right_ris q9)) (get_self hg105)).1).1
     refine cK (.pointer (some ⟨b166, o166 + (posB l y105.num) * 5, none⟩)) Try.call32 (fun w hw => by have := port_d (some ⟨b166, o166, none⟩) n cap l y105.num w (hsl.kept hw.below) hn (by omega) (ris_all (right_ris q9)) (ris_asc l 0 (right_ris q9)); rw [portV_some (get_self hg105)] at this; exact this) ?_
     refine cm 1 [] [4, 8] [(10, .pointer (some ⟨b166, o166 + (posB l y105.num) * 5, none⟩))] ([]) (by kernel_rfl) rfl al0 ?_
     refine calm_nil' ?_
     refine ds_ (sq_ (sq_ ?_))
     refine at_calm rfl (by kernel_rfl) (by kernel_rfl) ?_
     refine cm 3 [(2, .go (ownps 11 (0 + (posB l k) * 5) [.int .i64 y105.num, .int .i64 y105.vcpu, .int .i64 y105.peer, .bool false, .bool y105.masked]))] [4, 8, 10] [(41, .agg #[.int .i64 y105.num, .int .i64 y105.vcpu, .int .i64 y105.peer, .bool false, .bool y105.masked])] (acellsP ((cs52).setIfInBounds (0 + (posB l k) * 5 + 3) (.bool false)) (0 + (posB l k) * 5) [.int .i64 y105.num, .int .i64 y105.vcpu, .int .i64 y105.peer, .bool false, .bool y105.masked]) (by kernel_rfl) rfl (rda_pre (((hOw52.put (x' := (⟨y105.num, y105.vcpu, y105.peer, false, y105.masked⟩ : Port)) hnq52 hy105 (f := 3) (by decide) rfl).rdx (len_set hnq52) (get_set hy105))) _ rfl) ?_
     rcases q169 : (false && !y105.masked) with _ | _
     ·
      refine cK (.bool false) Try.call39 (fun w hw => by have := due_d (⟨y105.num, y105.vcpu, y105.peer, false, y105.masked⟩ : Port) w; rw [show dueB (⟨y105.num, y105.vcpu, y105.peer, false, y105.masked⟩ : Port) = false from q169] at this; exact this) ?_
      refine cm 18 [] [4, 8] [(60, .bool false)] ([]) (by kernel_rfl) rfl al0 ?_
      refine calm_nil' ?_
      refine ds_ (f_ (at_skip (ds_ (sq_ (qa0 [] [] [(6, .int .i64 0)] (ds_ (bk ([]) (.int .i64 0) (qo0 1 [] [4, 7] [(8, .int .i64 0)] (on_ (ds_ (sq_ (qa0 [] [4, 7, 8] [(22, .bool false)] (ds_ (f_ (at_skip (ds_ (sq_ (ma0 [(0, .go (owns 0 0 1)), (1, .go (owns 1 0 1))] [4] (fun _ => [(5, .int .i64 0)]) (fun _ L => (L.set 1 (bx (γ7 1) (#[.slice (some ⟨g52, 0, none⟩) n cq52]) 24))) (fun _ => ds_ (bk (owns 1 0 1) (.tuple #[.agg #[.slice (some ⟨g52, 0, none⟩) n cq52], .int .i64 0]) (mo0 6 [(7, .go (owns 0 0 1))] [6, 9] (fun γ175 => [(10, .pointer (some ⟨γ175 0, 0, none⟩)), (11, .int .i64 0)]) (fun γ175 L => bx (γ175 0) (#[.slice (some ⟨g52, 0, none⟩) n cq52]) 24 :: L) (fun γ175 => on_ (ds_ (sq_ ?_))))))))))))))))))))))))
      refine at_any (by kernel_rfl) ?_
      refine tk (m := 5) [2] [] [6, 9, 10] [(20, .int .i64 0)] ([]) #[false, false, true, false, false, false] al0 ?_
      refine any_cut 0 #[true, true, true, true, true, true] ([(6, .pointer (some ⟨γ4 3, 0, none⟩)), (7, .int .i64 0), (8, .int .i64 0)]) ([bx (γ175 0) (#[.slice (some ⟨g52, 0, none⟩) n cq52]) 24, bx (γ101 0) (#[.slice (some ⟨g52, 0, none⟩) n cq52]) 24, bx (γ7 1) (#[.slice (some ⟨g52, 0, none⟩) n cq52]) 24, bx (γ7 0) (#[.slice (some ⟨b166, o166, none⟩) n cap]) 24, bx (γ5 0) (#[.int .i64 0]) 3, bx (γ4 3) (#[.slice (some ⟨g52, 0, none⟩) n cq52]) 24, bx (γ4 2) (#[.func (.func 41) #[] #[.pointer (some ⟨γ2 0, 0, none⟩)]]) 75, bx (γ4 1) (#[.int .i64 k]) 3, bx (γ4 0) (#[.slice (some ⟨b166, o166, none⟩) n cap]) 24, bx (γ2 0) (#[.bool y105.pending]) 4, bx (γ1 1) (#[.slice none 0 0]) 24, bx (γ1 0) (#[.slice (some ⟨b166, o166, none⟩) n cap]) 24, bx g52 ((cs52).setIfInBounds (0 + (posB l k) * 5 + 3) (.bool false)) 40]) ?_ (fun hm => ?_)
      rotate_left
      ·
       refine any_fork [0, 1] (by kernel_rfl) (by simp) (each_cons _ rfl ?_ (each_cons _ rfl ?_ (each_nil)))
       ·
        refine qo0 1 [(0, .go (owns 0 0 1))] [6, 9, 20] [(18, .agg #[.slice (some ⟨g52, 0, none⟩) n cq52])] ?_
        refine od_ ?_
        refine any_fork [1, 3] (by kernel_rfl) (by simp) (each_cons _ rfl ?_ (each_cons _ rfl ?_ (each_nil)))
        ·
         refine qo0 1 [(1, .go (owns 4 0 1))] [6, 18, 20] [(19, .int .i64 0)] ?_
         refine od_ ?_
         refine a1 3 rfl ?_
         refine mo0 1 [(3, .go (owns 5 0 1))] [6, 19, 20] (fun _ => []) (fun _ L => (L.set 5 (bx (γ4 3) (#[.slice (some ⟨g52, 0, none⟩) n cq52]) 24))) (fun _ => ?_)
         refine od_ ?_
         refine tk (m := 0) [4, 5] [] [6] [(7, .int .i64 0), (8, .int .i64 0)] ([]) #[true, true, true, true, true, true] al0 ?_
         exact any_weak hm [6, 7, 8] (by kernel_rfl) rfl rfl rfl
        ·
         refine mo0 1 [(3, .go (owns 5 0 1))] [6, 9, 20] (fun _ => []) (fun _ L => (L.set 5 (bx (γ4 3) (#[.slice (some ⟨g52, 0, none⟩) n cq52]) 24))) (fun _ => ?_)
         refine od_ ?_
         refine a1 1 rfl ?_
         refine qo0 1 [(1, .go (owns 4 0 1))] [6, 20] [(19, .int .i64 0)] ?_
         refine od_ ?_
         refine tk (m := 0) [4, 5] [] [6] [(7, .int .i64 0), (8, .int .i64 0)] ([]) #[true, true, true, true, true, true] al0 ?_
         exact any_weak hm [6, 7, 8] (by kernel_rfl) rfl rfl rfl
       ·
        refine qo0 1 [(1, .go (owns 4 0 1))] [6, 10, 20] [(19, .int .i64 0)] ?_
        refine od_ ?_
        refine a1 0 rfl ?_
        refine qo0 1 [(0, .go (owns 0 0 1))] [6, 19, 20] [(18, .agg #[.slice (some ⟨g52, 0, none⟩) n cq52])] ?_
        refine od_ ?_
        refine a1 3 rfl ?_
        refine mo0 1 [(3, .go (owns 5 0 1))] [6, 19, 20] (fun _ => []) (fun _ L => (L.set 5 (bx (γ4 3) (#[.slice (some ⟨g52, 0, none⟩) n cq52]) 24))) (fun _ => ?_)
        refine od_ ?_
        refine tk (m := 0) [4, 5] [] [6] [(7, .int .i64 0), (8, .int .i64 0)] ([]) #[true, true, true, true, true, true] al0 ?_
        exact any_weak hm [6, 7, 8] (by kernel_rfl) rfl rfl rfl
      refine any_nil (by kernel_rfl) ?_
      refine ds_ (bk (owns 5 0 1) (.tuple #[.agg #[.slice (some ⟨g52, 0, none⟩) n cq52], .int .i64 0, .int .i64 0]) (mo0 8 [(9, .go (owns 0 0 1))] [4, 7] (fun γ193 => [(8, .pointer (some ⟨γ193 0, 0, none⟩)), (10, .int .i64 0)]) (fun γ193 L => bx (γ193 0) (#[.slice (some ⟨g52, 0, none⟩) n cq52]) 24 :: L) (fun γ193 => on_ (ds_ (sq_ ?_)))))
      refine at_any (by kernel_rfl) ?_
      refine tk (m := 5) [2] [] [4, 7, 8] [(21, .int .i64 0)] ([]) #[false, false, true, false, false, false] al0 ?_
      refine any_cut 0 #[true, true, true, true, true, true] ([(4, .pointer (some ⟨γ1 1, 0, none⟩)), (5, .bool y105.pending), (6, .int .i64 0)]) ([bx (γ193 0) (#[.slice (some ⟨g52, 0, none⟩) n cq52]) 24, bx (γ175 0) (#[.slice (some ⟨g52, 0, none⟩) n cq52]) 24, bx (γ101 0) (#[.slice (some ⟨g52, 0, none⟩) n cq52]) 24, bx (γ7 1) (#[.slice (some ⟨g52, 0, none⟩) n cq52]) 24, bx (γ7 0) (#[.slice (some ⟨b166, o166, none⟩) n cap]) 24, bx (γ5 0) (#[.int .i64 0]) 3, bx (γ4 3) (#[.slice (some ⟨g52, 0, none⟩) n cq52]) 24, bx (γ4 2) (#[.func (.func 41) #[] #[.pointer (some ⟨γ2 0, 0, none⟩)]]) 75, bx (γ4 1) (#[.int .i64 k]) 3, bx (γ4 0) (#[.slice (some ⟨b166, o166, none⟩) n cap]) 24, bx (γ2 0) (#[.bool y105.pending]) 4, bx (γ1 1) (#[.slice (some ⟨g52, 0, none⟩) n cq52]) 24, bx (γ1 0) (#[.slice (some ⟨b166, o166, none⟩) n cap]) 24, bx g52 ((cs52).setIfInBounds (0 + (posB l k) * 5 + 3) (.bool false)) 40]) ?_ (fun hm => ?_)
      rotate_left
      ·
       refine any_fork [0, 1] (by kernel_rfl) (by simp) (each_cons _ rfl ?_ (each_cons _ rfl ?_ (each_nil)))
       ·
        refine qo0 1 [(0, .go (owns 0 0 1))] [4, 7, 21] [(19, .agg #[.slice (some ⟨g52, 0, none⟩) n cq52])] ?_
        refine od_ ?_
        refine any_fork [1, 3] (by kernel_rfl) (by simp) (each_cons _ rfl ?_ (each_cons _ rfl ?_ (each_nil)))
        ·
         refine qo0 1 [(1, .go (owns 10 0 1))] [4, 19, 21] [(20, .bool y105.pending)] ?_
         refine od_ ?_
         refine a1 3 rfl ?_
         refine mo0 1 [(3, .go (owns 11 0 1))] [4, 20, 21] (fun _ => []) (fun _ L => (L.set 11 (bx (γ1 1) (#[.slice (some ⟨g52, 0, none⟩) n cq52]) 24))) (fun _ => ?_)
         refine od_ ?_
         refine tk (m := 0) [4, 5] [] [4] [(5, .bool y105.pending), (6, .int .i64 0)] ([]) #[true, true, true, true, true, true] al0 ?_
         exact any_weak hm [4, 5, 6] (by kernel_rfl) rfl rfl rfl
        ·
         refine mo0 1 [(3, .go (owns 11 0 1))] [4, 7, 21] (fun _ => []) (fun _ L => (L.set 11 (bx (γ1 1) (#[.slice (some ⟨g52, 0, none⟩) n cq52]) 24))) (fun _ => ?_)
         refine od_ ?_
         refine a1 1 rfl ?_
         refine qo0 1 [(1, .go (owns 10 0 1))] [4, 21] [(20, .bool y105.pending)] ?_
         refine od_ ?_
         refine tk (m := 0) [4, 5] [] [4] [(5, .bool y105.pending), (6, .int .i64 0)] ([]) #[true, true, true, true, true, true] al0 ?_
         exact any_weak hm [4, 5, 6] (by kernel_rfl) rfl rfl rfl
       ·
        refine qo0 1 [(1, .go (owns 10 0 1))] [4, 8, 21] [(20, .bool y105.pending)] ?_
        refine od_ ?_
        refine a1 0 rfl ?_
        refine qo0 1 [(0, .go (owns 0 0 1))] [4, 20, 21] [(19, .agg #[.slice (some ⟨g52, 0, none⟩) n cq52])] ?_
        refine od_ ?_
        refine a1 3 rfl ?_
        refine mo0 1 [(3, .go (owns 11 0 1))] [4, 20, 21] (fun _ => []) (fun _ L => (L.set 11 (bx (γ1 1) (#[.slice (some ⟨g52, 0, none⟩) n cq52]) 24))) (fun _ => ?_)
        refine od_ ?_
        refine tk (m := 0) [4, 5] [] [4] [(5, .bool y105.pending), (6, .int .i64 0)] ([]) #[true, true, true, true, true, true] al0 ?_
        exact any_weak hm [4, 5, 6] (by kernel_rfl) rfl rfl rfl
      refine any_nil (by kernel_rfl) ?_
      refine ds_ (rt (owns 11 0 1) (.tuple #[.agg #[.slice (some ⟨g52, 0, none⟩) n cq52], .bool y105.pending, .int .i64 0]) ?_)
      exact fun w' hw => by rw [clearV_ok q9 hg105, pos_of hg105]; exact ⟨_, _, _, _, rfl, (SlO.ofOwn (hOw52.put (x' := (⟨y105.num, y105.vcpu, y105.peer, false, y105.masked⟩ : Port)) hnq52 hy105 (f := 3) (by decide) rfl) (len_set hnq52)), hw.below, hw.tailN 13⟩
     ·
      refine cK (.bool true) Try.call39 (fun w hw => by have := due_d (⟨y105.num, y105.vcpu, y105.peer, false, y105.masked⟩ : Port) w; rw [show dueB (⟨y105.num, y105.vcpu, y105.peer, false, y105.masked⟩ : Port) = true from q169] at this; exact this) ?_
      refine cm 4 [(7, .go (outs b166 (o166 + (posB l y105.num) * 5) [.int .i64 y105.num, .int .i64 y105.vcpu, .int .i64 y105.peer, .bool y105.pending, .bool y105.masked]))] [4, 8, 10] [(43, .bool true), (46, .agg #[.int .i64 y105.num, .int .i64 y105.vcpu, .int .i64 y105.peer, .bool y105.pending, .bool y105.masked])] (cellsP w b166 (o166 + (posB l y105.num) * 5) [.int .i64 y105.num, .int .i64 y105.vcpu, .int .i64 y105.peer, .bool y105.pending, .bool y105.masked]) (by kernel_rfl) rfl (rd_pre (hsl.get (get_pos (ris_asc l 0 (right_ris q9)) (get_self hg105)).1) _ rfl) ?_
      rcases q212 : (y105.pending && !y105.masked) with _ | _
      ·
       refine cK (.bool false) Try.call39 (fun w hw => by have := due_d (⟨y105.num, y105.vcpu, y105.peer, y105.pending, y105.masked⟩ : Port) w; rw [show dueB (⟨y105.num, y105.vcpu, y105.peer, y105.pending, y105.masked⟩ : Port) = false from q212] at this; exact this) ?_
       refine cm 13 [] [4, 8] [(60, .bool true)] ([]) (by kernel_rfl) rfl al0 ?_
       refine calm_nil' ?_
       refine ds_ (t_ (ma [(3, .go (ownps 11 (0 + (posB l k) * 5 + 1) [.int .i64 y105.vcpu])), (4, .go (owns 3 0 1))] [] (fun _ => []) (fun _ L => (L.set 3 (bx (γ5 0) (#[.int .i64 y105.vcpu]) 3))) (fun _ => acellsP ((cs52).setIfInBounds (0 + (posB l k) * 5 + 3) (.bool false)) (0 + (posB l k) * 5 + 1) [.int .i64 y105.vcpu]) (fun _ => (rda_part (((hOw52.put (x' := (⟨y105.num, y105.vcpu, y105.peer, false, y105.masked⟩ : Port)) hnq52 hy105 (f := 3) (by decide) rfl).rdx (len_set hnq52) (get_set hy105))) 1 _ rfl)) (fun _ => ds_ (sq_ (qa0 [] [] [(6, .int .i64 0)] (ds_ (bk ([]) (.int .i64 0) (qo0 1 [] [4, 7] [(8, .int .i64 0)] (on_ (ds_ (sq_ (qa0 [] [4, 7, 8] [(22, .bool false)] (ds_ (f_ (at_skip (ds_ (sq_ (ma0 [(0, .go (owns 0 0 1)), (1, .go (owns 1 0 1))] [4] (fun _ => [(5, .int .i64 0)]) (fun _ L => (L.set 1 (bx (γ7 1) (#[.slice (some ⟨g52, 0, none⟩) n cq52]) 24))) (fun _ => ds_ (bk (owns 1 0 1) (.tuple #[.agg #[.slice (some ⟨g52, 0, none⟩) n cq52], .int .i64 0]) (mo0 6 [(7, .go (owns 0 0 1))] [6, 9] (fun γ219 => [(10, .pointer (some ⟨γ219 0, 0, none⟩)), (11, .int .i64 0)]) (fun γ219 L => bx (γ219 0) (#[.slice (some ⟨g52, 0, none⟩) n cq52]) 24 :: L) (fun γ219 => on_ (ds_ (sq_ ?_))))))))))))))))))))))))
       refine at_any (by kernel_rfl) ?_
       refine tk (m := 5) [2] [] [6, 9, 10] [(20, .int .i64 0)] ([]) #[false, false, true, false, false, false] al0 ?_
       refine any_cut 0 #[true, true, true, true, true, true] ([(6, .pointer (some ⟨γ4 3, 0, none⟩)), (7, .int .i64 y105.vcpu), (8, .int .i64 0)]) ([bx (γ219 0) (#[.slice (some ⟨g52, 0, none⟩) n cq52]) 24, bx (γ101 0) (#[.slice (some ⟨g52, 0, none⟩) n cq52]) 24, bx (γ7 1) (#[.slice (some ⟨g52, 0, none⟩) n cq52]) 24, bx (γ7 0) (#[.slice (some ⟨b166, o166, none⟩) n cap]) 24, bx (γ5 0) (#[.int .i64 y105.vcpu]) 3, bx (γ4 3) (#[.slice (some ⟨g52, 0, none⟩) n cq52]) 24, bx (γ4 2) (#[.func (.func 41) #[] #[.pointer (some ⟨γ2 0, 0, none⟩)]]) 75, bx (γ4 1) (#[.int .i64 k]) 3, bx (γ4 0) (#[.slice (some ⟨b166, o166, none⟩) n cap]) 24, bx (γ2 0) (#[.bool y105.pending]) 4, bx (γ1 1) (#[.slice none 0 0]) 24, bx (γ1 0) (#[.slice (some ⟨b166, o166, none⟩) n cap]) 24, bx g52 ((cs52).setIfInBounds (0 + (posB l k) * 5 + 3) (.bool false)) 40]) ?_ (fun hm => ?_)
       rotate_left
       ·
        refine any_fork [0, 1] (by kernel_rfl) (by simp) (each_cons _ rfl ?_ (each_cons _ rfl ?_ (each_nil)))
        ·
         refine qo0 1 [(0, .go (owns 0 0 1))] [6, 9, 20] [(18, .agg #[.slice (some ⟨g52, 0, none⟩) n cq52])] ?_
         refine od_ ?_
         refine any_fork [1, 3] (by kernel_rfl) (by simp) (each_cons _ rfl ?_ (each_cons _ rfl ?_ (each_nil)))
         ·
          refine qo0 1 [(1, .go (owns 4 0 1))] [6, 18, 20] [(19, .int .i64 y105.vcpu)] ?_
          refine od_ ?_
          refine a1 3 rfl ?_
          refine mo0 1 [(3, .go (owns 5 0 1))] [6, 19, 20] (fun _ => []) (fun _ L => (L.set 5 (bx (γ4 3) (#[.slice (some ⟨g52, 0, none⟩) n cq52]) 24))) (fun _ => ?_)
          refine od_ ?_
          refine tk (m := 0) [4, 5] [] [6] [(7, .int .i64 y105.vcpu), (8, .int .i64 0)] ([]) #[true, true, true, true, true, true] al0 ?_
          exact any_weak hm [6, 7, 8] (by kernel_rfl) rfl rfl rfl
         ·
          refine mo0 1 [(3, .go (owns 5 0 1))] [6, 9, 20] (fun _ => []) (fun _ L => (L.set 5 (bx (γ4 3) (#[.slice (some ⟨g52, 0, none⟩) n cq52]) 24))) (fun _ => ?_)
          refine od_ ?_
          refine a1 1 rfl ?_
          refine qo0 1 [(1, .go (owns 4 0 1))] [6, 20] [(19, .int .i64 y105.vcpu)] ?_
          refine od_ ?_
          refine tk (m := 0) [4, 5] [] [6] [(7, .int .i64 y105.vcpu), (8, .int .i64 0)] ([]) #[true, true, true, true, true, true] al0 ?_
          exact any_weak hm [6, 7, 8] (by kernel_rfl) rfl rfl rfl
        ·
         refine qo0 1 [(1, .go (owns 4 0 1))] [6, 10, 20] [(19, .int .i64 y105.vcpu)] ?_
         refine od_ ?_
         refine a1 0 rfl ?_
         refine qo0 1 [(0, .go (owns 0 0 1))] [6, 19, 20] [(18, .agg #[.slice (some ⟨g52, 0, none⟩) n cq52])] ?_
         refine od_ ?_
         refine a1 3 rfl ?_
         refine mo0 1 [(3, .go (owns 5 0 1))] [6, 19, 20] (fun _ => []) (fun _ L => (L.set 5 (bx (γ4 3) (#[.slice (some ⟨g52, 0, none⟩) n cq52]) 24))) (fun _ => ?_)
         refine od_ ?_
         refine tk (m := 0) [4, 5] [] [6] [(7, .int .i64 y105.vcpu), (8, .int .i64 0)] ([]) #[true, true, true, true, true, true] al0 ?_
         exact any_weak hm [6, 7, 8] (by kernel_rfl) rfl rfl rfl
       refine any_nil (by kernel_rfl) ?_
       refine ds_ (bk (owns 5 0 1) (.tuple #[.agg #[.slice (some ⟨g52, 0, none⟩) n cq52], .int .i64 y105.vcpu, .int .i64 0]) (mo0 8 [(9, .go (owns 0 0 1))] [4, 7] (fun γ237 => [(8, .pointer (some ⟨γ237 0, 0, none⟩)), (10, .int .i64 0)]) (fun γ237 L => bx (γ237 0) (#[.slice (some ⟨g52, 0, none⟩) n cq52]) 24 :: L) (fun γ237 => on_ (ds_ (sq_ ?_)))))
       refine at_any (by kernel_rfl) ?_
       refine tk (m := 5) [2] [] [4, 7, 8] [(21, .int .i64 0)] ([]) #[false, false, true, false, false, false] al0 ?_
       refine any_cut 0 #[true, true, true, true, true, true] ([(4, .pointer (some ⟨γ1 1, 0, none⟩)), (5, .bool y105.pending), (6, .int .i64 0)]) ([bx (γ237 0) (#[.slice (some ⟨g52, 0, none⟩) n cq52]) 24, bx (γ219 0) (#[.slice (some ⟨g52, 0, none⟩) n cq52]) 24, bx (γ101 0) (#[.slice (some ⟨g52, 0, none⟩) n cq52]) 24, bx (γ7 1) (#[.slice (some ⟨g52, 0, none⟩) n cq52]) 24, bx (γ7 0) (#[.slice (some ⟨b166, o166, none⟩) n cap]) 24, bx (γ5 0) (#[.int .i64 y105.vcpu]) 3, bx (γ4 3) (#[.slice (some ⟨g52, 0, none⟩) n cq52]) 24, bx (γ4 2) (#[.func (.func 41) #[] #[.pointer (some ⟨γ2 0, 0, none⟩)]]) 75, bx (γ4 1) (#[.int .i64 k]) 3, bx (γ4 0) (#[.slice (some ⟨b166, o166, none⟩) n cap]) 24, bx (γ2 0) (#[.bool y105.pending]) 4, bx (γ1 1) (#[.slice (some ⟨g52, 0, none⟩) n cq52]) 24, bx (γ1 0) (#[.slice (some ⟨b166, o166, none⟩) n cap]) 24, bx g52 ((cs52).setIfInBounds (0 + (posB l k) * 5 + 3) (.bool false)) 40]) ?_ (fun hm => ?_)
       rotate_left
       ·
        refine any_fork [0, 1] (by kernel_rfl) (by simp) (each_cons _ rfl ?_ (each_cons _ rfl ?_ (each_nil)))
        ·
         refine qo0 1 [(0, .go (owns 0 0 1))] [4, 7, 21] [(19, .agg #[.slice (some ⟨g52, 0, none⟩) n cq52])] ?_
         refine od_ ?_
         refine any_fork [1, 3] (by kernel_rfl) (by simp) (each_cons _ rfl ?_ (each_cons _ rfl ?_ (each_nil)))
         ·
          refine qo0 1 [(1, .go (owns 10 0 1))] [4, 19, 21] [(20, .bool y105.pending)] ?_
          refine od_ ?_
          refine a1 3 rfl ?_
          refine mo0 1 [(3, .go (owns 11 0 1))] [4, 20, 21] (fun _ => []) (fun _ L => (L.set 11 (bx (γ1 1) (#[.slice (some ⟨g52, 0, none⟩) n cq52]) 24))) (fun _ => ?_)
          refine od_ ?_
          refine tk (m := 0) [4, 5] [] [4] [(5, .bool y105.pending), (6, .int .i64 0)] ([]) #[true, true, true, true, true, true] al0 ?_
          exact any_weak hm [4, 5, 6] (by kernel_rfl) rfl rfl rfl
         ·
          refine mo0 1 [(3, .go (owns 11 0 1))] [4, 7, 21] (fun _ => []) (fun _ L => (L.set 11 (bx (γ1 1) (#[.slice (some ⟨g52, 0, none⟩) n cq52]) 24))) (fun _ => ?_)
          refine od_ ?_
          refine a1 1 rfl ?_
          refine qo0 1 [(1, .go (owns 10 0 1))] [4, 21] [(20, .bool y105.pending)] ?_
          refine od_ ?_
          refine tk (m := 0) [4, 5] [] [4] [(5, .bool y105.pending), (6, .int .i64 0)] ([]) #[true, true, true, true, true, true] al0 ?_
          exact any_weak hm [4, 5, 6] (by kernel_rfl) rfl rfl rfl
        ·
         refine qo0 1 [(1, .go (owns 10 0 1))] [4, 8, 21] [(20, .bool y105.pending)] ?_
         refine od_ ?_
         refine a1 0 rfl ?_
         refine qo0 1 [(0, .go (owns 0 0 1))] [4, 20, 21] [(19, .agg #[.slice (some ⟨g52, 0, none⟩) n cq52])] ?_
         refine od_ ?_
         refine a1 3 rfl ?_
         refine mo0 1 [(3, .go (owns 11 0 1))] [4, 20, 21] (fun _ => []) (fun _ L => (L.set 11 (bx (γ1 1) (#[.slice (some ⟨g52, 0, none⟩) n cq52]) 24))) (fun _ => ?_)
         refine od_ ?_
         refine tk (m := 0) [4, 5] [] [4] [(5, .bool y105.pending), (6, .int .i64 0)] ([]) #[true, true, true, true, true, true] al0 ?_
         exact any_weak hm [4, 5, 6] (by kernel_rfl) rfl rfl rfl
       refine any_nil (by kernel_rfl) ?_
       refine ds_ (rt (owns 11 0 1) (.tuple #[.agg #[.slice (some ⟨g52, 0, none⟩) n cq52], .bool y105.pending, .int .i64 0]) ?_)
       exact fun w' hw => by rw [clearV_ok q9 hg105, pos_of hg105]; exact ⟨_, _, _, _, rfl, (SlO.ofOwn (hOw52.put (x' := (⟨y105.num, y105.vcpu, y105.peer, false, y105.masked⟩ : Port)) hnq52 hy105 (f := 3) (by decide) rfl) (len_set hnq52)), hw.below, hw.tailN 13⟩
      ·
       refine cK (.bool true) Try.call39 (fun w hw => by have := due_d (⟨y105.num, y105.vcpu, y105.peer, y105.pending, y105.masked⟩ : Port) w; rw [show dueB (⟨y105.num, y105.vcpu, y105.peer, y105.pending, y105.masked⟩ : Port) = true from q212] at this; exact this) ?_
       refine cm 13 [(14, .go (outs b166 (o166 + (posB l y105.num) * 5 + 1) [.int .i64 y105.vcpu])), (18, .go (ownps 11 (0 + (posB l k) * 5 + 1) [.int .i64 y105.vcpu])), (19, .no)] [4, 8] [(60, .bool false)] (cellsP w b166 (o166 + (posB l y105.num) * 5 + 1) [.int .i64 y105.vcpu] ++ (acellsP ((cs52).setIfInBounds (0 + (posB l k) * 5 + 3) (.bool false)) (0 + (posB l k) * 5 + 1) [.int .i64 y105.vcpu] ++ ([¬ ((y105.vcpu : Int) ≠ (y105.vcpu : Int))]))) (by kernel_rfl) rfl (alA (rd_part (hsl.get (get_pos (ris_asc l 0 (right_ris q9)) (get_self hg105)).1) 1 _ rfl) (alA (rda_part (((hOw52.put (x' := (⟨y105.num, y105.vcpu, y105.peer, false, y105.masked⟩ : Port)) hnq52 hy105 (f := 3) (by decide) rfl).rdx (len_set hnq52) (get_set hy105))) 1 _ rfl) (al1 ((fun h => h rfl))))) ?_
       refine calm_nil' ?_
       refine ds_ (f_ (at_skip (ds_ (sq_ (qa0 [] [] [(6, .int .i64 0)] (ds_ (bk ([]) (.int .i64 0) (qo0 1 [] [4, 7] [(8, .int .i64 0)] (on_ (ds_ (sq_ (qa0 [] [4, 7, 8] [(22, .bool false)] (ds_ (f_ (at_skip (ds_ (sq_ (ma0 [(0, .go (owns 0 0 1)), (1, .go (owns 1 0 1))] [4] (fun _ => [(5, .int .i64 0)]) (fun _ L => (L.set 1 (bx (γ7 1) (#[.slice (some ⟨g52, 0, none⟩) n cq52]) 24))) (fun _ => ds_ (bk (owns 1 0 1) (.tuple #[.agg #[.slice (some ⟨g52, 0, none⟩) n cq52], .int .i64 0]) (mo0 6 [(7, .go (owns 0 0 1))] [6, 9] (fun γ260 => [(10, .pointer (some ⟨γ260 0, 0, none⟩)), (11, .int .i64 0)]) (fun γ260 L => bx (γ260 0) (#[.slice (some ⟨g52, 0, none⟩) n cq52]) 24 :: L) (fun γ260 => on_ (ds_ (sq_ ?_))))))))))))))))))))))))
       refine at_any (by kernel_rfl) ?_
       refine tk (m := 5) [2] [] [6, 9, 10] [(20, .int .i64 0)] ([]) #[false, false, true, false, false, false] al0 ?_
       refine any_cut 0 #[true, true, true, true, true, true] ([(6, .pointer (some ⟨γ4 3, 0, none⟩)), (7, .int .i64 0), (8, .int .i64 0)]) ([bx (γ260 0) (#[.slice (some ⟨g52, 0, none⟩) n cq52]) 24, bx (γ101 0) (#[.slice (some ⟨g52, 0, none⟩) n cq52]) 24, bx (γ7 1) (#[.slice (some ⟨g52, 0, none⟩) n cq52]) 24, bx (γ7 0) (#[.slice (some ⟨b166, o166, none⟩) n cap]) 24, bx (γ5 0) (#[.int .i64 0]) 3, bx (γ4 3) (#[.slice (some ⟨g52, 0, none⟩) n cq52]) 24, bx (γ4 2) (#[.func (.func 41) #[] #[.pointer (some ⟨γ2 0, 0, none⟩)]]) 75, bx (γ4 1) (#[.int .i64 k]) 3, bx (γ4 0) (#[.slice (some ⟨b166, o166, none⟩) n cap]) 24, bx (γ2 0) (#[.bool y105.pending]) 4, bx (γ1 1) (#[.slice none 0 0]) 24, bx (γ1 0) (#[.slice (some ⟨b166, o166, none⟩) n cap]) 24, bx g52 ((cs52).setIfInBounds (0 + (posB l k) * 5 + 3) (.bool false)) 40]) ?_ (fun hm => ?_)
       rotate_left
       ·
        refine any_fork [0, 1] (by kernel_rfl) (by simp) (each_cons _ rfl ?_ (each_cons _ rfl ?_ (each_nil)))
        ·
         refine qo0 1 [(0, .go (owns 0 0 1))] [6, 9, 20] [(18, .agg #[.slice (some ⟨g52, 0, none⟩) n cq52])] ?_
         refine od_ ?_
         refine any_fork [1, 3] (by kernel_rfl) (by simp) (each_cons _ rfl ?_ (each_cons _ rfl ?_ (each_nil)))
         ·
          refine qo0 1 [(1, .go (owns 4 0 1))] [6, 18, 20] [(19, .int .i64 0)] ?_
          refine od_ ?_
          refine a1 3 rfl ?_
          refine mo0 1 [(3, .go (owns 5 0 1))] [6, 19, 20] (fun _ => []) (fun _ L => (L.set 5 (bx (γ4 3) (#[.slice (some ⟨g52, 0, none⟩) n cq52]) 24))) (fun _ => ?_)
          refine od_ ?_
          refine tk (m := 0) [4, 5] [] [6] [(7, .int .i64 0), (8, .int .i64 0)] ([]) #[true, true, true, true, true, true] al0 ?_
          exact any_weak hm [6, 7, 8] (by kernel_rfl) rfl rfl rfl
         ·
          refine mo0 1 [(3, .go (owns 5 0 1))] [6, 9, 20] (fun _ => []) (fun _ L => (L.set 5 (bx (γ4 3) (#[.slice (some ⟨g52, 0, none⟩) n cq52]) 24))) (fun _ => ?_)
          refine od_ ?_
          refine a1 1 rfl ?_
          refine qo0 1 [(1, .go (owns 4 0 1))] [6, 20] [(19, .int .i64 0)] ?_
          refine od_ ?_
          refine tk (m := 0) [4, 5] [] [6] [(7, .int .i64 0), (8, .int .i64 0)] ([]) #[true, true, true, true, true, true] al0 ?_
          exact any_weak hm [6, 7, 8] (by kernel_rfl) rfl rfl rfl
        ·
         refine qo0 1 [(1, .go (owns 4 0 1))] [6, 10, 20] [(19, .int .i64 0)] ?_
         refine od_ ?_
         refine a1 0 rfl ?_
         refine qo0 1 [(0, .go (owns 0 0 1))] [6, 19, 20] [(18, .agg #[.slice (some ⟨g52, 0, none⟩) n cq52])] ?_
         refine od_ ?_
         refine a1 3 rfl ?_
         refine mo0 1 [(3, .go (owns 5 0 1))] [6, 19, 20] (fun _ => []) (fun _ L => (L.set 5 (bx (γ4 3) (#[.slice (some ⟨g52, 0, none⟩) n cq52]) 24))) (fun _ => ?_)
         refine od_ ?_
         refine tk (m := 0) [4, 5] [] [6] [(7, .int .i64 0), (8, .int .i64 0)] ([]) #[true, true, true, true, true, true] al0 ?_
         exact any_weak hm [6, 7, 8] (by kernel_rfl) rfl rfl rfl
       refine any_nil (by kernel_rfl) ?_
       refine ds_ (bk (owns 5 0 1) (.tuple #[.agg #[.slice (some ⟨g52, 0, none⟩) n cq52], .int .i64 0, .int .i64 0]) (mo0 8 [(9, .go (owns 0 0 1))] [4, 7] (fun γ278 => [(8, .pointer (some ⟨γ278 0, 0, none⟩)), (10, .int .i64 0)]) (fun γ278 L => bx (γ278 0) (#[.slice (some ⟨g52, 0, none⟩) n cq52]) 24 :: L) (fun γ278 => on_ (ds_ (sq_ ?_)))))
       refine at_any (by kernel_rfl) ?_
       refine tk (m := 5) [2] [] [4, 7, 8] [(21, .int .i64 0)] ([]) #[false, false, true, false, false, false] al0 ?_
       refine any_cut 0 #[true, true, true, true, true, true] ([(4, .pointer (some ⟨γ1 1, 0, none⟩)), (5, .bool y105.pending), (6, .int .i64 0)]) ([bx (γ278 0) (#[.slice (some ⟨g52, 0, none⟩) n cq52]) 24, bx (γ260 0) (#[.slice (some ⟨g52, 0, none⟩) n cq52]) 24, bx (γ101 0) (#[.slice (some ⟨g52, 0, none⟩) n cq52]) 24, bx (γ7 1) (#[.slice (some ⟨g52, 0, none⟩) n cq52]) 24, bx (γ7 0) (#[.slice (some ⟨b166, o166, none⟩) n cap]) 24, bx (γ5 0) (#[.int .i64 0]) 3, bx (γ4 3) (#[.slice (some ⟨g52, 0, none⟩) n cq52]) 24, bx (γ4 2) (#[.func (.func 41) #[] #[.pointer (some ⟨γ2 0, 0, none⟩)]]) 75, bx (γ4 1) (#[.int .i64 k]) 3, bx (γ4 0) (#[.slice (some ⟨b166, o166, none⟩) n cap]) 24, bx (γ2 0) (#[.bool y105.pending]) 4, bx (γ1 1) (#[.slice (some ⟨g52, 0, none⟩) n cq52]) 24, bx (γ1 0) (#[.slice (some ⟨b166, o166, none⟩) n cap]) 24, bx g52 ((cs52).setIfInBounds (0 + (posB l k) * 5 + 3) (.bool false)) 40]) ?_ (fun hm => ?_)
       rotate_left
       ·
        refine any_fork [0, 1] (by kernel_rfl) (by simp) (each_cons _ rfl ?_ (each_cons _ rfl ?_ (each_nil)))
        ·
         refine qo0 1 [(0, .go (owns 0 0 1))] [4, 7, 21] [(19, .agg #[.slice (some ⟨g52, 0, none⟩) n cq52])] ?_
         refine od_ ?_
         refine any_fork [1, 3] (by kernel_rfl) (by simp) (each_cons _ rfl ?_ (each_cons _ rfl ?_ (each_nil)))
         ·
          refine qo0 1 [(1, .go (owns 10 0 1))] [4, 19, 21] [(20, .bool y105.pending)] ?_
          refine od_ ?_
          refine a1 3 rfl ?_
          refine mo0 1 [(3, .go (owns 11 0 1))] [4, 20, 21] (fun _ => []) (fun _ L => (L.set 11 (bx (γ1 1) (#[.slice (some ⟨g52, 0, none⟩) n cq52]) 24))) (fun _ => ?_)
          refine od_ ?_
          refine tk (m := 0) [4, 5] [] [4] [(5, .bool y105.pending), (6, .int .i64 0)] ([]) #[true, true, true, true, true, true] al0 ?_
          exact any_weak hm [4, 5, 6] (by kernel_rfl) rfl rfl rfl
         ·
          refine mo0 1 [(3, .go (owns 11 0 1))] [4, 7, 21] (fun _ => []) (fun _ L => (L.set 11 (bx (γ1 1) (#[.slice (some ⟨g52, 0, none⟩) n cq52]) 24))) (fun _ => ?_)
          refine od_ ?_
          refine a1 1 rfl ?_
          refine qo0 1 [(1, .go (owns 10 0 1))] [4, 21] [(20, .bool y105.pending)] ?_
          refine od_ ?_
          refine tk (m := 0) [4, 5] [] [4] [(5, .bool y105.pending), (6, .int .i64 0)] ([]) #[true, true, true, true, true, true] al0 ?_
          exact any_weak hm [4, 5, 6] (by kernel_rfl) rfl rfl rfl
        ·
         refine qo0 1 [(1, .go (owns 10 0 1))] [4, 8, 21] [(20, .bool y105.pending)] ?_
         refine od_ ?_
         refine a1 0 rfl ?_
         refine qo0 1 [(0, .go (owns 0 0 1))] [4, 20, 21] [(19, .agg #[.slice (some ⟨g52, 0, none⟩) n cq52])] ?_
         refine od_ ?_
         refine a1 3 rfl ?_
         refine mo0 1 [(3, .go (owns 11 0 1))] [4, 20, 21] (fun _ => []) (fun _ L => (L.set 11 (bx (γ1 1) (#[.slice (some ⟨g52, 0, none⟩) n cq52]) 24))) (fun _ => ?_)
         refine od_ ?_
         refine tk (m := 0) [4, 5] [] [4] [(5, .bool y105.pending), (6, .int .i64 0)] ([]) #[true, true, true, true, true, true] al0 ?_
         exact any_weak hm [4, 5, 6] (by kernel_rfl) rfl rfl rfl
       refine any_nil (by kernel_rfl) ?_
       refine ds_ (rt (owns 11 0 1) (.tuple #[.agg #[.slice (some ⟨g52, 0, none⟩) n cq52], .bool y105.pending, .int .i64 0]) ?_)
       exact fun w' hw => by rw [clearV_ok q9 hg105, pos_of hg105]; exact ⟨_, _, _, _, rfl, (SlO.ofOwn (hOw52.put (x' := (⟨y105.num, y105.vcpu, y105.peer, false, y105.masked⟩ : Port)) hnq52 hy105 (f := 3) (by decide) rfl) (len_set hnq52)), hw.below, hw.tailN 13⟩
end Go.Proofs.Ytfhlmijdokfdpaa

/-! event.Raise. -/
namespace Go.Proofs.Ytfhlmijdokfdpaa
open Go Go.RowKit

set_option maxRecDepth 100000 in
theorem raise_d (p : Option Addr) (n cap : Nat) (l : List Port) (k : Int) (w : World)
 (hsl : Sv w p l) (hn : n = l.length) (hb : n ≤ 1000)
 : Calls Try.prog 44 #[.agg #[.slice p n cap], .int .i64 k] w fun e w' => ∃ q m capq Y, e = .returned (.tuple #[.agg #[.slice q m capq], .int .i64 (turnV l k (fun x => (⟨x.num, x.vcpu, x.peer, true, x.masked⟩ : Port))).2.1, .int .i64 (turnV l k (fun x => (⟨x.num, x.vcpu, x.peer, true, x.masked⟩ : Port))).2.2]) ∧ SlO 40 Y q m capq (turnV l k (fun x => (⟨x.num, x.vcpu, x.peer, true, x.masked⟩ : Port))).1 ∧ Below w.heap.size w w' ∧ Hs w Y w' := by
 refine enter (Hs.start w) Try.func44 rfl Try.ntmps44 rfl (sq_ (ma0 [] [1] (fun γ1 => [(2, .pointer (some ⟨γ1 0, 0, none⟩)), (4, .pointer (some ⟨γ1 1, 0, none⟩))]) (fun γ1 L => bx (γ1 1) (#[.slice none 0 0]) 24 :: bx (γ1 0) (#[.slice p n cap]) 24 :: L) (fun γ1 => ds_ (sq_ (ao_ (qo0 2 [(0, .go (owns 1 0 1))] [4] [(7, .agg #[.slice p n cap]), (8, .int .i64 k)] (ops_inline (g := 40) (args := #[.agg #[.slice p n cap], .int .i64 k, .func (.func 67) #[] #[]]) (by kernel_rfl) (by kernel_rfl) (by kernel_rfl) (fun args w => Try.call40 args w) Try.func40 rfl Try.ntmps40 rfl (sq_ (ma0 [] [] (fun γ3 => [(3, .pointer (some ⟨γ3 0, 0, none⟩)), (4, .pointer (some ⟨γ3 1, 0, none⟩)), (5, .pointer (some ⟨γ3 2, 0, none⟩)), (6, .pointer (some ⟨γ3 3, 0, none⟩))]) (fun γ3 L => bx (γ3 3) (#[.slice none 0 0]) 24 :: bx (γ3 2) (#[.func (.func 67) #[] #[]]) 75 :: bx (γ3 1) (#[.int .i64 k]) 3 :: bx (γ3 0) (#[.slice p n cap]) 24 :: L) (fun γ3 => ds_ (sq_ (ma0 [(1, .go (owns 0 0 1))] [3, 4, 5, 6] (fun γ4 => [(9, .pointer (some ⟨γ4 0, 0, none⟩))]) (fun γ4 L => bx (γ4 0) (#[.int .i64 0]) 3 :: L) (fun γ4 => ds_ (sq_ (ao_ (qo0 2 [(0, .go (owns 4 0 1))] [6, 9] [(13, .agg #[.slice p n cap]), (14, .func (.func 61) #[] #[.pointer (some ⟨γ3 1, 0, none⟩), .pointer (some ⟨γ3 2, 0, none⟩), .pointer (some ⟨γ3 0, 0, none⟩), .pointer (some ⟨γ4 0, 0, none⟩)])] (ops_inline (g := 54) (args := #[.agg #[.slice p n cap], .func (.func 61) #[] #[.pointer (some ⟨γ3 1, 0, none⟩), .pointer (some ⟨γ3 2, 0, none⟩), .pointer (some ⟨γ3 0, 0, none⟩), .pointer (some ⟨γ4 0, 0, none⟩)]]) (by kernel_rfl) (by kernel_rfl) (by kernel_rfl) (fun args w => Try.call54 args w) Try.func54 rfl Try.ntmps54 rfl (sq_ (ma0 [] [1] (fun γ6 => [(2, .pointer (some ⟨γ6 0, 0, none⟩)), (4, .pointer (some ⟨γ6 1, 0, none⟩))]) (fun γ6 L => bx (γ6 1) (#[.slice none 0 0]) 24 :: bx (γ6 0) (#[.slice p n cap]) 24 :: L) (fun γ6 => ds_ (sq_ (sq_ (ao_ (qo0 1 [(0, .go (owns 1 0 1))] [1, 2, 4] [(9, .agg #[.slice p n cap])] ?_))))))))))))))))))))))))
 rcases q8 : rightB l with _ | _
 ·
  refine cD (.int .i64 260) Try.call16 (fun w hw => by have := check_d p n cap l w (hsl.kept hw.below) hn hb; rw [q8] at this; exact this) (qo0 1 [] [1, 2, 4] [(6, .int .i64 260)] (on_ (ds_ (sq_ (qa0 [] [1, 2, 4, 6] [(12, .bool true)] (ds_ (t_ (sq_ (qa0 [(2, .go (owns 0 0 1))] [4] [(5, .int .i64 260)] (ds_ (bk (owns 0 0 1) (.tuple #[.agg #[.slice none 0 0], .int .i64 260]) (mo0 6 [(7, .go (owns 0 0 1))] [6, 9] (fun γ12 => [(10, .pointer (some ⟨γ12 0, 0, none⟩)), (11, .int .i64 260)]) (fun γ12 L => bx (γ12 0) (#[.slice none 0 0]) 24 :: L) (fun γ12 => on_ (ds_ (sq_ ?_)))))))))))))))
  refine at_any (by kernel_rfl) ?_
  refine tk (m := 5) [2] [] [6, 9, 10] [(20, .int .i64 260)] ([]) #[false, false, true, false, false, false] al0 ?_
  refine any_cut 0 #[true, true, true, true, true, true] ([(6, .pointer (some ⟨γ3 3, 0, none⟩)), (7, .int .i64 0), (8, .int .i64 260)]) ([bx (γ12 0) (#[.slice none 0 0]) 24, bx (γ6 1) (#[.slice none 0 0]) 24, bx (γ6 0) (#[.slice p n cap]) 24, bx (γ4 0) (#[.int .i64 0]) 3, bx (γ3 3) (#[.slice none 0 0]) 24, bx (γ3 2) (#[.func (.func 67) #[] #[]]) 75, bx (γ3 1) (#[.int .i64 k]) 3, bx (γ3 0) (#[.slice p n cap]) 24, bx (γ1 1) (#[.slice none 0 0]) 24, bx (γ1 0) (#[.slice p n cap]) 24]) ?_ (fun hm => ?_)
  rotate_left
  ·
   refine any_fork [0, 1] (by kernel_rfl) (by simp) (each_cons _ rfl ?_ (each_cons _ rfl ?_ (each_nil)))
   ·
    refine qo0 1 [(0, .go (owns 0 0 1))] [6, 9, 20] [(18, .agg #[.slice none 0 0])] ?_
    refine od_ ?_
    refine any_fork [1, 3] (by kernel_rfl) (by simp) (each_cons _ rfl ?_ (each_cons _ rfl ?_ (each_nil)))
    ·
     refine qo0 1 [(1, .go (owns 3 0 1))] [6, 18, 20] [(19, .int .i64 0)] ?_
     refine od_ ?_
     refine a1 3 rfl ?_
     refine qo0 1 [(3, .go (owns 4 0 1))] [6, 19, 20] [] ?_
     refine od_ ?_
     refine tk (m := 0) [4, 5] [] [6] [(7, .int .i64 0), (8, .int .i64 260)] ([]) #[true, true, true, true, true, true] al0 ?_
     exact any_weak hm [6, 7, 8] (by kernel_rfl) rfl rfl rfl
    ·
     refine qo0 1 [(3, .go (owns 4 0 1))] [6, 9, 20] [] ?_
     refine od_ ?_
     refine a1 1 rfl ?_
     refine qo0 1 [(1, .go (owns 3 0 1))] [6, 20] [(19, .int .i64 0)] ?_
     refine od_ ?_
     refine tk (m := 0) [4, 5] [] [6] [(7, .int .i64 0), (8, .int .i64 260)] ([]) #[true, true, true, true, true, true] al0 ?_
     exact any_weak hm [6, 7, 8] (by kernel_rfl) rfl rfl rfl
   ·
    refine qo0 1 [(1, .go (owns 3 0 1))] [6, 10, 20] [(19, .int .i64 0)] ?_
    refine od_ ?_
    refine a1 0 rfl ?_
    refine qo0 1 [(0, .go (owns 0 0 1))] [6, 19, 20] [(18, .agg #[.slice none 0 0])] ?_
    refine od_ ?_
    refine a1 3 rfl ?_
    refine qo0 1 [(3, .go (owns 4 0 1))] [6, 19, 20] [] ?_
    refine od_ ?_
    refine tk (m := 0) [4, 5] [] [6] [(7, .int .i64 0), (8, .int .i64 260)] ([]) #[true, true, true, true, true, true] al0 ?_
    exact any_weak hm [6, 7, 8] (by kernel_rfl) rfl rfl rfl
  refine any_nil (by kernel_rfl) ?_
  refine ds_ (bk (owns 4 0 1) (.tuple #[.agg #[.slice none 0 0], .int .i64 0, .int .i64 260]) (qo0 6 [(6, .go (owns 8 0 1))] [4] [(5, .int .i64 0), (6, .int .i64 260)] (on_ (ds_ (rt (owns 8 0 1) (.tuple #[.agg #[.slice none 0 0], .int .i64 0, .int .i64 260]) ?_)))))
  exact fun w' hw => by rw [turnV_bad q8]; exact ⟨none, 0, 0, [], rfl, SlO.nil, hw.below, hw.sub (List.nil_sublist _)⟩
 ·
  refine cD (.int .i64 0) Try.call16 (fun w hw => by have := check_d p n cap l w (hsl.kept hw.below) hn hb; rw [q8] at this; exact this) (qo0 1 [] [1, 2, 4] [(6, .int .i64 0)] (on_ (ds_ (sq_ (qa0 [] [1, 2, 4, 6] [(12, .bool false)] (ds_ (f_ (at_skip (ds_ (sq_ (ao_ (qo0 2 [(1, .go (owns 1 0 1))] [1, 4] [(16, .slice p n cap)] (cP (fun v L' => ∃ q capq Y, v = .slice q n capq ∧ L' = List.take 9 ([bx (γ6 1) (#[.slice none 0 0]) 24, bx (γ6 0) (#[.slice p n cap]) 24, bx (γ4 0) (#[.int .i64 0]) 3, bx (γ3 3) (#[.slice none 0 0]) 24, bx (γ3 2) (#[.func (.func 67) #[] #[]]) 75, bx (γ3 1) (#[.int .i64 k]) 3, bx (γ3 0) (#[.slice p n cap]) 24, bx (γ1 1) (#[.slice none 0 0]) 24, bx (γ1 0) (#[.slice p n cap]) 24]) ++ (Y ++ List.drop 9 ([bx (γ6 1) (#[.slice none 0 0]) 24, bx (γ6 0) (#[.slice p n cap]) 24, bx (γ4 0) (#[.int .i64 0]) 3, bx (γ3 3) (#[.slice none 0 0]) 24, bx (γ3 2) (#[.func (.func 67) #[] #[]]) 75, bx (γ3 1) (#[.int .i64 k]) 3, bx (γ3 0) (#[.slice p n cap]) 24, bx (γ1 1) (#[.slice none 0 0]) 24, bx (γ1 0) (#[.slice p n cap]) 24])) ∧ SlO 40 Y q n capq l) Try.call72 (fun w hw => (clone_d p n cap l w (hsl.kept hw.below) hn (by omega)).mono fun e w' ⟨q, capq, Y, he, hO, hb, hY⟩ => ⟨_, _, he, ⟨q, capq, Y, rfl, rfl, hO⟩, hw.join hb hY 9⟩) ?_)))))))))))))
  rintro v34 L34 ⟨q34, cq34, Y34, rfl, rfl, hO34⟩
  have hnq34 := hO34.len
  rcases hO34.parts with ⟨rfl, rfl, hz34⟩ | ⟨g34, cs34, rfl, rfl, hOw34⟩
  ·
   refine mo0 3 [(5, .go (owns 0 0 1))] [1, 4] (fun γ35 => [(7, .pointer (some ⟨γ35 0, 0, none⟩))]) (fun γ35 L => bx (γ35 0) (#[.slice none n cq34]) 24 :: L) (fun γ35 => on_ (ds_ (sq_ (sq_ (ao_ (qo0 1 [] [4, 7] [(19, .func (.func 61) #[] #[.pointer (some ⟨γ3 1, 0, none⟩), .pointer (some ⟨γ3 2, 0, none⟩), .pointer (some ⟨γ3 0, 0, none⟩), .pointer (some ⟨γ4 0, 0, none⟩)])] (ops_inline (g := 61) (args := #[.pointer (some ⟨γ35 0, 0, none⟩), .pointer (some ⟨γ3 1, 0, none⟩), .pointer (some ⟨γ3 2, 0, none⟩), .pointer (some ⟨γ3 0, 0, none⟩), .pointer (some ⟨γ4 0, 0, none⟩)]) (by kernel_rfl) (by kernel_rfl) (by kernel_rfl) (fun args w => Try.call61 args w) Try.func61 rfl Try.ntmps61 rfl (sq_ (qa0 [] [0, 1, 2, 3, 4] [] (ds_ (sq_ ?_)))))))))))
   refine at_calm rfl (by kernel_rfl) (by kernel_rfl) ?_
   refine cm 5 [(3, .go (owns 0 0 1)), (4, .go (owns 6 0 1))] [0, 2, 3, 4] [(14, .slice none n cq34), (15, .int .i64 k)] ([]) (by kernel_rfl) rfl al0 ?_
   rcases hg39 : getB l k with _ | y39
   ·
    refine cK (.pointer none) Try.call32 (fun w hw => by have := port_d none n cq34 l k w (hO34.atN (A := []) hw) hnq34 (by omega) (ris_all (right_ris q8)) (ris_asc l 0 (right_ris q8)); rw [portV_none hg39] at this; exact this) ?_
    refine cm 1 [] [0, 2, 3, 4] [(7, .pointer none)] ([]) (by kernel_rfl) rfl al0 ?_
    refine calm_nil' ?_
    refine ds_ (sq_ (sq_ (qa0 [] [0, 2, 3, 4, 7] [(18, .bool true)] (ds_ (t_ (sq_ (qa0 [] [] [(6, .int .i64 4)] (ds_ (bk ([]) (.int .i64 4) (qo0 1 [] [4, 7] [(8, .int .i64 4)] (on_ (ds_ (sq_ (qa0 [] [4, 7, 8] [(22, .bool true)] (ds_ (t_ (sq_ (qa0 [(2, .go (owns 1 0 1))] [4] [(5, .int .i64 4)] (ds_ (bk (owns 1 0 1) (.tuple #[.agg #[.slice none 0 0], .int .i64 4]) (mo0 6 [(7, .go (owns 0 0 1))] [6, 9] (fun γ46 => [(10, .pointer (some ⟨γ46 0, 0, none⟩)), (11, .int .i64 4)]) (fun γ46 L => bx (γ46 0) (#[.slice none 0 0]) 24 :: L) (fun γ46 => on_ (ds_ (sq_ ?_))))))))))))))))))))))))
    refine at_any (by kernel_rfl) ?_
    refine tk (m := 5) [2] [] [6, 9, 10] [(20, .int .i64 4)] ([]) #[false, false, true, false, false, false] al0 ?_
    refine any_cut 0 #[true, true, true, true, true, true] ([(6, .pointer (some ⟨γ3 3, 0, none⟩)), (7, .int .i64 0), (8, .int .i64 4)]) ([bx (γ46 0) (#[.slice none 0 0]) 24, bx (γ35 0) (#[.slice none n cq34]) 24, bx (γ6 1) (#[.slice none 0 0]) 24, bx (γ6 0) (#[.slice p n cap]) 24, bx (γ4 0) (#[.int .i64 0]) 3, bx (γ3 3) (#[.slice none 0 0]) 24, bx (γ3 2) (#[.func (.func 67) #[] #[]]) 75, bx (γ3 1) (#[.int .i64 k]) 3, bx (γ3 0) (#[.slice p n cap]) 24, bx (γ1 1) (#[.slice none 0 0]) 24, bx (γ1 0) (#[.slice p n cap]) 24]) ?_ (fun hm => ?_)
    rotate_left
    ·
     refine any_fork [0, 1] (by kernel_rfl) (by simp) (each_cons _ rfl ?_ (each_cons _ rfl ?_ (each_nil)))
     ·
      refine qo0 1 [(0, .go (owns 0 0 1))] [6, 9, 20] [(18, .agg #[.slice none 0 0])] ?_
      refine od_ ?_
      refine any_fork [1, 3] (by kernel_rfl) (by simp) (each_cons _ rfl ?_ (each_cons _ rfl ?_ (each_nil)))
      ·
       refine qo0 1 [(1, .go (owns 4 0 1))] [6, 18, 20] [(19, .int .i64 0)] ?_
       refine od_ ?_
       refine a1 3 rfl ?_
       refine qo0 1 [(3, .go (owns 5 0 1))] [6, 19, 20] [] ?_
       refine od_ ?_
       refine tk (m := 0) [4, 5] [] [6] [(7, .int .i64 0), (8, .int .i64 4)] ([]) #[true, true, true, true, true, true] al0 ?_
       exact any_weak hm [6, 7, 8] (by kernel_rfl) rfl rfl rfl
      ·
       refine qo0 1 [(3, .go (owns 5 0 1))] [6, 9, 20] [] ?_
       refine od_ ?_
       refine a1 1 rfl ?_
       refine qo0 1 [(1, .go (owns 4 0 1))] [6, 20] [(19, .int .i64 0)] ?_
       refine od_ ?_
       refine tk (m := 0) [4, 5] [] [6] [(7, .int .i64 0), (8, .int .i64 4)] ([]) #[true, true, true, true, true, true] al0 ?_
       exact any_weak hm [6, 7, 8] (by kernel_rfl) rfl rfl rfl
     ·
      refine qo0 1 [(1, .go (owns 4 0 1))] [6, 10, 20] [(19, .int .i64 0)] ?_
      refine od_ ?_
      refine a1 0 rfl ?_
      refine qo0 1 [(0, .go (owns 0 0 1))] [6, 19, 20] [(18, .agg #[.slice none 0 0])] ?_
      refine od_ ?_
      refine a1 3 rfl ?_
      refine qo0 1 [(3, .go (owns 5 0 1))] [6, 19, 20] [] ?_
      refine od_ ?_
      refine tk (m := 0) [4, 5] [] [6] [(7, .int .i64 0), (8, .int .i64 4)] ([]) #[true, true, true, true, true, true] al0 ?_
      exact any_weak hm [6, 7, 8] (by kernel_rfl) rfl rfl rfl
    refine any_nil (by kernel_rfl) ?_
    refine ds_ (bk (owns 5 0 1) (.tuple #[.agg #[.slice none 0 0], .int .i64 0, .int .i64 4]) (qo0 6 [(6, .go (owns 9 0 1))] [4] [(5, .int .i64 0), (6, .int .i64 4)] (on_ (ds_ (rt (owns 9 0 1) (.tuple #[.agg #[.slice none 0 0], .int .i64 0, .int .i64 4]) ?_)))))
    exact fun w' hw => by rw [turnV_none q8 hg39]; exact ⟨none, 0, 0, [], rfl, SlO.nil, hw.below, hw.sub (List.nil_sublist _)⟩
   ·
    have hy39 := (get_pos (ris_asc l 0 (right_ris q8)) hg39).1
    exact absurd (List.getElem?_eq_some_iff.1 hy39).1 (by omega)
  ·
   refine mo0 3 [(5, .go (owns 0 0 1))] [1, 4] (fun γ66 => [(7, .pointer (some ⟨γ66 0, 0, none⟩))]) (fun γ66 L => bx (γ66 0) (#[.slice (some ⟨g34, 0, none⟩) n cq34]) 24 :: L) (fun γ66 => on_ (ds_ (sq_ (sq_ (ao_ (qo0 1 [] [4, 7] [(19, .func (.func 61) #[] #[.pointer (some ⟨γ3 1, 0, none⟩), .pointer (some ⟨γ3 2, 0, none⟩), .pointer (some ⟨γ3 0, 0, none⟩), .pointer (some ⟨γ4 0, 0, none⟩)])] (ops_inline (g := 61) (args := #[.pointer (some ⟨γ66 0, 0, none⟩), .pointer (some ⟨γ3 1, 0, none⟩), .pointer (some ⟨γ3 2, 0, none⟩), .pointer (some ⟨γ3 0, 0, none⟩), .pointer (some ⟨γ4 0, 0, none⟩)]) (by kernel_rfl) (by kernel_rfl) (by kernel_rfl) (fun args w => Try.call61 args w) Try.func61 rfl Try.ntmps61 rfl (sq_ (qa0 [] [0, 1, 2, 3, 4] [] (ds_ (sq_ ?_)))))))))))
   refine at_calm rfl (by kernel_rfl) (by kernel_rfl) ?_
   refine cm 5 [(3, .go (owns 0 0 1)), (4, .go (owns 6 0 1))] [0, 2, 3, 4] [(14, .slice (some ⟨g34, 0, none⟩) n cq34), (15, .int .i64 k)] ([]) (by kernel_rfl) rfl al0 ?_
   rcases hg70 : getB l k with _ | y70
   ·
    refine cK (.pointer none) Try.call32 (fun w hw => by have := port_d (some ⟨g34, 0, none⟩) n cq34 l k w (hO34.atN (A := [_, _, _, _, _, _, _, _, _, _]) hw) hnq34 (by omega) (ris_all (right_ris q8)) (ris_asc l 0 (right_ris q8)); rw [portV_none hg70] at this; exact this) ?_
    refine cm 1 [] [0, 2, 3, 4] [(7, .pointer none)] ([]) (by kernel_rfl) rfl al0 ?_
    refine calm_nil' ?_
    refine ds_ (sq_ (sq_ (qa0 [] [0, 2, 3, 4, 7] [(18, .bool true)] (ds_ (t_ (sq_ (qa0 [] [] [(6, .int .i64 4)] (ds_ (bk ([]) (.int .i64 4) (qo0 1 [] [4, 7] [(8, .int .i64 4)] (on_ (ds_ (sq_ (qa0 [] [4, 7, 8] [(22, .bool true)] (ds_ (t_ (sq_ (qa0 [(2, .go (owns 1 0 1))] [4] [(5, .int .i64 4)] (ds_ (bk (owns 1 0 1) (.tuple #[.agg #[.slice none 0 0], .int .i64 4]) (mo0 6 [(7, .go (owns 0 0 1))] [6, 9] (fun γ77 => [(10, .pointer (some ⟨γ77 0, 0, none⟩)), (11, .int .i64 4)]) (fun γ77 L => bx (γ77 0) (#[.slice none 0 0]) 24 :: L) (fun γ77 => on_ (ds_ (sq_ ?_))))))))))))))))))))))))
    refine at_any (by kernel_rfl) ?_
    refine tk (m := 5) [2] [] [6, 9, 10] [(20, .int .i64 4)] ([]) #[false, false, true, false, false, false] al0 ?_
    refine any_cut 0 #[true, true, true, true, true, true] ([(6, .pointer (some ⟨γ3 3, 0, none⟩)), (7, .int .i64 0), (8, .int .i64 4)]) ([bx (γ77 0) (#[.slice none 0 0]) 24, bx (γ66 0) (#[.slice (some ⟨g34, 0, none⟩) n cq34]) 24, bx (γ6 1) (#[.slice none 0 0]) 24, bx (γ6 0) (#[.slice p n cap]) 24, bx (γ4 0) (#[.int .i64 0]) 3, bx (γ3 3) (#[.slice none 0 0]) 24, bx (γ3 2) (#[.func (.func 67) #[] #[]]) 75, bx (γ3 1) (#[.int .i64 k]) 3, bx (γ3 0) (#[.slice p n cap]) 24, bx (γ1 1) (#[.slice none 0 0]) 24, bx (γ1 0) (#[.slice p n cap]) 24, bx g34 cs34 40]) ?_ (fun hm => ?_)
    rotate_left
    ·
     refine any_fork [0, 1] (by kernel_rfl) (by simp) (each_cons _ rfl ?_ (each_cons _ rfl ?_ (each_nil)))
     ·
      refine qo0 1 [(0, .go (owns 0 0 1))] [6, 9, 20] [(18, .agg #[.slice none 0 0])] ?_
      refine od_ ?_
      refine any_fork [1, 3] (by kernel_rfl) (by simp) (each_cons _ rfl ?_ (each_cons _ rfl ?_ (each_nil)))
      ·
       refine qo0 1 [(1, .go (owns 4 0 1))] [6, 18, 20] [(19, .int .i64 0)] ?_
       refine od_ ?_
       refine a1 3 rfl ?_
       refine qo0 1 [(3, .go (owns 5 0 1))] [6, 19, 20] [] ?_
       refine od_ ?_
       refine tk (m := 0) [4, 5] [] [6] [(7, .int .i64 0), (8, .int .i64 4)] ([]) #[true, true, true, true, true, true] al0 ?_
       exact any_weak hm [6, 7, 8] (by kernel_rfl) rfl rfl rfl
      ·
       refine qo0 1 [(3, .go (owns 5 0 1))] [6, 9, 20] [] ?_
       refine od_ ?_
       refine a1 1 rfl ?_
       refine qo0 1 [(1, .go (owns 4 0 1))] [6, 20] [(19, .int .i64 0)] ?_
       refine od_ ?_
       refine tk (m := 0) [4, 5] [] [6] [(7, .int .i64 0), (8, .int .i64 4)] ([]) #[true, true, true, true, true, true] al0 ?_
       exact any_weak hm [6, 7, 8] (by kernel_rfl) rfl rfl rfl
     ·
      refine qo0 1 [(1, .go (owns 4 0 1))] [6, 10, 20] [(19, .int .i64 0)] ?_
      refine od_ ?_
      refine a1 0 rfl ?_
      refine qo0 1 [(0, .go (owns 0 0 1))] [6, 19, 20] [(18, .agg #[.slice none 0 0])] ?_
      refine od_ ?_
      refine a1 3 rfl ?_
      refine qo0 1 [(3, .go (owns 5 0 1))] [6, 19, 20] [] ?_
      refine od_ ?_
      refine tk (m := 0) [4, 5] [] [6] [(7, .int .i64 0), (8, .int .i64 4)] ([]) #[true, true, true, true, true, true] al0 ?_
      exact any_weak hm [6, 7, 8] (by kernel_rfl) rfl rfl rfl
    refine any_nil (by kernel_rfl) ?_
    refine ds_ (bk (owns 5 0 1) (.tuple #[.agg #[.slice none 0 0], .int .i64 0, .int .i64 4]) (qo0 6 [(6, .go (owns 9 0 1))] [4] [(5, .int .i64 0), (6, .int .i64 4)] (on_ (ds_ (rt (owns 9 0 1) (.tuple #[.agg #[.slice none 0 0], .int .i64 0, .int .i64 4]) ?_)))))
    exact fun w' hw => by rw [turnV_none q8 hg70]; exact ⟨none, 0, 0, [], rfl, SlO.nil, hw.below, hw.sub (List.nil_sublist _)⟩
   ·
    have hy70 := (get_pos (ris_asc l 0 (right_ris q8)) hg70).1
    refine cK (.pointer (some ⟨g34, 0 + (posB l k) * 5, none⟩)) Try.call32 (fun w hw => by have := port_d (some ⟨g34, 0, none⟩) n cq34 l k w (hO34.atN (A := [_, _, _, _, _, _, _, _, _, _]) hw) hnq34 (by omega) (ris_all (right_ris q8)) (ris_asc l 0 (right_ris q8)); rw [portV_some hg70] at this; exact this) ?_
    refine cm 1 [] [0, 2, 3, 4] [(7, .pointer (some ⟨g34, 0 + (posB l k) * 5, none⟩))] ([]) (by kernel_rfl) rfl al0 ?_
    refine calm_nil' ?_
    refine ds_ (sq_ (sq_ (qa0 [] [0, 2, 3, 4, 7] [(18, .bool false)] (ds_ (f_ (at_skip (ds_ (sq_ ?_))))))))
    refine at_any (by kernel_rfl) ?_
    refine tk (m := 8) [1, 2, 3, 4] [] [2, 3, 4] [(21, .pointer (some ⟨g34, 0 + (posB l k) * 5, none⟩)), (24, .pointer (some ⟨γ66 0, 0, none⟩))] ([]) #[false, true, true, true, true, false, false, false, false, false, false, false] al0 ?_
    refine any_cut 6 #[true, true, true, true, true, true, false, false, false, false, false, false] ([(3, .pointer (some ⟨γ3 0, 0, none⟩)), (4, .pointer (some ⟨γ4 0, 0, none⟩)), (20, .func (.func 67) #[] #[]), (21, .pointer (some ⟨g34, 0 + (posB l k) * 5, none⟩)), (25, .slice (some ⟨g34, 0, none⟩) n cq34)]) ([bx (γ66 0) (#[.slice (some ⟨g34, 0, none⟩) n cq34]) 24, bx (γ6 1) (#[.slice none 0 0]) 24, bx (γ6 0) (#[.slice p n cap]) 24, bx (γ4 0) (#[.int .i64 0]) 3, bx (γ3 3) (#[.slice none 0 0]) 24, bx (γ3 2) (#[.func (.func 67) #[] #[]]) 75, bx (γ3 1) (#[.int .i64 k]) 3, bx (γ3 0) (#[.slice p n cap]) 24, bx (γ1 1) (#[.slice none 0 0]) 24, bx (γ1 0) (#[.slice p n cap]) 24, bx g34 cs34 40]) ?_ (fun hm => ?_)
    rotate_left
    ·
     refine any_fork [0, 5] (by kernel_rfl) (by simp) (each_cons _ rfl ?_ (each_cons _ rfl ?_ (each_nil)))
     ·
      refine qo0 1 [(0, .go (owns 5 0 1))] [3, 4, 21, 24] [(20, .func (.func 67) #[] #[])] ?_
      refine od_ ?_
      refine a1 5 rfl ?_
      refine qo0 1 [(5, .go (owns 0 0 1))] [3, 4, 20, 21] [(25, .slice (some ⟨g34, 0, none⟩) n cq34)] ?_
      refine od_ ?_
      exact any_weak hm [3, 4, 20, 21, 25] (by kernel_rfl) rfl rfl rfl
     ·
      refine qo0 1 [(5, .go (owns 0 0 1))] [2, 3, 4, 21] [(25, .slice (some ⟨g34, 0, none⟩) n cq34)] ?_
      refine od_ ?_
      refine a1 0 rfl ?_
      refine qo0 1 [(0, .go (owns 5 0 1))] [3, 4, 21, 25] [(20, .func (.func 67) #[] #[])] ?_
      refine od_ ?_
      exact any_weak hm [3, 4, 20, 21, 25] (by kernel_rfl) rfl rfl rfl
    refine a1 6 rfl ?_
    refine ops_inline (g := 67) (args := #[.pointer (some ⟨g34, 0 + (posB l k) * 5, none⟩), .slice (some ⟨g34, 0, none⟩) n cq34]) (by kernel_rfl) (by kernel_rfl) (by kernel_rfl) (fun args w => Try.call67 args w) Try.func67 rfl Try.ntmps67 rfl (sq_ (qa0 [] [0] [] (ds_ (sq_ (ma [(3, .go (ownps 10 (0 + (posB l k) * 5 + 3) [undef]))] [0] (fun _ => []) (fun _ L => (L.set 10 (bx g34 ((cs34).setIfInBounds (0 + (posB l k) * 5 + 3) (.bool true)) 40))) (fun _ => [0 + (posB l k) * 5 + 3 < (cs34).size]) (fun _ => (al1 (hOw34.room hnq34 hy70 (f := 3) (by decide)))) (fun _ => ds_ (sq_ (qa0 [] [] [(4, .pointer (some ⟨g34, 0 + (posB l k) * 5, none⟩)), (5, .int .i64 0)] (ds_ (bk ([]) (.tuple #[.pointer (some ⟨g34, 0 + (posB l k) * 5, none⟩), .int .i64 0]) ?_))))))))))
    refine od_ ?_
    refine tk (m := 0) [7, 8, 9, 10, 11] [] [3, 4] [(8, .pointer (some ⟨g34, 0 + (posB l k) * 5, none⟩)), (9, .int .i64 0)] ([]) #[true, true, true, true, true, true, true, true, true, true, true, true] al0 ?_
    refine any_nil (by kernel_rfl) ?_
    refine ds_ (sq_ (sq_ (qa0 [] [3, 4, 8, 9] [(30, .bool false)] (ds_ (f_ (at_skip (ds_ (sq_ ?_))))))))
    refine at_calm rfl (by kernel_rfl) (by kernel_rfl) ?_
    refine cm 6 [(1, .go (owns 7 0 1)), (5, .go (ownps 10 (0 + (posB l k) * 5) [.int .i64 y70.num]))] [4, 8] [(33, .slice p n cap), (37, .int .i64 y70.num)] (acellsP ((cs34).setIfInBounds (0 + (posB l k) * 5 + 3) (.bool true)) (0 + (posB l k) * 5) [.int .i64 y70.num]) (by kernel_rfl) rfl (rda_pre (((hOw34.put (x' := (⟨y70.num, y70.vcpu, y70.peer, true, y70.masked⟩ : Port)) hnq34 hy70 (f := 3) (by decide) rfl).rdx (len_set hnq34) (get_set hy70))) _ rfl) ?_
    skip
    ·
     obtain ⟨b114, o114, rfl⟩ := hsl.pos (i := posB l y70.num) (List.getElem?_eq_some_iff.1 (get_pos (ris_asc l 0 (right_ris q8)) (get_self hg70)).1).1
     refine cK (.pointer (some ⟨b114, o114 + (posB l y70.num) * 5, none⟩)) Try.call32 (fun w hw => by have := port_d (some ⟨b114, o114, none⟩) n cap l y70.num w (hsl.kept hw.below) hn (by omega) (ris_all (right_ris q8)) (ris_asc l 0 (right_ris q8)); rw [portV_some (get_self hg70)] at this; exact this) ?_
     refine cm 1 [] [4, 8] [(10, .pointer (some ⟨b114, o114 + (posB l y70.num) * 5, none⟩))] ([]) (by kernel_rfl) rfl al0 ?_
     refine calm_nil' ?_
     refine ds_ (sq_ (sq_ ?_))
     refine at_calm rfl (by kernel_rfl) (by kernel_rfl) ?_
     refine cm 3 [(2, .go (ownps 10 (0 + (posB l k) * 5) [.int .i64 y70.num, .int .i64 y70.vcpu, .int .i64 y70.peer, .bool true, .bool y70.masked]))] [4, 8, 10] [(41, .agg #[.int .i64 y70.num, .int .i64 y70.vcpu, .int .i64 y70.peer, .bool true, .bool y70.masked])] (acellsP ((cs34).setIfInBounds (0 + (posB l k) * 5 + 3) (.bool true)) (0 + (posB l k) * 5) [.int .i64 y70.num, .int .i64 y70.vcpu, .int .i64 y70.peer, .bool true, .bool y70.masked]) (by kernel_rfl) rfl (rda_pre (((hOw34.put (x' := (⟨y70.num, y70.vcpu, y70.peer, true, y70.masked⟩ : Port)) hnq34 hy70 (f := 3) (by decide) rfl).rdx (len_set hnq34) (get_set hy70))) _ rfl) ?_
     rcases q117 : (true && !y70.masked) with _ | _
     ·
      refine cK (.bool false) Try.call39 (fun w hw => by have := due_d (⟨y70.num, y70.vcpu, y70.peer, true, y70.masked⟩ : Port) w; rw [show dueB (⟨y70.num, y70.vcpu, y70.peer, true, y70.masked⟩ : Port) = false from q117] at this; exact this) ?_
      refine cm 18 [] [4, 8] [(60, .bool false)] ([]) (by kernel_rfl) rfl al0 ?_
      refine calm_nil' ?_
      refine ds_ (f_ (at_skip (ds_ (sq_ (qa0 [] [] [(6, .int .i64 0)] (ds_ (bk ([]) (.int .i64 0) (qo0 1 [] [4, 7] [(8, .int .i64 0)] (on_ (ds_ (sq_ (qa0 [] [4, 7, 8] [(22, .bool false)] (ds_ (f_ (at_skip (ds_ (sq_ (ma0 [(0, .go (owns 0 0 1)), (1, .go (owns 1 0 1))] [4] (fun _ => [(5, .int .i64 0)]) (fun _ L => (L.set 1 (bx (γ6 1) (#[.slice (some ⟨g34, 0, none⟩) n cq34]) 24))) (fun _ => ds_ (bk (owns 1 0 1) (.tuple #[.agg #[.slice (some ⟨g34, 0, none⟩) n cq34], .int .i64 0]) (mo0 6 [(7, .go (owns 0 0 1))] [6, 9] (fun γ123 => [(10, .pointer (some ⟨γ123 0, 0, none⟩)), (11, .int .i64 0)]) (fun γ123 L => bx (γ123 0) (#[.slice (some ⟨g34, 0, none⟩) n cq34]) 24 :: L) (fun γ123 => on_ (ds_ (sq_ ?_))))))))))))))))))))))))
      refine at_any (by kernel_rfl) ?_
      refine tk (m := 5) [2] [] [6, 9, 10] [(20, .int .i64 0)] ([]) #[false, false, true, false, false, false] al0 ?_
      refine any_cut 0 #[true, true, true, true, true, true] ([(6, .pointer (some ⟨γ3 3, 0, none⟩)), (7, .int .i64 0), (8, .int .i64 0)]) ([bx (γ123 0) (#[.slice (some ⟨g34, 0, none⟩) n cq34]) 24, bx (γ66 0) (#[.slice (some ⟨g34, 0, none⟩) n cq34]) 24, bx (γ6 1) (#[.slice (some ⟨g34, 0, none⟩) n cq34]) 24, bx (γ6 0) (#[.slice (some ⟨b114, o114, none⟩) n cap]) 24, bx (γ4 0) (#[.int .i64 0]) 3, bx (γ3 3) (#[.slice (some ⟨g34, 0, none⟩) n cq34]) 24, bx (γ3 2) (#[.func (.func 67) #[] #[]]) 75, bx (γ3 1) (#[.int .i64 k]) 3, bx (γ3 0) (#[.slice (some ⟨b114, o114, none⟩) n cap]) 24, bx (γ1 1) (#[.slice none 0 0]) 24, bx (γ1 0) (#[.slice (some ⟨b114, o114, none⟩) n cap]) 24, bx g34 ((cs34).setIfInBounds (0 + (posB l k) * 5 + 3) (.bool true)) 40]) ?_ (fun hm => ?_)
      rotate_left
      ·
       refine any_fork [0, 1] (by kernel_rfl) (by simp) (each_cons _ rfl ?_ (each_cons _ rfl ?_ (each_nil)))
       ·
        refine qo0 1 [(0, .go (owns 0 0 1))] [6, 9, 20] [(18, .agg #[.slice (some ⟨g34, 0, none⟩) n cq34])] ?_
        refine od_ ?_
        refine any_fork [1, 3] (by kernel_rfl) (by simp) (each_cons _ rfl ?_ (each_cons _ rfl ?_ (each_nil)))
        ·
         refine qo0 1 [(1, .go (owns 4 0 1))] [6, 18, 20] [(19, .int .i64 0)] ?_
         refine od_ ?_
         refine a1 3 rfl ?_
         refine mo0 1 [(3, .go (owns 5 0 1))] [6, 19, 20] (fun _ => []) (fun _ L => (L.set 5 (bx (γ3 3) (#[.slice (some ⟨g34, 0, none⟩) n cq34]) 24))) (fun _ => ?_)
         refine od_ ?_
         refine tk (m := 0) [4, 5] [] [6] [(7, .int .i64 0), (8, .int .i64 0)] ([]) #[true, true, true, true, true, true] al0 ?_
         exact any_weak hm [6, 7, 8] (by kernel_rfl) rfl rfl rfl
        ·
         refine mo0 1 [(3, .go (owns 5 0 1))] [6, 9, 20] (fun _ => []) (fun _ L => (L.set 5 (bx (γ3 3) (#[.slice (some ⟨g34, 0, none⟩) n cq34]) 24))) (fun _ => ?_)
         refine od_ ?_
         refine a1 1 rfl ?_
         refine qo0 1 [(1, .go (owns 4 0 1))] [6, 20] [(19, .int .i64 0)] ?_
         refine od_ ?_
         refine tk (m := 0) [4, 5] [] [6] [(7, .int .i64 0), (8, .int .i64 0)] ([]) #[true, true, true, true, true, true] al0 ?_
         exact any_weak hm [6, 7, 8] (by kernel_rfl) rfl rfl rfl
       ·
        refine qo0 1 [(1, .go (owns 4 0 1))] [6, 10, 20] [(19, .int .i64 0)] ?_
        refine od_ ?_
        refine a1 0 rfl ?_
        refine qo0 1 [(0, .go (owns 0 0 1))] [6, 19, 20] [(18, .agg #[.slice (some ⟨g34, 0, none⟩) n cq34])] ?_
        refine od_ ?_
        refine a1 3 rfl ?_
        refine mo0 1 [(3, .go (owns 5 0 1))] [6, 19, 20] (fun _ => []) (fun _ L => (L.set 5 (bx (γ3 3) (#[.slice (some ⟨g34, 0, none⟩) n cq34]) 24))) (fun _ => ?_)
        refine od_ ?_
        refine tk (m := 0) [4, 5] [] [6] [(7, .int .i64 0), (8, .int .i64 0)] ([]) #[true, true, true, true, true, true] al0 ?_
        exact any_weak hm [6, 7, 8] (by kernel_rfl) rfl rfl rfl
      refine any_nil (by kernel_rfl) ?_
      refine ds_ (bk (owns 5 0 1) (.tuple #[.agg #[.slice (some ⟨g34, 0, none⟩) n cq34], .int .i64 0, .int .i64 0]) (mo0 6 [(6, .go (owns 9 0 1))] [4] (fun _ => [(5, .int .i64 0), (6, .int .i64 0)]) (fun _ L => (L.set 9 (bx (γ1 1) (#[.slice (some ⟨g34, 0, none⟩) n cq34]) 24))) (fun _ => on_ (ds_ (rt (owns 9 0 1) (.tuple #[.agg #[.slice (some ⟨g34, 0, none⟩) n cq34], .int .i64 0, .int .i64 0]) ?_)))))
      exact fun w' hw => by rw [turnV_ok q8 hg70, turnP_no (y := y70) (z := (⟨y70.num, y70.vcpu, y70.peer, true, y70.masked⟩ : Port)) (fun ⟨a, _⟩ => absurd (a.symm.trans q117) (by decide)), pos_of hg70]; exact ⟨_, _, _, _, rfl, (SlO.ofOwn (hOw34.put (x' := (⟨y70.num, y70.vcpu, y70.peer, true, y70.masked⟩ : Port)) hnq34 hy70 (f := 3) (by decide) rfl) (len_set hnq34)), hw.below, hw.tailN 11⟩
     ·
      refine cK (.bool true) Try.call39 (fun w hw => by have := due_d (⟨y70.num, y70.vcpu, y70.peer, true, y70.masked⟩ : Port) w; rw [show dueB (⟨y70.num, y70.vcpu, y70.peer, true, y70.masked⟩ : Port) = true from q117] at this; exact this) ?_
      refine cm 4 [(7, .go (outs b114 (o114 + (posB l y70.num) * 5) [.int .i64 y70.num, .int .i64 y70.vcpu, .int .i64 y70.peer, .bool y70.pending, .bool y70.masked]))] [4, 8, 10] [(43, .bool true), (46, .agg #[.int .i64 y70.num, .int .i64 y70.vcpu, .int .i64 y70.peer, .bool y70.pending, .bool y70.masked])] (cellsP w b114 (o114 + (posB l y70.num) * 5) [.int .i64 y70.num, .int .i64 y70.vcpu, .int .i64 y70.peer, .bool y70.pending, .bool y70.masked]) (by kernel_rfl) rfl (rd_pre (hsl.get (get_pos (ris_asc l 0 (right_ris q8)) (get_self hg70)).1) _ rfl) ?_
      rcases q143 : (y70.pending && !y70.masked) with _ | _
      ·
       refine cK (.bool false) Try.call39 (fun w hw => by have := due_d (⟨y70.num, y70.vcpu, y70.peer, y70.pending, y70.masked⟩ : Port) w; rw [show dueB (⟨y70.num, y70.vcpu, y70.peer, y70.pending, y70.masked⟩ : Port) = false from q143] at this; exact this) ?_
       refine cm 13 [] [4, 8] [(60, .bool true)] ([]) (by kernel_rfl) rfl al0 ?_
       refine calm_nil' ?_
       refine ds_ (t_ (ma [(3, .go (ownps 10 (0 + (posB l k) * 5 + 1) [.int .i64 y70.vcpu])), (4, .go (owns 3 0 1))] [] (fun _ => []) (fun _ L => (L.set 3 (bx (γ4 0) (#[.int .i64 y70.vcpu]) 3))) (fun _ => acellsP ((cs34).setIfInBounds (0 + (posB l k) * 5 + 3) (.bool true)) (0 + (posB l k) * 5 + 1) [.int .i64 y70.vcpu]) (fun _ => (rda_part (((hOw34.put (x' := (⟨y70.num, y70.vcpu, y70.peer, true, y70.masked⟩ : Port)) hnq34 hy70 (f := 3) (by decide) rfl).rdx (len_set hnq34) (get_set hy70))) 1 _ rfl)) (fun _ => ds_ (sq_ (qa0 [] [] [(6, .int .i64 0)] (ds_ (bk ([]) (.int .i64 0) (qo0 1 [] [4, 7] [(8, .int .i64 0)] (on_ (ds_ (sq_ (qa0 [] [4, 7, 8] [(22, .bool false)] (ds_ (f_ (at_skip (ds_ (sq_ (ma0 [(0, .go (owns 0 0 1)), (1, .go (owns 1 0 1))] [4] (fun _ => [(5, .int .i64 0)]) (fun _ L => (L.set 1 (bx (γ6 1) (#[.slice (some ⟨g34, 0, none⟩) n cq34]) 24))) (fun _ => ds_ (bk (owns 1 0 1) (.tuple #[.agg #[.slice (some ⟨g34, 0, none⟩) n cq34], .int .i64 0]) (mo0 6 [(7, .go (owns 0 0 1))] [6, 9] (fun γ150 => [(10, .pointer (some ⟨γ150 0, 0, none⟩)), (11, .int .i64 0)]) (fun γ150 L => bx (γ150 0) (#[.slice (some ⟨g34, 0, none⟩) n cq34]) 24 :: L) (fun γ150 => on_ (ds_ (sq_ ?_))))))))))))))))))))))))
       refine at_any (by kernel_rfl) ?_
       refine tk (m := 5) [2] [] [6, 9, 10] [(20, .int .i64 0)] ([]) #[false, false, true, false, false, false] al0 ?_
       refine any_cut 0 #[true, true, true, true, true, true] ([(6, .pointer (some ⟨γ3 3, 0, none⟩)), (7, .int .i64 y70.vcpu), (8, .int .i64 0)]) ([bx (γ150 0) (#[.slice (some ⟨g34, 0, none⟩) n cq34]) 24, bx (γ66 0) (#[.slice (some ⟨g34, 0, none⟩) n cq34]) 24, bx (γ6 1) (#[.slice (some ⟨g34, 0, none⟩) n cq34]) 24, bx (γ6 0) (#[.slice (some ⟨b114, o114, none⟩) n cap]) 24, bx (γ4 0) (#[.int .i64 y70.vcpu]) 3, bx (γ3 3) (#[.slice (some ⟨g34, 0, none⟩) n cq34]) 24, bx (γ3 2) (#[.func (.func 67) #[] #[]]) 75, bx (γ3 1) (#[.int .i64 k]) 3, bx (γ3 0) (#[.slice (some ⟨b114, o114, none⟩) n cap]) 24, bx (γ1 1) (#[.slice none 0 0]) 24, bx (γ1 0) (#[.slice (some ⟨b114, o114, none⟩) n cap]) 24, bx g34 ((cs34).setIfInBounds (0 + (posB l k) * 5 + 3) (.bool true)) 40]) ?_ (fun hm => ?_)
       rotate_left
       ·
        refine any_fork [0, 1] (by kernel_rfl) (by simp) (each_cons _ rfl ?_ (each_cons _ rfl ?_ (each_nil)))
        ·
         refine qo0 1 [(0, .go (owns 0 0 1))] [6, 9, 20] [(18, .agg #[.slice (some ⟨g34, 0, none⟩) n cq34])] ?_
         refine od_ ?_
         refine any_fork [1, 3] (by kernel_rfl) (by simp) (each_cons _ rfl ?_ (each_cons _ rfl ?_ (each_nil)))
         ·
          refine qo0 1 [(1, .go (owns 4 0 1))] [6, 18, 20] [(19, .int .i64 y70.vcpu)] ?_
          refine od_ ?_
          refine a1 3 rfl ?_
          refine mo0 1 [(3, .go (owns 5 0 1))] [6, 19, 20] (fun _ => []) (fun _ L => (L.set 5 (bx (γ3 3) (#[.slice (some ⟨g34, 0, none⟩) n cq34]) 24))) (fun _ => ?_)
          refine od_ ?_
          refine tk (m := 0) [4, 5] [] [6] [(7, .int .i64 y70.vcpu), (8, .int .i64 0)] ([]) #[true, true, true, true, true, true] al0 ?_
          exact any_weak hm [6, 7, 8] (by kernel_rfl) rfl rfl rfl
         ·
          refine mo0 1 [(3, .go (owns 5 0 1))] [6, 9, 20] (fun _ => []) (fun _ L => (L.set 5 (bx (γ3 3) (#[.slice (some ⟨g34, 0, none⟩) n cq34]) 24))) (fun _ => ?_)
          refine od_ ?_
          refine a1 1 rfl ?_
          refine qo0 1 [(1, .go (owns 4 0 1))] [6, 20] [(19, .int .i64 y70.vcpu)] ?_
          refine od_ ?_
          refine tk (m := 0) [4, 5] [] [6] [(7, .int .i64 y70.vcpu), (8, .int .i64 0)] ([]) #[true, true, true, true, true, true] al0 ?_
          exact any_weak hm [6, 7, 8] (by kernel_rfl) rfl rfl rfl
        ·
         refine qo0 1 [(1, .go (owns 4 0 1))] [6, 10, 20] [(19, .int .i64 y70.vcpu)] ?_
         refine od_ ?_
         refine a1 0 rfl ?_
         refine qo0 1 [(0, .go (owns 0 0 1))] [6, 19, 20] [(18, .agg #[.slice (some ⟨g34, 0, none⟩) n cq34])] ?_
         refine od_ ?_
         refine a1 3 rfl ?_
         refine mo0 1 [(3, .go (owns 5 0 1))] [6, 19, 20] (fun _ => []) (fun _ L => (L.set 5 (bx (γ3 3) (#[.slice (some ⟨g34, 0, none⟩) n cq34]) 24))) (fun _ => ?_)
         refine od_ ?_
         refine tk (m := 0) [4, 5] [] [6] [(7, .int .i64 y70.vcpu), (8, .int .i64 0)] ([]) #[true, true, true, true, true, true] al0 ?_
         exact any_weak hm [6, 7, 8] (by kernel_rfl) rfl rfl rfl
       refine any_nil (by kernel_rfl) ?_
       refine ds_ (bk (owns 5 0 1) (.tuple #[.agg #[.slice (some ⟨g34, 0, none⟩) n cq34], .int .i64 y70.vcpu, .int .i64 0]) (mo0 6 [(6, .go (owns 9 0 1))] [4] (fun _ => [(5, .int .i64 y70.vcpu), (6, .int .i64 0)]) (fun _ L => (L.set 9 (bx (γ1 1) (#[.slice (some ⟨g34, 0, none⟩) n cq34]) 24))) (fun _ => on_ (ds_ (rt (owns 9 0 1) (.tuple #[.agg #[.slice (some ⟨g34, 0, none⟩) n cq34], .int .i64 y70.vcpu, .int .i64 0]) ?_)))))
       exact fun w' hw => by rw [turnV_ok q8 hg70, turnP_yes (y := y70) (z := (⟨y70.num, y70.vcpu, y70.peer, true, y70.masked⟩ : Port)) q117 (.inl q143), pos_of hg70]; exact ⟨_, _, _, _, rfl, (SlO.ofOwn (hOw34.put (x' := (⟨y70.num, y70.vcpu, y70.peer, true, y70.masked⟩ : Port)) hnq34 hy70 (f := 3) (by decide) rfl) (len_set hnq34)), hw.below, hw.tailN 11⟩
      ·
       refine cK (.bool true) Try.call39 (fun w hw => by have := due_d (⟨y70.num, y70.vcpu, y70.peer, y70.pending, y70.masked⟩ : Port) w; rw [show dueB (⟨y70.num, y70.vcpu, y70.peer, y70.pending, y70.masked⟩ : Port) = true from q143] at this; exact this) ?_
       refine cm 13 [(14, .go (outs b114 (o114 + (posB l y70.num) * 5 + 1) [.int .i64 y70.vcpu])), (18, .go (ownps 10 (0 + (posB l k) * 5 + 1) [.int .i64 y70.vcpu])), (19, .no)] [4, 8] [(60, .bool false)] (cellsP w b114 (o114 + (posB l y70.num) * 5 + 1) [.int .i64 y70.vcpu] ++ (acellsP ((cs34).setIfInBounds (0 + (posB l k) * 5 + 3) (.bool true)) (0 + (posB l k) * 5 + 1) [.int .i64 y70.vcpu] ++ ([¬ ((y70.vcpu : Int) ≠ (y70.vcpu : Int))]))) (by kernel_rfl) rfl (alA (rd_part (hsl.get (get_pos (ris_asc l 0 (right_ris q8)) (get_self hg70)).1) 1 _ rfl) (alA (rda_part (((hOw34.put (x' := (⟨y70.num, y70.vcpu, y70.peer, true, y70.masked⟩ : Port)) hnq34 hy70 (f := 3) (by decide) rfl).rdx (len_set hnq34) (get_set hy70))) 1 _ rfl) (al1 ((fun h => h rfl))))) ?_
       refine calm_nil' ?_
       refine ds_ (f_ (at_skip (ds_ (sq_ (qa0 [] [] [(6, .int .i64 0)] (ds_ (bk ([]) (.int .i64 0) (qo0 1 [] [4, 7] [(8, .int .i64 0)] (on_ (ds_ (sq_ (qa0 [] [4, 7, 8] [(22, .bool false)] (ds_ (f_ (at_skip (ds_ (sq_ (ma0 [(0, .go (owns 0 0 1)), (1, .go (owns 1 0 1))] [4] (fun _ => [(5, .int .i64 0)]) (fun _ L => (L.set 1 (bx (γ6 1) (#[.slice (some ⟨g34, 0, none⟩) n cq34]) 24))) (fun _ => ds_ (bk (owns 1 0 1) (.tuple #[.agg #[.slice (some ⟨g34, 0, none⟩) n cq34], .int .i64 0]) (mo0 6 [(7, .go (owns 0 0 1))] [6, 9] (fun γ174 => [(10, .pointer (some ⟨γ174 0, 0, none⟩)), (11, .int .i64 0)]) (fun γ174 L => bx (γ174 0) (#[.slice (some ⟨g34, 0, none⟩) n cq34]) 24 :: L) (fun γ174 => on_ (ds_ (sq_ ?_))))))))))))))))))))))))
       refine at_any (by kernel_rfl) ?_
       refine tk (m := 5) [2] [] [6, 9, 10] [(20, .int .i64 0)] ([]) #[false, false, true, false, false, false] al0 ?_
       refine any_cut 0 #[true, true, true, true, true, true] ([(6, .pointer (some ⟨γ3 3, 0, none⟩)), (7, .int .i64 0), (8, .int .i64 0)]) ([bx (γ174 0) (#[.slice (some ⟨g34, 0, none⟩) n cq34]) 24, bx (γ66 0) (#[.slice (some ⟨g34, 0, none⟩) n cq34]) 24, bx (γ6 1) (#[.slice (some ⟨g34, 0, none⟩) n cq34]) 24, bx (γ6 0) (#[.slice (some ⟨b114, o114, none⟩) n cap]) 24, bx (γ4 0) (#[.int .i64 0]) 3, bx (γ3 3) (#[.slice (some ⟨g34, 0, none⟩) n cq34]) 24, bx (γ3 2) (#[.func (.func 67) #[] #[]]) 75, bx (γ3 1) (#[.int .i64 k]) 3, bx (γ3 0) (#[.slice (some ⟨b114, o114, none⟩) n cap]) 24, bx (γ1 1) (#[.slice none 0 0]) 24, bx (γ1 0) (#[.slice (some ⟨b114, o114, none⟩) n cap]) 24, bx g34 ((cs34).setIfInBounds (0 + (posB l k) * 5 + 3) (.bool true)) 40]) ?_ (fun hm => ?_)
       rotate_left
       ·
        refine any_fork [0, 1] (by kernel_rfl) (by simp) (each_cons _ rfl ?_ (each_cons _ rfl ?_ (each_nil)))
        ·
         refine qo0 1 [(0, .go (owns 0 0 1))] [6, 9, 20] [(18, .agg #[.slice (some ⟨g34, 0, none⟩) n cq34])] ?_
         refine od_ ?_
         refine any_fork [1, 3] (by kernel_rfl) (by simp) (each_cons _ rfl ?_ (each_cons _ rfl ?_ (each_nil)))
         ·
          refine qo0 1 [(1, .go (owns 4 0 1))] [6, 18, 20] [(19, .int .i64 0)] ?_
          refine od_ ?_
          refine a1 3 rfl ?_
          refine mo0 1 [(3, .go (owns 5 0 1))] [6, 19, 20] (fun _ => []) (fun _ L => (L.set 5 (bx (γ3 3) (#[.slice (some ⟨g34, 0, none⟩) n cq34]) 24))) (fun _ => ?_)
          refine od_ ?_
          refine tk (m := 0) [4, 5] [] [6] [(7, .int .i64 0), (8, .int .i64 0)] ([]) #[true, true, true, true, true, true] al0 ?_
          exact any_weak hm [6, 7, 8] (by kernel_rfl) rfl rfl rfl
         ·
          refine mo0 1 [(3, .go (owns 5 0 1))] [6, 9, 20] (fun _ => []) (fun _ L => (L.set 5 (bx (γ3 3) (#[.slice (some ⟨g34, 0, none⟩) n cq34]) 24))) (fun _ => ?_)
          refine od_ ?_
          refine a1 1 rfl ?_
          refine qo0 1 [(1, .go (owns 4 0 1))] [6, 20] [(19, .int .i64 0)] ?_
          refine od_ ?_
          refine tk (m := 0) [4, 5] [] [6] [(7, .int .i64 0), (8, .int .i64 0)] ([]) #[true, true, true, true, true, true] al0 ?_
          exact any_weak hm [6, 7, 8] (by kernel_rfl) rfl rfl rfl
        ·
         refine qo0 1 [(1, .go (owns 4 0 1))] [6, 10, 20] [(19, .int .i64 0)] ?_
         refine od_ ?_
         refine a1 0 rfl ?_
         refine qo0 1 [(0, .go (owns 0 0 1))] [6, 19, 20] [(18, .agg #[.slice (some ⟨g34, 0, none⟩) n cq34])] ?_
         refine od_ ?_
         refine a1 3 rfl ?_
         refine mo0 1 [(3, .go (owns 5 0 1))] [6, 19, 20] (fun _ => []) (fun _ L => (L.set 5 (bx (γ3 3) (#[.slice (some ⟨g34, 0, none⟩) n cq34]) 24))) (fun _ => ?_)
         refine od_ ?_
         refine tk (m := 0) [4, 5] [] [6] [(7, .int .i64 0), (8, .int .i64 0)] ([]) #[true, true, true, true, true, true] al0 ?_
         exact any_weak hm [6, 7, 8] (by kernel_rfl) rfl rfl rfl
       refine any_nil (by kernel_rfl) ?_
       refine ds_ (bk (owns 5 0 1) (.tuple #[.agg #[.slice (some ⟨g34, 0, none⟩) n cq34], .int .i64 0, .int .i64 0]) (mo0 6 [(6, .go (owns 9 0 1))] [4] (fun _ => [(5, .int .i64 0), (6, .int .i64 0)]) (fun _ L => (L.set 9 (bx (γ1 1) (#[.slice (some ⟨g34, 0, none⟩) n cq34]) 24))) (fun _ => on_ (ds_ (rt (owns 9 0 1) (.tuple #[.agg #[.slice (some ⟨g34, 0, none⟩) n cq34], .int .i64 0, .int .i64 0]) ?_)))))
       exact fun w' hw => by rw [turnV_ok q8 hg70, turnP_no (y := y70) (z := (⟨y70.num, y70.vcpu, y70.peer, true, y70.masked⟩ : Port)) (fun ⟨_, b⟩ => b.elim (fun e => absurd (e.symm.trans q143) (by decide)) (fun e => e rfl)), pos_of hg70]; exact ⟨_, _, _, _, rfl, (SlO.ofOwn (hOw34.put (x' := (⟨y70.num, y70.vcpu, y70.peer, true, y70.masked⟩ : Port)) hnq34 hy70 (f := 3) (by decide) rfl) (len_set hnq34)), hw.below, hw.tailN 11⟩
end Go.Proofs.Ytfhlmijdokfdpaa

/-! event.Mask. -/
namespace Go.Proofs.Ytfhlmijdokfdpaa
open Go Go.RowKit

set_option maxRecDepth 100000 in
theorem mask_d (p : Option Addr) (n cap : Nat) (l : List Port) (k : Int) (b : Bool) (w : World)
 (hsl : Sv w p l) (hn : n = l.length) (hb : n ≤ 1000)
 : Calls Try.prog 45 #[.agg #[.slice p n cap], .int .i64 k, .bool b] w fun e w' => ∃ q m capq Y, e = .returned (.tuple #[.agg #[.slice q m capq], .int .i64 (turnV l k (fun x => (⟨x.num, x.vcpu, x.peer, x.pending, b⟩ : Port))).2.1, .int .i64 (turnV l k (fun x => (⟨x.num, x.vcpu, x.peer, x.pending, b⟩ : Port))).2.2]) ∧ SlO 40 Y q m capq (turnV l k (fun x => (⟨x.num, x.vcpu, x.peer, x.pending, b⟩ : Port))).1 ∧ Below w.heap.size w w' ∧ Hs w Y w' := by
 refine enter (Hs.start w) Try.func45 rfl Try.ntmps45 rfl (sq_ (ma0 [] [1] (fun γ1 => [(3, .pointer (some ⟨γ1 0, 0, none⟩)), (5, .pointer (some ⟨γ1 1, 0, none⟩)), (6, .pointer (some ⟨γ1 2, 0, none⟩))]) (fun γ1 L => bx (γ1 2) (#[.slice none 0 0]) 24 :: bx (γ1 1) (#[.bool b]) 4 :: bx (γ1 0) (#[.slice p n cap]) 24 :: L) (fun γ1 => ds_ (sq_ (ao_ (qo0 3 [(0, .go (owns 2 0 1))] [6] [(9, .agg #[.slice p n cap]), (10, .int .i64 k), (11, .func (.func 68) #[] #[.pointer (some ⟨γ1 1, 0, none⟩)])] (ops_inline (g := 40) (args := #[.agg #[.slice p n cap], .int .i64 k, .func (.func 68) #[] #[.pointer (some ⟨γ1 1, 0, none⟩)]]) (by kernel_rfl) (by kernel_rfl) (by kernel_rfl) (fun args w => Try.call40 args w) Try.func40 rfl Try.ntmps40 rfl (sq_ (ma0 [] [] (fun γ3 => [(3, .pointer (some ⟨γ3 0, 0, none⟩)), (4, .pointer (some ⟨γ3 1, 0, none⟩)), (5, .pointer (some ⟨γ3 2, 0, none⟩)), (6, .pointer (some ⟨γ3 3, 0, none⟩))]) (fun γ3 L => bx (γ3 3) (#[.slice none 0 0]) 24 :: bx (γ3 2) (#[.func (.func 68) #[] #[.pointer (some ⟨γ1 1, 0, none⟩)]]) 75 :: bx (γ3 1) (#[.int .i64 k]) 3 :: bx (γ3 0) (#[.slice p n cap]) 24 :: L) (fun γ3 => ds_ (sq_ (ma0 [(1, .go (owns 0 0 1))] [3, 4, 5, 6] (fun γ4 => [(9, .pointer (some ⟨γ4 0, 0, none⟩))]) (fun γ4 L => bx (γ4 0) (#[.int .i64 0]) 3 :: L) (fun γ4 => ds_ (sq_ (ao_ (qo0 2 [(0, .go (owns 4 0 1))] [6, 9] [(13, .agg #[.slice p n cap]), (14, .func (.func 61) #[] #[.pointer (some ⟨γ3 1, 0, none⟩), .pointer (some ⟨γ3 2, 0, none⟩), .pointer (some ⟨γ3 0, 0, none⟩), .pointer (some ⟨γ4 0, 0, none⟩)])] (ops_inline (g := 54) (args := #[.agg #[.slice p n cap], .func (.func 61) #[] #[.pointer (some ⟨γ3 1, 0, none⟩), .pointer (some ⟨γ3 2, 0, none⟩), .pointer (some ⟨γ3 0, 0, none⟩), .pointer (some ⟨γ4 0, 0, none⟩)]]) (by kernel_rfl) (by kernel_rfl) (by kernel_rfl) (fun args w => Try.call54 args w) Try.func54 rfl Try.ntmps54 rfl (sq_ (ma0 [] [1] (fun γ6 => [(2, .pointer (some ⟨γ6 0, 0, none⟩)), (4, .pointer (some ⟨γ6 1, 0, none⟩))]) (fun γ6 L => bx (γ6 1) (#[.slice none 0 0]) 24 :: bx (γ6 0) (#[.slice p n cap]) 24 :: L) (fun γ6 => ds_ (sq_ (sq_ (ao_ (qo0 1 [(0, .go (owns 1 0 1))] [1, 2, 4] [(9, .agg #[.slice p n cap])] ?_))))))))))))))))))))))))
 rcases q8 : rightB l with _ | _
 ·
  refine cD (.int .i64 260) Try.call16 (fun w hw => by have := check_d p n cap l w (hsl.kept hw.below) hn hb; rw [q8] at this; exact this) (qo0 1 [] [1, 2, 4] [(6, .int .i64 260)] (on_ (ds_ (sq_ (qa0 [] [1, 2, 4, 6] [(12, .bool true)] (ds_ (t_ (sq_ (qa0 [(2, .go (owns 0 0 1))] [4] [(5, .int .i64 260)] (ds_ (bk (owns 0 0 1) (.tuple #[.agg #[.slice none 0 0], .int .i64 260]) (mo0 6 [(7, .go (owns 0 0 1))] [6, 9] (fun γ12 => [(10, .pointer (some ⟨γ12 0, 0, none⟩)), (11, .int .i64 260)]) (fun γ12 L => bx (γ12 0) (#[.slice none 0 0]) 24 :: L) (fun γ12 => on_ (ds_ (sq_ ?_)))))))))))))))
  refine at_any (by kernel_rfl) ?_
  refine tk (m := 5) [2] [] [6, 9, 10] [(20, .int .i64 260)] ([]) #[false, false, true, false, false, false] al0 ?_
  refine any_cut 0 #[true, true, true, true, true, true] ([(6, .pointer (some ⟨γ3 3, 0, none⟩)), (7, .int .i64 0), (8, .int .i64 260)]) ([bx (γ12 0) (#[.slice none 0 0]) 24, bx (γ6 1) (#[.slice none 0 0]) 24, bx (γ6 0) (#[.slice p n cap]) 24, bx (γ4 0) (#[.int .i64 0]) 3, bx (γ3 3) (#[.slice none 0 0]) 24, bx (γ3 2) (#[.func (.func 68) #[] #[.pointer (some ⟨γ1 1, 0, none⟩)]]) 75, bx (γ3 1) (#[.int .i64 k]) 3, bx (γ3 0) (#[.slice p n cap]) 24, bx (γ1 2) (#[.slice none 0 0]) 24, bx (γ1 1) (#[.bool b]) 4, bx (γ1 0) (#[.slice p n cap]) 24]) ?_ (fun hm => ?_)
  rotate_left
  ·
   refine any_fork [0, 1] (by kernel_rfl) (by simp) (each_cons _ rfl ?_ (each_cons _ rfl ?_ (each_nil)))
   ·
    refine qo0 1 [(0, .go (owns 0 0 1))] [6, 9, 20] [(18, .agg #[.slice none 0 0])] ?_
    refine od_ ?_
    refine any_fork [1, 3] (by kernel_rfl) (by simp) (each_cons _ rfl ?_ (each_cons _ rfl ?_ (each_nil)))
    ·
     refine qo0 1 [(1, .go (owns 3 0 1))] [6, 18, 20] [(19, .int .i64 0)] ?_
     refine od_ ?_
     refine a1 3 rfl ?_
     refine qo0 1 [(3, .go (owns 4 0 1))] [6, 19, 20] [] ?_
     refine od_ ?_
     refine tk (m := 0) [4, 5] [] [6] [(7, .int .i64 0), (8, .int .i64 260)] ([]) #[true, true, true, true, true, true] al0 ?_
     exact any_weak hm [6, 7, 8] (by kernel_rfl) rfl rfl rfl
    ·
     refine qo0 1 [(3, .go (owns 4 0 1))] [6, 9, 20] [] ?_
     refine od_ ?_
     refine a1 1 rfl ?_
     refine qo0 1 [(1, .go (owns 3 0 1))] [6, 20] [(19, .int .i64 0)] ?_
     refine od_ ?_
     refine tk (m := 0) [4, 5] [] [6] [(7, .int .i64 0), (8, .int .i64 260)] ([]) #[true, true, true, true, true, true] al0 ?_
     exact any_weak hm [6, 7, 8] (by kernel_rfl) rfl rfl rfl
   ·
    refine qo0 1 [(1, .go (owns 3 0 1))] [6, 10, 20] [(19, .int .i64 0)] ?_
    refine od_ ?_
    refine a1 0 rfl ?_
    refine qo0 1 [(0, .go (owns 0 0 1))] [6, 19, 20] [(18, .agg #[.slice none 0 0])] ?_
    refine od_ ?_
    refine a1 3 rfl ?_
    refine qo0 1 [(3, .go (owns 4 0 1))] [6, 19, 20] [] ?_
    refine od_ ?_
    refine tk (m := 0) [4, 5] [] [6] [(7, .int .i64 0), (8, .int .i64 260)] ([]) #[true, true, true, true, true, true] al0 ?_
    exact any_weak hm [6, 7, 8] (by kernel_rfl) rfl rfl rfl
  refine any_nil (by kernel_rfl) ?_
  refine ds_ (bk (owns 4 0 1) (.tuple #[.agg #[.slice none 0 0], .int .i64 0, .int .i64 260]) (qo0 6 [(7, .go (owns 8 0 1))] [6] [(7, .int .i64 0), (8, .int .i64 260)] (on_ (ds_ (rt (owns 8 0 1) (.tuple #[.agg #[.slice none 0 0], .int .i64 0, .int .i64 260]) ?_)))))
  exact fun w' hw => by rw [turnV_bad q8]; exact ⟨none, 0, 0, [], rfl, SlO.nil, hw.below, hw.sub (List.nil_sublist _)⟩
 ·
  refine cD (.int .i64 0) Try.call16 (fun w hw => by have := check_d p n cap l w (hsl.kept hw.below) hn hb; rw [q8] at this; exact this) (qo0 1 [] [1, 2, 4] [(6, .int .i64 0)] (on_ (ds_ (sq_ (qa0 [] [1, 2, 4, 6] [(12, .bool false)] (ds_ (f_ (at_skip (ds_ (sq_ (ao_ (qo0 2 [(1, .go (owns 1 0 1))] [1, 4] [(16, .slice p n cap)] (cP (fun v L' => ∃ q capq Y, v = .slice q n capq ∧ L' = List.take 10 ([bx (γ6 1) (#[.slice none 0 0]) 24, bx (γ6 0) (#[.slice p n cap]) 24, bx (γ4 0) (#[.int .i64 0]) 3, bx (γ3 3) (#[.slice none 0 0]) 24, bx (γ3 2) (#[.func (.func 68) #[] #[.pointer (some ⟨γ1 1, 0, none⟩)]]) 75, bx (γ3 1) (#[.int .i64 k]) 3, bx (γ3 0) (#[.slice p n cap]) 24, bx (γ1 2) (#[.slice none 0 0]) 24, bx (γ1 1) (#[.bool b]) 4, bx (γ1 0) (#[.slice p n cap]) 24]) ++ (Y ++ List.drop 10 ([bx (γ6 1) (#[.slice none 0 0]) 24, bx (γ6 0) (#[.slice p n cap]) 24, bx (γ4 0) (#[.int .i64 0]) 3, bx (γ3 3) (#[.slice none 0 0]) 24, bx (γ3 2) (#[.func (.func 68) #[] #[.pointer (some ⟨γ1 1, 0, none⟩)]]) 75, bx (γ3 1) (#[.int .i64 k]) 3, bx (γ3 0) (#[.slice p n cap]) 24, bx (γ1 2) (#[.slice none 0 0]) 24, bx (γ1 1) (#[.bool b]) 4, bx (γ1 0) (#[.slice p n cap]) 24])) ∧ SlO 40 Y q n capq l) Try.call72 (fun w hw => (clone_d p n cap l w (hsl.kept hw.below) hn (by omega)).mono fun e w' ⟨q, capq, Y, he, hO, hb, hY⟩ => ⟨_, _, he, ⟨q, capq, Y, rfl, rfl, hO⟩, hw.join hb hY 10⟩) ?_)))))))))))))
  rintro v34 L34 ⟨q34, cq34, Y34, rfl, rfl, hO34⟩
  have hnq34 := hO34.len
  rcases hO34.parts with ⟨rfl, rfl, hz34⟩ | ⟨g34, cs34, rfl, rfl, hOw34⟩
  ·
   refine mo0 3 [(5, .go (owns 0 0 1))] [1, 4] (fun γ35 => [(7, .pointer (some ⟨γ35 0, 0, none⟩))]) (fun γ35 L => bx (γ35 0) (#[.slice none n cq34]) 24 :: L) (fun γ35 => on_ (ds_ (sq_ (sq_ (ao_ (qo0 1 [] [4, 7] [(19, .func (.func 61) #[] #[.pointer (some ⟨γ3 1, 0, none⟩), .pointer (some ⟨γ3 2, 0, none⟩), .pointer (some ⟨γ3 0, 0, none⟩), .pointer (some ⟨γ4 0, 0, none⟩)])] (ops_inline (g := 61) (args := #[.pointer (some ⟨γ35 0, 0, none⟩), .pointer (some ⟨γ3 1, 0, none⟩), .pointer (some ⟨γ3 2, 0, none⟩), .pointer (some ⟨γ3 0, 0, none⟩), .pointer (some ⟨γ4 0, 0, none⟩)]) (by kernel_rfl) (by kernel_rfl) (by kernel_rfl) (fun args w => Try.call61 args w) Try.func61 rfl Try.ntmps61 rfl (sq_ (qa0 [] [0, 1, 2, 3, 4] [] (ds_ (sq_ ?_)))))))))))
   refine at_calm rfl (by kernel_rfl) (by kernel_rfl) ?_
   refine cm 5 [(3, .go (owns 0 0 1)), (4, .go (owns 6 0 1))] [0, 2, 3, 4] [(14, .slice none n cq34), (15, .int .i64 k)] ([]) (by kernel_rfl) rfl al0 ?_
   rcases hg39 : getB l k with _ | y39
   ·
    refine cK (.pointer none) Try.call32 (fun w hw => by have := port_d none n cq34 l k w (hO34.atN (A := []) hw) hnq34 (by omega) (ris_all (right_ris q8)) (ris_asc l 0 (right_ris q8)); rw [portV_none hg39] at this; exact this) ?_
    refine cm 1 [] [0, 2, 3, 4] [(7, .pointer none)] ([]) (by kernel_rfl) rfl al0 ?_
    refine calm_nil' ?_
    refine ds_ (sq_ (sq_ (qa0 [] [0, 2, 3, 4, 7] [(18, .bool true)] (ds_ (t_ (sq_ (qa0 [] [] [(6, .int .i64 4)] (ds_ (bk ([]) (.int .i64 4) (qo0 1 [] [4, 7] [(8, .int .i64 4)] (on_ (ds_ (sq_ (qa0 [] [4, 7, 8] [(22, .bool true)] (ds_ (t_ (sq_ (qa0 [(2, .go (owns 1 0 1))] [4] [(5, .int .i64 4)] (ds_ (bk (owns 1 0 1) (.tuple #[.agg #[.slice none 0 0], .int .i64 4]) (mo0 6 [(7, .go (owns 0 0 1))] [6, 9] (fun γ46 => [(10, .pointer (some ⟨γ46 0, 0, none⟩)), (11, .int .i64 4)]) (fun γ46 L => bx (γ46 0) (#[.slice none 0 0]) 24 :: L) (fun γ46 => on_ (ds_ (sq_ ?_))))))))))))))))))))))))
    refine at_any (by kernel_rfl) ?_
    refine tk (m := 5) [2] [] [6, 9, 10] [(20, .int .i64 4)] ([]) #[false, false, true, false, false, false] al0 ?_
    refine any_cut 0 #[true, true, true, true, true, true] ([(6, .pointer (some ⟨γ3 3, 0, none⟩)), (7, .int .i64 0), (8, .int .i64 4)]) ([bx (γ46 0) (#[.slice none 0 0]) 24, bx (γ35 0) (#[.slice none n cq34]) 24, bx (γ6 1) (#[.slice none 0 0]) 24, bx (γ6 0) (#[.slice p n cap]) 24, bx (γ4 0) (#[.int .i64 0]) 3, bx (γ3 3) (#[.slice none 0 0]) 24, bx (γ3 2) (#[.func (.func 68) #[] #[.pointer (some ⟨γ1 1, 0, none⟩)]]) 75, bx (γ3 1) (#[.int .i64 k]) 3, bx (γ3 0) (#[.slice p n cap]) 24, bx (γ1 2) (#[.slice none 0 0]) 24, bx (γ1 1) (#[.bool b]) 4, bx (γ1 0) (#[.slice p n cap]) 24]) ?_ (fun hm => ?_)
    rotate_left
    ·
     refine any_fork [0, 1] (by kernel_rfl) (by simp) (each_cons _ rfl ?_ (each_cons _ rfl ?_ (each_nil)))
     ·
      refine qo0 1 [(0, .go (owns 0 0 1))] [6, 9, 20] [(18, .agg #[.slice none 0 0])] ?_
      refine od_ ?_
      refine any_fork [1, 3] (by kernel_rfl) (by simp) (each_cons _ rfl ?_ (each_cons _ rfl ?_ (each_nil)))
      ·
       refine qo0 1 [(1, .go (owns 4 0 1))] [6, 18, 20] [(19, .int .i64 0)] ?_
       refine od_ ?_
       refine a1 3 rfl ?_
       refine qo0 1 [(3, .go (owns 5 0 1))] [6, 19, 20] [] ?_
       refine od_ ?_
       refine tk (m := 0) [4, 5] [] [6] [(7, .int .i64 0), (8, .int .i64 4)] ([]) #[true, true, true, true, true, true] al0 ?_
       exact any_weak hm [6, 7, 8] (by kernel_rfl) rfl rfl rfl
      ·
       refine qo0 1 [(3, .go (owns 5 0 1))] [6, 9, 20] [] ?_
       refine od_ ?_
       refine a1 1 rfl ?_
       refine qo0 1 [(1, .go (owns 4 0 1))] [6, 20] [(19, .int .i64 0)] ?_
       refine od_ ?_
       refine tk (m := 0) [4, 5] [] [6] [(7, .int .i64 0), (8, .int .i64 4)] ([]) #[true, true, true, true, true, true] al0 ?_
       exact any_weak hm [6, 7, 8] (by kernel_rfl) rfl rfl rfl
     ·
      refine qo0 1 [(1, .go (owns 4 0 1))] [6, 10, 20] [(19, .int .i64 0)] ?_
      refine od_ ?_
      refine a1 0 rfl ?_
      refine qo0 1 [(0, .go (owns 0 0 1))] [6, 19, 20] [(18, .agg #[.slice none 0 0])] ?_
      refine od_ ?_
      refine a1 3 rfl ?_
      refine qo0 1 [(3, .go (owns 5 0 1))] [6, 19, 20] [] ?_
      refine od_ ?_
      refine tk (m := 0) [4, 5] [] [6] [(7, .int .i64 0), (8, .int .i64 4)] ([]) #[true, true, true, true, true, true] al0 ?_
      exact any_weak hm [6, 7, 8] (by kernel_rfl) rfl rfl rfl
    refine any_nil (by kernel_rfl) ?_
    refine ds_ (bk (owns 5 0 1) (.tuple #[.agg #[.slice none 0 0], .int .i64 0, .int .i64 4]) (qo0 6 [(7, .go (owns 9 0 1))] [6] [(7, .int .i64 0), (8, .int .i64 4)] (on_ (ds_ (rt (owns 9 0 1) (.tuple #[.agg #[.slice none 0 0], .int .i64 0, .int .i64 4]) ?_)))))
    exact fun w' hw => by rw [turnV_none q8 hg39]; exact ⟨none, 0, 0, [], rfl, SlO.nil, hw.below, hw.sub (List.nil_sublist _)⟩
   ·
    have hy39 := (get_pos (ris_asc l 0 (right_ris q8)) hg39).1
    exact absurd (List.getElem?_eq_some_iff.1 hy39).1 (by omega)
  ·
   refine mo0 3 [(5, .go (owns 0 0 1))] [1, 4] (fun γ66 => [(7, .pointer (some ⟨γ66 0, 0, none⟩))]) (fun γ66 L => bx (γ66 0) (#[.slice (some ⟨g34, 0, none⟩) n cq34]) 24 :: L) (fun γ66 => on_ (ds_ (sq_ (sq_ (ao_ (qo0 1 [] [4, 7] [(19, .func (.func 61) #[] #[.pointer (some ⟨γ3 1, 0, none⟩), .pointer (some ⟨γ3 2, 0, none⟩), .pointer (some ⟨γ3 0, 0, none⟩), .pointer (some ⟨γ4 0, 0, none⟩)])] (ops_inline (g := 61) (args := #[.pointer (some ⟨γ66 0, 0, none⟩), .pointer (some ⟨γ3 1, 0, none⟩), .pointer (some ⟨γ3 2, 0, none⟩), .pointer (some ⟨γ3 0, 0, none⟩), .pointer (some ⟨γ4 0, 0, none⟩)]) (by kernel_rfl) (by kernel_rfl) (by kernel_rfl) (fun args w => Try.call61 args w) Try.func61 rfl Try.ntmps61 rfl (sq_ (qa0 [] [0, 1, 2, 3, 4] [] (ds_ (sq_ ?_)))))))))))
   refine at_calm rfl (by kernel_rfl) (by kernel_rfl) ?_
   refine cm 5 [(3, .go (owns 0 0 1)), (4, .go (owns 6 0 1))] [0, 2, 3, 4] [(14, .slice (some ⟨g34, 0, none⟩) n cq34), (15, .int .i64 k)] ([]) (by kernel_rfl) rfl al0 ?_
   rcases hg70 : getB l k with _ | y70
   ·
    refine cK (.pointer none) Try.call32 (fun w hw => by have := port_d (some ⟨g34, 0, none⟩) n cq34 l k w (hO34.atN (A := [_, _, _, _, _, _, _, _, _, _, _]) hw) hnq34 (by omega) (ris_all (right_ris q8)) (ris_asc l 0 (right_ris q8)); rw [portV_none hg70] at this; exact this) ?_
    refine cm 1 [] [0, 2, 3, 4] [(7, .pointer none)] ([]) (by kernel_rfl) rfl al0 ?_
    refine calm_nil' ?_
    refine ds_ (sq_ (sq_ (qa0 [] [0, 2, 3, 4, 7] [(18, .bool true)] (ds_ (t_ (sq_ (qa0 [] [] [(6, .int .i64 4)] (ds_ (bk ([]) (.int .i64 4) (qo0 1 [] [4, 7] [(8, .int .i64 4)] (on_ (ds_ (sq_ (qa0 [] [4, 7, 8] [(22, .bool true)] (ds_ (t_ (sq_ (qa0 [(2, .go (owns 1 0 1))] [4] [(5, .int .i64 4)] (ds_ (bk (owns 1 0 1) (.tuple #[.agg #[.slice none 0 0], .int .i64 4]) (mo0 6 [(7, .go (owns 0 0 1))] [6, 9] (fun γ77 => [(10, .pointer (some ⟨γ77 0, 0, none⟩)), (11, .int .i64 4)]) (fun γ77 L => bx (γ77 0) (#[.slice none 0 0]) 24 :: L) (fun γ77 => on_ (ds_ (sq_ ?_))))))))))))))))))))))))
    refine at_any (by kernel_rfl) ?_
    refine tk (m := 5) [2] [] [6, 9, 10] [(20, .int .i64 4)] ([]) #[false, false, true, false, false, false] al0 ?_
    refine any_cut 0 #[true, true, true, true, true, true] ([(6, .pointer (some ⟨γ3 3, 0, none⟩)), (7, .int .i64 0), (8, .int .i64 4)]) ([bx (γ77 0) (#[.slice none 0 0]) 24, bx (γ66 0) (#[.slice (some ⟨g34, 0, none⟩) n cq34]) 24, bx (γ6 1) (#[.slice none 0 0]) 24, bx (γ6 0) (#[.slice p n cap]) 24, bx (γ4 0) (#[.int .i64 0]) 3, bx (γ3 3) (#[.slice none 0 0]) 24, bx (γ3 2) (#[.func (.func 68) #[] #[.pointer (some ⟨γ1 1, 0, none⟩)]]) 75, bx (γ3 1) (#[.int .i64 k]) 3, bx (γ3 0) (#[.slice p n cap]) 24, bx (γ1 2) (#[.slice none 0 0]) 24, bx (γ1 1) (#[.bool b]) 4, bx (γ1 0) (#[.slice p n cap]) 24, bx g34 cs34 40]) ?_ (fun hm => ?_)
    rotate_left
    ·
     refine any_fork [0, 1] (by kernel_rfl) (by simp) (each_cons _ rfl ?_ (each_cons _ rfl ?_ (each_nil)))
     ·
      refine qo0 1 [(0, .go (owns 0 0 1))] [6, 9, 20] [(18, .agg #[.slice none 0 0])] ?_
      refine od_ ?_
      refine any_fork [1, 3] (by kernel_rfl) (by simp) (each_cons _ rfl ?_ (each_cons _ rfl ?_ (each_nil)))
      ·
       refine qo0 1 [(1, .go (owns 4 0 1))] [6, 18, 20] [(19, .int .i64 0)] ?_
       refine od_ ?_
       refine a1 3 rfl ?_
       refine qo0 1 [(3, .go (owns 5 0 1))] [6, 19, 20] [] ?_
       refine od_ ?_
       refine tk (m := 0) [4, 5] [] [6] [(7, .int .i64 0), (8, .int .i64 4)] ([]) #[true, true, true, true, true, true] al0 ?_
       exact any_weak hm [6, 7, 8] (by kernel_rfl) rfl rfl rfl
      ·
       refine qo0 1 [(3, .go (owns 5 0 1))] [6, 9, 20] [] ?_
       refine od_ ?_
       refine a1 1 rfl ?_
       refine qo0 1 [(1, .go (owns 4 0 1))] [6, 20] [(19, .int .i64 0)] ?_
       refine od_ ?_
       refine tk (m := 0) [4, 5] [] [6] [(7, .int .i64 0), (8, .int .i64 4)] ([]) #[true, true, true, true, true, true] al0 ?_
       exact any_weak hm [6, 7, 8] (by kernel_rfl) rfl rfl rfl
     ·
      refine qo0 1 [(1, .go (owns 4 0 1))] [6, 10, 20] [(19, .int .i64 0)] ?_
      refine od_ ?_
      refine a1 0 rfl ?_
      refine qo0 1 [(0, .go (owns 0 0 1))] [6, 19, 20] [(18, .agg #[.slice none 0 0])] ?_
      refine od_ ?_
      refine a1 3 rfl ?_
      refine qo0 1 [(3, .go (owns 5 0 1))] [6, 19, 20] [] ?_
      refine od_ ?_
      refine tk (m := 0) [4, 5] [] [6] [(7, .int .i64 0), (8, .int .i64 4)] ([]) #[true, true, true, true, true, true] al0 ?_
      exact any_weak hm [6, 7, 8] (by kernel_rfl) rfl rfl rfl
    refine any_nil (by kernel_rfl) ?_
    refine ds_ (bk (owns 5 0 1) (.tuple #[.agg #[.slice none 0 0], .int .i64 0, .int .i64 4]) (qo0 6 [(7, .go (owns 9 0 1))] [6] [(7, .int .i64 0), (8, .int .i64 4)] (on_ (ds_ (rt (owns 9 0 1) (.tuple #[.agg #[.slice none 0 0], .int .i64 0, .int .i64 4]) ?_)))))
    exact fun w' hw => by rw [turnV_none q8 hg70]; exact ⟨none, 0, 0, [], rfl, SlO.nil, hw.below, hw.sub (List.nil_sublist _)⟩
   ·
    have hy70 := (get_pos (ris_asc l 0 (right_ris q8)) hg70).1
    refine cK (.pointer (some ⟨g34, 0 + (posB l k) * 5, none⟩)) Try.call32 (fun w hw => by have := port_d (some ⟨g34, 0, none⟩) n cq34 l k w (hO34.atN (A := [_, _, _, _, _, _, _, _, _, _, _]) hw) hnq34 (by omega) (ris_all (right_ris q8)) (ris_asc l 0 (right_ris q8)); rw [portV_some hg70] at this; exact this) ?_
    refine cm 1 [] [0, 2, 3, 4] [(7, .pointer (some ⟨g34, 0 + (posB l k) * 5, none⟩))] ([]) (by kernel_rfl) rfl al0 ?_
    refine calm_nil' ?_
    refine ds_ (sq_ (sq_ (qa0 [] [0, 2, 3, 4, 7] [(18, .bool false)] (ds_ (f_ (at_skip (ds_ (sq_ ?_))))))))
    refine at_any (by kernel_rfl) ?_
    refine tk (m := 8) [1, 2, 3, 4] [] [2, 3, 4] [(21, .pointer (some ⟨g34, 0 + (posB l k) * 5, none⟩)), (24, .pointer (some ⟨γ66 0, 0, none⟩))] ([]) #[false, true, true, true, true, false, false, false, false, false, false, false] al0 ?_
    refine any_cut 6 #[true, true, true, true, true, true, false, false, false, false, false, false] ([(3, .pointer (some ⟨γ3 0, 0, none⟩)), (4, .pointer (some ⟨γ4 0, 0, none⟩)), (20, .func (.func 68) #[] #[.pointer (some ⟨γ1 1, 0, none⟩)]), (21, .pointer (some ⟨g34, 0 + (posB l k) * 5, none⟩)), (25, .slice (some ⟨g34, 0, none⟩) n cq34)]) ([bx (γ66 0) (#[.slice (some ⟨g34, 0, none⟩) n cq34]) 24, bx (γ6 1) (#[.slice none 0 0]) 24, bx (γ6 0) (#[.slice p n cap]) 24, bx (γ4 0) (#[.int .i64 0]) 3, bx (γ3 3) (#[.slice none 0 0]) 24, bx (γ3 2) (#[.func (.func 68) #[] #[.pointer (some ⟨γ1 1, 0, none⟩)]]) 75, bx (γ3 1) (#[.int .i64 k]) 3, bx (γ3 0) (#[.slice p n cap]) 24, bx (γ1 2) (#[.slice none 0 0]) 24, bx (γ1 1) (#[.bool b]) 4, bx (γ1 0) (#[.slice p n cap]) 24, bx g34 cs34 40]) ?_ (fun hm => ?_)
    rotate_left
    ·
     refine any_fork [0, 5] (by kernel_rfl) (by simp) (each_cons _ rfl ?_ (each_cons _ rfl ?_ (each_nil)))
     ·
      refine qo0 1 [(0, .go (owns 5 0 1))] [3, 4, 21, 24] [(20, .func (.func 68) #[] #[.pointer (some ⟨γ1 1, 0, none⟩)])] ?_
      refine od_ ?_
      refine a1 5 rfl ?_
      refine qo0 1 [(5, .go (owns 0 0 1))] [3, 4, 20, 21] [(25, .slice (some ⟨g34, 0, none⟩) n cq34)] ?_
      refine od_ ?_
      exact any_weak hm [3, 4, 20, 21, 25] (by kernel_rfl) rfl rfl rfl
     ·
      refine qo0 1 [(5, .go (owns 0 0 1))] [2, 3, 4, 21] [(25, .slice (some ⟨g34, 0, none⟩) n cq34)] ?_
      refine od_ ?_
      refine a1 0 rfl ?_
      refine qo0 1 [(0, .go (owns 5 0 1))] [3, 4, 21, 25] [(20, .func (.func 68) #[] #[.pointer (some ⟨γ1 1, 0, none⟩)])] ?_
      refine od_ ?_
      exact any_weak hm [3, 4, 20, 21, 25] (by kernel_rfl) rfl rfl rfl
    refine a1 6 rfl ?_
    refine ops_inline (g := 68) (args := #[.pointer (some ⟨g34, 0 + (posB l k) * 5, none⟩), .slice (some ⟨g34, 0, none⟩) n cq34, .pointer (some ⟨γ1 1, 0, none⟩)]) (by kernel_rfl) (by kernel_rfl) (by kernel_rfl) (fun args w => Try.call68 args w) Try.func68 rfl Try.ntmps68 rfl (sq_ (qa0 [] [0, 2] [] (ds_ (sq_ (ma [(1, .go (owns 9 0 1)), (4, .go (ownps 11 (0 + (posB l k) * 5 + 4) [undef]))] [0] (fun _ => []) (fun _ L => (L.set 11 (bx g34 ((cs34).setIfInBounds (0 + (posB l k) * 5 + 4) (.bool b)) 40))) (fun _ => [0 + (posB l k) * 5 + 4 < (cs34).size]) (fun _ => (al1 (hOw34.room hnq34 hy70 (f := 4) (by decide)))) (fun _ => ds_ (sq_ (qa0 [] [] [(5, .pointer (some ⟨g34, 0 + (posB l k) * 5, none⟩)), (6, .int .i64 0)] (ds_ (bk ([]) (.tuple #[.pointer (some ⟨g34, 0 + (posB l k) * 5, none⟩), .int .i64 0]) ?_))))))))))
    refine od_ ?_
    refine tk (m := 0) [7, 8, 9, 10, 11] [] [3, 4] [(8, .pointer (some ⟨g34, 0 + (posB l k) * 5, none⟩)), (9, .int .i64 0)] ([]) #[true, true, true, true, true, true, true, true, true, true, true, true] al0 ?_
    refine any_nil (by kernel_rfl) ?_
    refine ds_ (sq_ (sq_ (qa0 [] [3, 4, 8, 9] [(30, .bool false)] (ds_ (f_ (at_skip (ds_ (sq_ ?_))))))))
    refine at_calm rfl (by kernel_rfl) (by kernel_rfl) ?_
    refine cm 6 [(1, .go (owns 7 0 1)), (5, .go (ownps 11 (0 + (posB l k) * 5) [.int .i64 y70.num]))] [4, 8] [(33, .slice p n cap), (37, .int .i64 y70.num)] (acellsP ((cs34).setIfInBounds (0 + (posB l k) * 5 + 4) (.bool b)) (0 + (posB l k) * 5) [.int .i64 y70.num]) (by kernel_rfl) rfl (rda_pre (((hOw34.put (x' := (⟨y70.num, y70.vcpu, y70.peer, y70.pending, b⟩ : Port)) hnq34 hy70 (f := 4) (by decide) rfl).rdx (len_set hnq34) (get_set hy70))) _ rfl) ?_
    skip
    ·
     obtain ⟨b114, o114, rfl⟩ := hsl.pos (i := posB l y70.num) (List.getElem?_eq_some_iff.1 (get_pos (ris_asc l 0 (right_ris q8)) (get_self hg70)).1).1
     refine cK (.pointer (some ⟨b114, o114 + (posB l y70.num) * 5, none⟩)) Try.call32 (fun w hw => by have := port_d (some ⟨b114, o114, none⟩) n cap l y70.num w (hsl.kept hw.below) hn (by omega) (ris_all (right_ris q8)) (ris_asc l 0 (right_ris q8)); rw [portV_some (get_self hg70)] at this; exact this) ?_
     refine cm 1 [] [4, 8] [(10, .pointer (some ⟨b114, o114 + (posB l y70.num) * 5, none⟩))] ([]) (by kernel_rfl) rfl al0 ?_
     refine calm_nil' ?_
     refine ds_ (sq_ (sq_ ?_))
     refine at_calm rfl (by kernel_rfl) (by kernel_rfl) ?_
     refine cm 3 [(2, .go (ownps 11 (0 + (posB l k) * 5) [.int .i64 y70.num, .int .i64 y70.vcpu, .int .i64 y70.peer, .bool y70.pending, .bool b]))] [4, 8, 10] [(41, .agg #[.int .i64 y70.num, .int .i64 y70.vcpu, .int .i64 y70.peer, .bool y70.pending, .bool b])] (acellsP ((cs34).setIfInBounds (0 + (posB l k) * 5 + 4) (.bool b)) (0 + (posB l k) * 5) [.int .i64 y70.num, .int .i64 y70.vcpu, .int .i64 y70.peer, .bool y70.pending, .bool b]) (by kernel_rfl) rfl (rda_pre (((hOw34.put (x' := (⟨y70.num, y70.vcpu, y70.peer, y70.pending, b⟩ : Port)) hnq34 hy70 (f := 4) (by decide) rfl).rdx (len_set hnq34) (get_set hy70))) _ rfl) ?_
     rcases q117 : (y70.pending && !b) with _ | _
     ·
      refine cK (.bool false) Try.call39 (fun w hw => by have := due_d (⟨y70.num, y70.vcpu, y70.peer, y70.pending, b⟩ : Port) w; rw [show dueB (⟨y70.num, y70.vcpu, y70.peer, y70.pending, b⟩ : Port) = false from q117] at this; exact this) ?_
      refine cm 18 [] [4, 8] [(60, .bool false)] ([]) (by kernel_rfl) rfl al0 ?_
      refine calm_nil' ?_
      refine ds_ (f_ (at_skip (ds_ (sq_ (qa0 [] [] [(6, .int .i64 0)] (ds_ (bk ([]) (.int .i64 0) (qo0 1 [] [4, 7] [(8, .int .i64 0)] (on_ (ds_ (sq_ (qa0 [] [4, 7, 8] [(22, .bool false)] (ds_ (f_ (at_skip (ds_ (sq_ (ma0 [(0, .go (owns 0 0 1)), (1, .go (owns 1 0 1))] [4] (fun _ => [(5, .int .i64 0)]) (fun _ L => (L.set 1 (bx (γ6 1) (#[.slice (some ⟨g34, 0, none⟩) n cq34]) 24))) (fun _ => ds_ (bk (owns 1 0 1) (.tuple #[.agg #[.slice (some ⟨g34, 0, none⟩) n cq34], .int .i64 0]) (mo0 6 [(7, .go (owns 0 0 1))] [6, 9] (fun γ123 => [(10, .pointer (some ⟨γ123 0, 0, none⟩)), (11, .int .i64 0)]) (fun γ123 L => bx (γ123 0) (#[.slice (some ⟨g34, 0, none⟩) n cq34]) 24 :: L) (fun γ123 => on_ (ds_ (sq_ ?_))))))))))))))))))))))))
      refine at_any (by kernel_rfl) ?_
      refine tk (m := 5) [2] [] [6, 9, 10] [(20, .int .i64 0)] ([]) #[false, false, true, false, false, false] al0 ?_
      refine any_cut 0 #[true, true, true, true, true, true] ([(6, .pointer (some ⟨γ3 3, 0, none⟩)), (7, .int .i64 0), (8, .int .i64 0)]) ([bx (γ123 0) (#[.slice (some ⟨g34, 0, none⟩) n cq34]) 24, bx (γ66 0) (#[.slice (some ⟨g34, 0, none⟩) n cq34]) 24, bx (γ6 1) (#[.slice (some ⟨g34, 0, none⟩) n cq34]) 24, bx (γ6 0) (#[.slice (some ⟨b114, o114, none⟩) n cap]) 24, bx (γ4 0) (#[.int .i64 0]) 3, bx (γ3 3) (#[.slice (some ⟨g34, 0, none⟩) n cq34]) 24, bx (γ3 2) (#[.func (.func 68) #[] #[.pointer (some ⟨γ1 1, 0, none⟩)]]) 75, bx (γ3 1) (#[.int .i64 k]) 3, bx (γ3 0) (#[.slice (some ⟨b114, o114, none⟩) n cap]) 24, bx (γ1 2) (#[.slice none 0 0]) 24, bx (γ1 1) (#[.bool b]) 4, bx (γ1 0) (#[.slice (some ⟨b114, o114, none⟩) n cap]) 24, bx g34 ((cs34).setIfInBounds (0 + (posB l k) * 5 + 4) (.bool b)) 40]) ?_ (fun hm => ?_)
      rotate_left
      ·
       refine any_fork [0, 1] (by kernel_rfl) (by simp) (each_cons _ rfl ?_ (each_cons _ rfl ?_ (each_nil)))
       ·
        refine qo0 1 [(0, .go (owns 0 0 1))] [6, 9, 20] [(18, .agg #[.slice (some ⟨g34, 0, none⟩) n cq34])] ?_
        refine od_ ?_
        refine any_fork [1, 3] (by kernel_rfl) (by simp) (each_cons _ rfl ?_ (each_cons _ rfl ?_ (each_nil)))
        ·
         refine qo0 1 [(1, .go (owns 4 0 1))] [6, 18, 20] [(19, .int .i64 0)] ?_
         refine od_ ?_
         refine a1 3 rfl ?_
         refine mo0 1 [(3, .go (owns 5 0 1))] [6, 19, 20] (fun _ => []) (fun _ L => (L.set 5 (bx (γ3 3) (#[.slice (some ⟨g34, 0, none⟩) n cq34]) 24))) (fun _ => ?_)
         refine od_ ?_
         refine tk (m := 0) [4, 5] [] [6] [(7, .int .i64 0), (8, .int .i64 0)] ([]) #[true, true, true, true, true, true] al0 ?_
         exact any_weak hm [6, 7, 8] (by kernel_rfl) rfl rfl rfl
        ·
         refine mo0 1 [(3, .go (owns 5 0 1))] [6, 9, 20] (fun _ => []) (fun _ L => (L.set 5 (bx (γ3 3) (#[.slice (some ⟨g34, 0, none⟩) n cq34]) 24))) (fun _ => ?_)
         refine od_ ?_
         refine a1 1 rfl ?_
         refine qo0 1 [(1, .go (owns 4 0 1))] [6, 20] [(19, .int .i64 0)] ?_
         refine od_ ?_
         refine tk (m := 0) [4, 5] [] [6] [(7, .int .i64 0), (8, .int .i64 0)] ([]) #[true, true, true, true, true, true] al0 ?_
         exact any_weak hm [6, 7, 8] (by kernel_rfl) rfl rfl rfl
       ·
        refine qo0 1 [(1, .go (owns 4 0 1))] [6, 10, 20] [(19, .int .i64 0)] ?_
        refine od_ ?_
        refine a1 0 rfl ?_
        refine qo0 1 [(0, .go (owns 0 0 1))] [6, 19, 20] [(18, .agg #[.slice (some ⟨g34, 0, none⟩) n cq34])] ?_
        refine od_ ?_
        refine a1 3 rfl ?_
        refine mo0 1 [(3, .go (owns 5 0 1))] [6, 19, 20] (fun _ => []) (fun _ L => (L.set 5 (bx (γ3 3) (#[.slice (some ⟨g34, 0, none⟩) n cq34]) 24))) (fun _ => ?_)
        refine od_ ?_
        refine tk (m := 0) [4, 5] [] [6] [(7, .int .i64 0), (8, .int .i64 0)] ([]) #[true, true, true, true, true, true] al0 ?_
        exact any_weak hm [6, 7, 8] (by kernel_rfl) rfl rfl rfl
      refine any_nil (by kernel_rfl) ?_
      refine ds_ (bk (owns 5 0 1) (.tuple #[.agg #[.slice (some ⟨g34, 0, none⟩) n cq34], .int .i64 0, .int .i64 0]) (mo0 6 [(7, .go (owns 9 0 1))] [6] (fun _ => [(7, .int .i64 0), (8, .int .i64 0)]) (fun _ L => (L.set 9 (bx (γ1 2) (#[.slice (some ⟨g34, 0, none⟩) n cq34]) 24))) (fun _ => on_ (ds_ (rt (owns 9 0 1) (.tuple #[.agg #[.slice (some ⟨g34, 0, none⟩) n cq34], .int .i64 0, .int .i64 0]) ?_)))))
      exact fun w' hw => by rw [turnV_ok q8 hg70, turnP_no (y := y70) (z := (⟨y70.num, y70.vcpu, y70.peer, y70.pending, b⟩ : Port)) (fun ⟨a, _⟩ => absurd (a.symm.trans q117) (by decide)), pos_of hg70]; exact ⟨_, _, _, _, rfl, (SlO.ofOwn (hOw34.put (x' := (⟨y70.num, y70.vcpu, y70.peer, y70.pending, b⟩ : Port)) hnq34 hy70 (f := 4) (by decide) rfl) (len_set hnq34)), hw.below, hw.tailN 12⟩
     ·
      refine cK (.bool true) Try.call39 (fun w hw => by have := due_d (⟨y70.num, y70.vcpu, y70.peer, y70.pending, b⟩ : Port) w; rw [show dueB (⟨y70.num, y70.vcpu, y70.peer, y70.pending, b⟩ : Port) = true from q117] at this; exact this) ?_
      refine cm 4 [(7, .go (outs b114 (o114 + (posB l y70.num) * 5) [.int .i64 y70.num, .int .i64 y70.vcpu, .int .i64 y70.peer, .bool y70.pending, .bool y70.masked]))] [4, 8, 10] [(43, .bool true), (46, .agg #[.int .i64 y70.num, .int .i64 y70.vcpu, .int .i64 y70.peer, .bool y70.pending, .bool y70.masked])] (cellsP w b114 (o114 + (posB l y70.num) * 5) [.int .i64 y70.num, .int .i64 y70.vcpu, .int .i64 y70.peer, .bool y70.pending, .bool y70.masked]) (by kernel_rfl) rfl (rd_pre (hsl.get (get_pos (ris_asc l 0 (right_ris q8)) (get_self hg70)).1) _ rfl) ?_
      rcases q143 : (y70.pending && !y70.masked) with _ | _
      ·
       refine cK (.bool false) Try.call39 (fun w hw => by have := due_d (⟨y70.num, y70.vcpu, y70.peer, y70.pending, y70.masked⟩ : Port) w; rw [show dueB (⟨y70.num, y70.vcpu, y70.peer, y70.pending, y70.masked⟩ : Port) = false from q143] at this; exact this) ?_
       refine cm 13 [] [4, 8] [(60, .bool true)] ([]) (by kernel_rfl) rfl al0 ?_
       refine calm_nil' ?_
       refine ds_ (t_ (ma [(3, .go (ownps 11 (0 + (posB l k) * 5 + 1) [.int .i64 y70.vcpu])), (4, .go (owns 3 0 1))] [] (fun _ => []) (fun _ L => (L.set 3 (bx (γ4 0) (#[.int .i64 y70.vcpu]) 3))) (fun _ => acellsP ((cs34).setIfInBounds (0 + (posB l k) * 5 + 4) (.bool b)) (0 + (posB l k) * 5 + 1) [.int .i64 y70.vcpu]) (fun _ => (rda_part (((hOw34.put (x' := (⟨y70.num, y70.vcpu, y70.peer, y70.pending, b⟩ : Port)) hnq34 hy70 (f := 4) (by decide) rfl).rdx (len_set hnq34) (get_set hy70))) 1 _ rfl)) (fun _ => ds_ (sq_ (qa0 [] [] [(6, .int .i64 0)] (ds_ (bk ([]) (.int .i64 0) (qo0 1 [] [4, 7] [(8, .int .i64 0)] (on_ (ds_ (sq_ (qa0 [] [4, 7, 8] [(22, .bool false)] (ds_ (f_ (at_skip (ds_ (sq_ (ma0 [(0, .go (owns 0 0 1)), (1, .go (owns 1 0 1))] [4] (fun _ => [(5, .int .i64 0)]) (fun _ L => (L.set 1 (bx (γ6 1) (#[.slice (some ⟨g34, 0, none⟩) n cq34]) 24))) (fun _ => ds_ (bk (owns 1 0 1) (.tuple #[.agg #[.slice (some ⟨g34, 0, none⟩) n cq34], .int .i64 0]) (mo0 6 [(7, .go (owns 0 0 1))] [6, 9] (fun γ150 => [(10, .pointer (some ⟨γ150 0, 0, none⟩)), (11, .int .i64 0)]) (fun γ150 L => bx (γ150 0) (#[.slice (some ⟨g34, 0, none⟩) n cq34]) 24 :: L) (fun γ150 => on_ (ds_ (sq_ ?_))))))))))))))))))))))))
       refine at_any (by kernel_rfl) ?_
       refine tk (m := 5) [2] [] [6, 9, 10] [(20, .int .i64 0)] ([]) #[false, false, true, false, false, false] al0 ?_
       refine any_cut 0 #[true, true, true, true, true, true] ([(6, .pointer (some ⟨γ3 3, 0, none⟩)), (7, .int .i64 y70.vcpu), (8, .int .i64 0)]) ([bx (γ150 0) (#[.slice (some ⟨g34, 0, none⟩) n cq34]) 24, bx (γ66 0) (#[.slice (some ⟨g34, 0, none⟩) n cq34]) 24, bx (γ6 1) (#[.slice (some ⟨g34, 0, none⟩) n cq34]) 24, bx (γ6 0) (#[.slice (some ⟨b114, o114, none⟩) n cap]) 24, bx (γ4 0) (#[.int .i64 y70.vcpu]) 3, bx (γ3 3) (#[.slice (some ⟨g34, 0, none⟩) n cq34]) 24, bx (γ3 2) (#[.func (.func 68) #[] #[.pointer (some ⟨γ1 1, 0, none⟩)]]) 75, bx (γ3 1) (#[.int .i64 k]) 3, bx (γ3 0) (#[.slice (some ⟨b114, o114, none⟩) n cap]) 24, bx (γ1 2) (#[.slice none 0 0]) 24, bx (γ1 1) (#[.bool b]) 4, bx (γ1 0) (#[.slice (some ⟨b114, o114, none⟩) n cap]) 24, bx g34 ((cs34).setIfInBounds (0 + (posB l k) * 5 + 4) (.bool b)) 40]) ?_ (fun hm => ?_)
       rotate_left
       ·
        refine any_fork [0, 1] (by kernel_rfl) (by simp) (each_cons _ rfl ?_ (each_cons _ rfl ?_ (each_nil)))
        ·
         refine qo0 1 [(0, .go (owns 0 0 1))] [6, 9, 20] [(18, .agg #[.slice (some ⟨g34, 0, none⟩) n cq34])] ?_
         refine od_ ?_
         refine any_fork [1, 3] (by kernel_rfl) (by simp) (each_cons _ rfl ?_ (each_cons _ rfl ?_ (each_nil)))
         ·
          refine qo0 1 [(1, .go (owns 4 0 1))] [6, 18, 20] [(19, .int .i64 y70.vcpu)] ?_
          refine od_ ?_
          refine a1 3 rfl ?_
          refine mo0 1 [(3, .go (owns 5 0 1))] [6, 19, 20] (fun _ => []) (fun _ L => (L.set 5 (bx (γ3 3) (#[.slice (some ⟨g34, 0, none⟩) n cq34]) 24))) (fun _ => ?_)
          refine od_ ?_
          refine tk (m := 0) [4, 5] [] [6] [(7, .int .i64 y70.vcpu), (8, .int .i64 0)] ([]) #[true, true, true, true, true, true] al0 ?_
          exact any_weak hm [6, 7, 8] (by kernel_rfl) rfl rfl rfl
         ·
          refine mo0 1 [(3, .go (owns 5 0 1))] [6, 9, 20] (fun _ => []) (fun _ L => (L.set 5 (bx (γ3 3) (#[.slice (some ⟨g34, 0, none⟩) n cq34]) 24))) (fun _ => ?_)
          refine od_ ?_
          refine a1 1 rfl ?_
          refine qo0 1 [(1, .go (owns 4 0 1))] [6, 20] [(19, .int .i64 y70.vcpu)] ?_
          refine od_ ?_
          refine tk (m := 0) [4, 5] [] [6] [(7, .int .i64 y70.vcpu), (8, .int .i64 0)] ([]) #[true, true, true, true, true, true] al0 ?_
          exact any_weak hm [6, 7, 8] (by kernel_rfl) rfl rfl rfl
        ·
         refine qo0 1 [(1, .go (owns 4 0 1))] [6, 10, 20] [(19, .int .i64 y70.vcpu)] ?_
         refine od_ ?_
         refine a1 0 rfl ?_
         refine qo0 1 [(0, .go (owns 0 0 1))] [6, 19, 20] [(18, .agg #[.slice (some ⟨g34, 0, none⟩) n cq34])] ?_
         refine od_ ?_
         refine a1 3 rfl ?_
         refine mo0 1 [(3, .go (owns 5 0 1))] [6, 19, 20] (fun _ => []) (fun _ L => (L.set 5 (bx (γ3 3) (#[.slice (some ⟨g34, 0, none⟩) n cq34]) 24))) (fun _ => ?_)
         refine od_ ?_
         refine tk (m := 0) [4, 5] [] [6] [(7, .int .i64 y70.vcpu), (8, .int .i64 0)] ([]) #[true, true, true, true, true, true] al0 ?_
         exact any_weak hm [6, 7, 8] (by kernel_rfl) rfl rfl rfl
       refine any_nil (by kernel_rfl) ?_
       refine ds_ (bk (owns 5 0 1) (.tuple #[.agg #[.slice (some ⟨g34, 0, none⟩) n cq34], .int .i64 y70.vcpu, .int .i64 0]) (mo0 6 [(7, .go (owns 9 0 1))] [6] (fun _ => [(7, .int .i64 y70.vcpu), (8, .int .i64 0)]) (fun _ L => (L.set 9 (bx (γ1 2) (#[.slice (some ⟨g34, 0, none⟩) n cq34]) 24))) (fun _ => on_ (ds_ (rt (owns 9 0 1) (.tuple #[.agg #[.slice (some ⟨g34, 0, none⟩) n cq34], .int .i64 y70.vcpu, .int .i64 0]) ?_)))))
       exact fun w' hw => by rw [turnV_ok q8 hg70, turnP_yes (y := y70) (z := (⟨y70.num, y70.vcpu, y70.peer, y70.pending, b⟩ : Port)) q117 (.inl q143), pos_of hg70]; exact ⟨_, _, _, _, rfl, (SlO.ofOwn (hOw34.put (x' := (⟨y70.num, y70.vcpu, y70.peer, y70.pending, b⟩ : Port)) hnq34 hy70 (f := 4) (by decide) rfl) (len_set hnq34)), hw.below, hw.tailN 12⟩
      ·
       refine cK (.bool true) Try.call39 (fun w hw => by have := due_d (⟨y70.num, y70.vcpu, y70.peer, y70.pending, y70.masked⟩ : Port) w; rw [show dueB (⟨y70.num, y70.vcpu, y70.peer, y70.pending, y70.masked⟩ : Port) = true from q143] at this; exact this) ?_
       refine cm 13 [(14, .go (outs b114 (o114 + (posB l y70.num) * 5 + 1) [.int .i64 y70.vcpu])), (18, .go (ownps 11 (0 + (posB l k) * 5 + 1) [.int .i64 y70.vcpu])), (19, .no)] [4, 8] [(60, .bool false)] (cellsP w b114 (o114 + (posB l y70.num) * 5 + 1) [.int .i64 y70.vcpu] ++ (acellsP ((cs34).setIfInBounds (0 + (posB l k) * 5 + 4) (.bool b)) (0 + (posB l k) * 5 + 1) [.int .i64 y70.vcpu] ++ ([¬ ((y70.vcpu : Int) ≠ (y70.vcpu : Int))]))) (by kernel_rfl) rfl (alA (rd_part (hsl.get (get_pos (ris_asc l 0 (right_ris q8)) (get_self hg70)).1) 1 _ rfl) (alA (rda_part (((hOw34.put (x' := (⟨y70.num, y70.vcpu, y70.peer, y70.pending, b⟩ : Port)) hnq34 hy70 (f := 4) (by decide) rfl).rdx (len_set hnq34) (get_set hy70))) 1 _ rfl) (al1 ((fun h => h rfl))))) ?_
       refine calm_nil' ?_
       refine ds_ (f_ (at_skip (ds_ (sq_ (qa0 [] [] [(6, .int .i64 0)] (ds_ (bk ([]) (.int .i64 0) (qo0 1 [] [4, 7] [(8, .int .i64 0)] (on_ (ds_ (sq_ (qa0 [] [4, 7, 8] [(22, .bool false)] (ds_ (f_ (at_skip (ds_ (sq_ (ma0 [(0, .go (owns 0 0 1)), (1, .go (owns 1 0 1))] [4] (fun _ => [(5, .int .i64 0)]) (fun _ L => (L.set 1 (bx (γ6 1) (#[.slice (some ⟨g34, 0, none⟩) n cq34]) 24))) (fun _ => ds_ (bk (owns 1 0 1) (.tuple #[.agg #[.slice (some ⟨g34, 0, none⟩) n cq34], .int .i64 0]) (mo0 6 [(7, .go (owns 0 0 1))] [6, 9] (fun γ174 => [(10, .pointer (some ⟨γ174 0, 0, none⟩)), (11, .int .i64 0)]) (fun γ174 L => bx (γ174 0) (#[.slice (some ⟨g34, 0, none⟩) n cq34]) 24 :: L) (fun γ174 => on_ (ds_ (sq_ ?_))))))))))))))))))))))))
       refine at_any (by kernel_rfl) ?_
       refine tk (m := 5) [2] [] [6, 9, 10] [(20, .int .i64 0)] ([]) #[false, false, true, false, false, false] al0 ?_
       refine any_cut 0 #[true, true, true, true, true, true] ([(6, .pointer (some ⟨γ3 3, 0, none⟩)), (7, .int .i64 0), (8, .int .i64 0)]) ([bx (γ174 0) (#[.slice (some ⟨g34, 0, none⟩) n cq34]) 24, bx (γ66 0) (#[.slice (some ⟨g34, 0, none⟩) n cq34]) 24, bx (γ6 1) (#[.slice (some ⟨g34, 0, none⟩) n cq34]) 24, bx (γ6 0) (#[.slice (some ⟨b114, o114, none⟩) n cap]) 24, bx (γ4 0) (#[.int .i64 0]) 3, bx (γ3 3) (#[.slice (some ⟨g34, 0, none⟩) n cq34]) 24, bx (γ3 2) (#[.func (.func 68) #[] #[.pointer (some ⟨γ1 1, 0, none⟩)]]) 75, bx (γ3 1) (#[.int .i64 k]) 3, bx (γ3 0) (#[.slice (some ⟨b114, o114, none⟩) n cap]) 24, bx (γ1 2) (#[.slice none 0 0]) 24, bx (γ1 1) (#[.bool b]) 4, bx (γ1 0) (#[.slice (some ⟨b114, o114, none⟩) n cap]) 24, bx g34 ((cs34).setIfInBounds (0 + (posB l k) * 5 + 4) (.bool b)) 40]) ?_ (fun hm => ?_)
       rotate_left
       ·
        refine any_fork [0, 1] (by kernel_rfl) (by simp) (each_cons _ rfl ?_ (each_cons _ rfl ?_ (each_nil)))
        ·
         refine qo0 1 [(0, .go (owns 0 0 1))] [6, 9, 20] [(18, .agg #[.slice (some ⟨g34, 0, none⟩) n cq34])] ?_
         refine od_ ?_
         refine any_fork [1, 3] (by kernel_rfl) (by simp) (each_cons _ rfl ?_ (each_cons _ rfl ?_ (each_nil)))
         ·
          refine qo0 1 [(1, .go (owns 4 0 1))] [6, 18, 20] [(19, .int .i64 0)] ?_
          refine od_ ?_
          refine a1 3 rfl ?_
          refine mo0 1 [(3, .go (owns 5 0 1))] [6, 19, 20] (fun _ => []) (fun _ L => (L.set 5 (bx (γ3 3) (#[.slice (some ⟨g34, 0, none⟩) n cq34]) 24))) (fun _ => ?_)
          refine od_ ?_
          refine tk (m := 0) [4, 5] [] [6] [(7, .int .i64 0), (8, .int .i64 0)] ([]) #[true, true, true, true, true, true] al0 ?_
          exact any_weak hm [6, 7, 8] (by kernel_rfl) rfl rfl rfl
         ·
          refine mo0 1 [(3, .go (owns 5 0 1))] [6, 9, 20] (fun _ => []) (fun _ L => (L.set 5 (bx (γ3 3) (#[.slice (some ⟨g34, 0, none⟩) n cq34]) 24))) (fun _ => ?_)
          refine od_ ?_
          refine a1 1 rfl ?_
          refine qo0 1 [(1, .go (owns 4 0 1))] [6, 20] [(19, .int .i64 0)] ?_
          refine od_ ?_
          refine tk (m := 0) [4, 5] [] [6] [(7, .int .i64 0), (8, .int .i64 0)] ([]) #[true, true, true, true, true, true] al0 ?_
          exact any_weak hm [6, 7, 8] (by kernel_rfl) rfl rfl rfl
        ·
         refine qo0 1 [(1, .go (owns 4 0 1))] [6, 10, 20] [(19, .int .i64 0)] ?_
         refine od_ ?_
         refine a1 0 rfl ?_
         refine qo0 1 [(0, .go (owns 0 0 1))] [6, 19, 20] [(18, .agg #[.slice (some ⟨g34, 0, none⟩) n cq34])] ?_
         refine od_ ?_
         refine a1 3 rfl ?_
         refine mo0 1 [(3, .go (owns 5 0 1))] [6, 19, 20] (fun _ => []) (fun _ L => (L.set 5 (bx (γ3 3) (#[.slice (some ⟨g34, 0, none⟩) n cq34]) 24))) (fun _ => ?_)
         refine od_ ?_
         refine tk (m := 0) [4, 5] [] [6] [(7, .int .i64 0), (8, .int .i64 0)] ([]) #[true, true, true, true, true, true] al0 ?_
         exact any_weak hm [6, 7, 8] (by kernel_rfl) rfl rfl rfl
       refine any_nil (by kernel_rfl) ?_
       refine ds_ (bk (owns 5 0 1) (.tuple #[.agg #[.slice (some ⟨g34, 0, none⟩) n cq34], .int .i64 0, .int .i64 0]) (mo0 6 [(7, .go (owns 9 0 1))] [6] (fun _ => [(7, .int .i64 0), (8, .int .i64 0)]) (fun _ L => (L.set 9 (bx (γ1 2) (#[.slice (some ⟨g34, 0, none⟩) n cq34]) 24))) (fun _ => on_ (ds_ (rt (owns 9 0 1) (.tuple #[.agg #[.slice (some ⟨g34, 0, none⟩) n cq34], .int .i64 0, .int .i64 0]) ?_)))))
       exact fun w' hw => by rw [turnV_ok q8 hg70, turnP_no (y := y70) (z := (⟨y70.num, y70.vcpu, y70.peer, y70.pending, b⟩ : Port)) (fun ⟨_, b⟩ => b.elim (fun e => absurd (e.symm.trans q143) (by decide)) (fun e => e rfl)), pos_of hg70]; exact ⟨_, _, _, _, rfl, (SlO.ofOwn (hOw34.put (x' := (⟨y70.num, y70.vcpu, y70.peer, y70.pending, b⟩ : Port)) hnq34 hy70 (f := 4) (by decide) rfl) (len_set hnq34)), hw.below, hw.tailN 12⟩
end Go.Proofs.Ytfhlmijdokfdpaa
