/- EventPolled: the walk. -/
import Derived.Test.YtfhlmijdokfdpaaPs
import Derived.Test.YtfhlmijdokfdpaaQb
import Derived.Test.YtfhlmijdokfdpaaQf
import Derived.Test.YtfhlmijdokfdpaaEn
namespace Go.Proofs.Ytfhlmijdokfdpaa
open Go Go.RowKit

set_option maxRecDepth 100000 in
theorem polled_d (p : Option Addr) (n cap : Nat) (l : List Port) (own : Int) (w : World)
    (hsl : Sv w p l) (hn : n = l.length) (hcap : n ≤ cap) (hbig : cap ≤ 9223372036854775807)
    : Calls Try.prog 5 #[.agg #[.slice p n cap], .int .i64 own] w fun e w' => e = .returned (.bool true) ∧ Below w.heap.size w w' := by
  refine enter (Hs.start w) Try.func5 rfl Try.ntmps5 rfl ?_
  refine at_seq ?_
  refine am [] [1] (fun γ1 => [(2, .pointer (some ⟨γ1 0, 0, none⟩))]) (fun γ1 L => bx (γ1 0) (#[.slice p n cap]) 24 :: L) (fun γ1 => []) (fun _ => by kernel_rfl) (fun γ1 => al0) (fun γ1 => ?_)
  refine done_seq ?_
  refine at_seq ?_
  refine at_seq ?_
  refine at_ops ?_
  refine ops_callD (.bool true) (by kernel_rfl) (by kernel_rfl) (by kernel_rfl) (fun args w => Try.call10 args w) (fun w hw => wakes_d w) ?_
  refine oq 1 [] [1, 2] [(19, .bool false)] ([]) (fun _ => by kernel_rfl) al0 ?_
  refine ops_nil ?_
  refine done_seq ?_
  refine at_false (by kernel_rfl) ?_
  refine at_skip ?_
  refine done_seq ?_
  refine at_seq ?_
  refine at_ops ?_
  refine oq 1 [(0, .go (owns 0 0 1))] [1] [(20, .agg #[.slice p n cap])] ([]) (fun _ => by kernel_rfl) al0 ?_
  refine ops_call (fun v L' => ∃ q m capq Y, v = .agg #[.slice q m capq] ∧ L' = List.take 1 ([bx (γ1 0) (#[.slice p n cap]) 24]) ++ (Y ++ List.drop 1 ([bx (γ1 0) (#[.slice p n cap]) 24])) ∧ SlO 40 Y q m capq (l.take 33) ∧ m ≤ 33) (by kernel_rfl) (by kernel_rfl) (by kernel_rfl) (fun args w => Try.call11 args w) (fun w hw => (short_d p n cap l w (hsl.kept hw.below) hn (by omega) (by omega)).mono fun e w' ⟨q, m, capq, Y, he, hO, hm, hb, hY⟩ => ⟨_, _, he, ⟨q, m, capq, Y, rfl, rfl, hO, hm⟩, hw.join hb hY 1⟩) ?_
  rintro v5 L5 ⟨q5, m5, cq5, Y5, rfl, rfl, hO5, hm5⟩
  refine om 2 [(3, .go (owns 0 0 1))] [1] (fun γ6 => [(5, .pointer (some ⟨γ6 0, 0, none⟩))]) (fun γ6 L => bx (γ6 0) (#[.slice q5 m5 cq5]) 24 :: L) (fun γ6 => []) (fun _ => by kernel_rfl) (fun γ6 => al0) (fun γ6 => ?_)
  refine ops_nil ?_
  refine done_seq ?_
  refine at_seq ?_
  refine at_seq ?_
  refine at_ops ?_
  refine oq 1 [(0, .go (owns 0 0 1))] [1, 5] [(22, .agg #[.slice q5 m5 cq5])] ([]) (fun _ => by kernel_rfl) al0 ?_
  rcases q8 : rightB ((l.take 33)) with _ | _
  ·
    refine ops_callD (.int .i64 260) (by kernel_rfl) (by kernel_rfl) (by kernel_rfl) (fun args w => Try.call16 args w) (fun w hw => by have := check_d q5 m5 cq5 ((l.take 33)) w (hO5.atN (A := [_, _]) hw) hO5.len (by omega); rw [q8] at this; exact this) ?_
    refine oq 1 [] [1, 5] [(24, .bool true)] ([]) (fun _ => by kernel_rfl) al0 ?_
    refine ops_nil ?_
    refine done_seq ?_
    refine at_true (by kernel_rfl) ?_
    refine at_seq ?_
    refine aq [] [] [(4, .bool true)] ([]) (fun _ => by kernel_rfl) al0 ?_
    refine done_seq ?_
    refine at_return ([]) (.bool true) [] (by kernel_rfl) (by kernel_rfl) al0 ?_
    exact fun w' hw => ⟨rfl, hw.below⟩
  ·
    refine ops_callD (.int .i64 0) (by kernel_rfl) (by kernel_rfl) (by kernel_rfl) (fun args w => Try.call16 args w) (fun w hw => by have := check_d q5 m5 cq5 ((l.take 33)) w (hO5.atN (A := [_, _]) hw) hO5.len (by omega); rw [q8] at this; exact this) ?_
    refine oq 1 [] [1, 5] [(24, .bool false)] ([]) (fun _ => by kernel_rfl) al0 ?_
    refine ops_nil ?_
    refine done_seq ?_
    refine at_false (by kernel_rfl) ?_
    refine at_skip ?_
    refine done_seq ?_
    refine at_seq ?_
    refine aq [] [1, 5] [(6, .slice none 0 0)] ([]) (fun _ => by kernel_rfl) al0 ?_
    refine done_seq ?_
    refine at_seq ?_
    refine at_seq ?_
    refine aq [(1, .go (owns 0 0 1))] [1, 5, 6] [(26, .slice q5 m5 cq5), (27, .int .i64 ((m5 : Nat))), (28, .int .i64 0)] ([]) (fun _ => by kernel_rfl) al0 ?_
    refine done_seq ?_
    refine at_block ?_
    refine at_loop (α := Nat × List Ob × Option Addr × Nat × Nat) [1, 5, 6, 26, 27, 28] (fun ⟨j, Yo, po, mo, co⟩ => [(1, .int .i64 own), (5, .pointer (some ⟨γ6 0, 0, none⟩)), (6, .slice po mo co), (26, .slice q5 m5 cq5), (27, .int .i64 ((m5 : Nat))), (28, .int .i64 ((j : Nat)))]) (fun ⟨j, Yo, po, mo, co⟩ => bx (γ6 0) (#[.slice q5 m5 cq5]) 24 :: bx (γ1 0) (#[.slice p n cap]) 24 :: (Yo ++ (Y5 ++ []))) (fun ⟨j, Yo, po, mo, co⟩ => j ≤ m5 ∧ mo ≤ j ∧ SlO 3 Yo po mo co (suchL (isOwn own) ((l.take 33).take j))) (fun ⟨j, Yo, po, mo, co⟩ => m5 - j) (0, [], none, 0, 0) (by kernel_rfl) rfl ⟨Nat.zero_le _, Nat.le_refl _, by rw [List.take_zero]; exact SlO.nil⟩ ?_
    rintro ⟨j, Yo, po, mo, co⟩
    rintro ⟨hj, hmo, hO⟩
    refine at_seq ?_
    by_cases q15 : ((j : Nat) : Int) < ((m5 : Nat) : Int)
    ·
      refine aq [(0, .yes)] [1, 5, 6, 26, 27, 28] [(29, .bool true)] ([((j : Nat) : Int) < ((m5 : Nat) : Int)]) (fun _ => by kernel_rfl) (al1 q15) ?_
      refine done_seq ?_
      refine at_seq ?_
      refine at_true (by kernel_rfl) ?_
      refine at_skip ?_
      refine done_seq ?_
      refine at_seq ?_
      refine at_block ?_
      refine at_seq ?_
      refine At.pick [[bx (γ6 0) (#[.slice q5 m5 cq5]) 24], [bx (γ1 0) (#[.slice p n cap]) 24], Yo, Y5] [0, 1, 3, 2] [] (bx (γ6 0) (#[.slice q5 m5 cq5]) 24 :: bx (γ1 0) (#[.slice p n cap]) 24 :: (Y5 ++ (Yo ++ []))) (by kernel_rfl) rfl rfl ?_
      have hln18 := hO5.len
      obtain ⟨g18, cs18, rfl, rfl, hOw18⟩ := hO5.rowOf (i := j) (by omega)
      obtain ⟨x20, hx20⟩ := get_some (l := (l.take 33)) (m := j) (by omega)
      refine am [(0, .at g18 0 j), (1, .go (ownps 2 (0 + j * 5) [.int .i64 x20.num, .int .i64 x20.vcpu, .int .i64 x20.peer, .bool x20.pending, .bool x20.masked])), (3, .go (owns 0 0 5))] [1, 5, 6, 26, 27, 28] (fun γ21 => [(8, .pointer (some ⟨γ21 0, 0, none⟩))]) (fun γ21 L => bx (γ21 0) (#[.int .i64 x20.num, .int .i64 x20.vcpu, .int .i64 x20.peer, .bool x20.pending, .bool x20.masked]) 40 :: L) (fun γ21 => [(some ⟨g18, 0, none⟩ : Option Addr) = some ⟨g18, 0, none⟩, ((j : Nat)) = ((j : Nat) : Int), j < m5] ++ (acellsP cs18 (0 + j * 5) [.int .i64 x20.num, .int .i64 x20.vcpu, .int .i64 x20.peer, .bool x20.pending, .bool x20.masked])) (fun _ => by kernel_rfl) (fun γ21 => (alA (al2 rfl (al2 rfl (al1 (by omega)))) (rda_pre ((hOw18.rdx hO5.len hx20)) _ rfl))) (fun γ21 => ?_)
      refine done_seq ?_
      refine at_seq ?_
      by_cases q23 : (x20.vcpu : Int) = (own : Int)
      ·
        refine aq [(1, .go (owns 0 1 1)), (3, .yes)] [1, 5, 6, 8, 26, 27, 28] [(35, .bool true)] ([(x20.vcpu : Int) = (own : Int)]) (fun _ => by kernel_rfl) (al1 q23) ?_
        refine done_seq ?_
        refine at_true (by kernel_rfl) ?_
        refine at_ops ?_
        refine om 4 [(2, .go (owns 0 0 1))] [1, 5, 26, 27, 28] (fun γ25 => [(36, .slice po mo co), (39, .slice (some ⟨γ25 0, 0, none⟩) 1 1)]) (fun γ25 L => bx (γ25 0) (#[.int .i64 x20.num]) 3 :: L) (fun γ25 => []) (fun _ => by kernel_rfl) (fun γ25 => al0) (fun γ25 => ?_)
        refine ops_append (α := Int) [bx (γ25 0) (#[.int .i64 x20.num]) 3, bx (γ21 0) (#[.int .i64 x20.num, .int .i64 x20.vcpu, .int .i64 x20.peer, .bool x20.pending, .bool x20.masked]) 40, bx (γ6 0) (#[.slice (some ⟨g18, 0, none⟩) m5 cq5]) 24, bx (γ1 0) (#[.slice p n cap]) 24, bx g18 cs18 40] Yo ([]) (.refl _) rfl (by kernel_rfl) (by kernel_rfl) (p := po) (n := mo) (cap := co) (m := 1) (yv := .slice (some ⟨γ25 0, 0, none⟩) 1 1) (by kernel_rfl) (by kernel_rfl) (T := 3) (by_ := 8) (by kernel_rfl) ((suchL (isOwn own) ((l.take 33).take j))) ([x20.num]) hO (fun w hw => src_svn Try.underlying28 (sv_row (hw.row 0 rfl) (by rfl)) (by rfl)) (by rfl) (by have hmx : maxLen = 9223372036854775807 := rfl; omega) (by have hmx : maxLen = 9223372036854775807 := rfl; omega) (fun Y26 p26 cap26 hO26 => ?_)
        refine oq 1 [] [1, 5, 26, 27, 28] [(6, .slice p26 (mo + 1) cap26)] ([]) (fun _ => by kernel_rfl) al0 ?_
        refine ops_nil ?_
        refine done_block ?_
        refine done_seq ?_
        refine aq [(0, .fit)] [1, 5, 6, 26, 27] [(28, .int .i64 ((j + 1 : Nat)))] ([Fit .i64 ((j + 1 : Nat))]) (fun _ => by kernel_rfl) (al1 (fit64 (by omega) (by omega))) ?_
        refine Done.pick [[bx (γ25 0) (#[.int .i64 x20.num]) 3], [bx (γ21 0) (#[.int .i64 x20.num, .int .i64 x20.vcpu, .int .i64 x20.peer, .bool x20.pending, .bool x20.masked]) 40], [bx (γ6 0) (#[.slice (some ⟨g18, 0, none⟩) m5 cq5]) 24], [bx (γ1 0) (#[.slice p n cap]) 24], [bx g18 cs18 40], Y26] [2, 3, 5, 4] [0, 1] (bx (γ6 0) (#[.slice (some ⟨g18, 0, none⟩) m5 cq5]) 24 :: bx (γ1 0) (#[.slice p n cap]) 24 :: (Y26 ++ ([bx g18 cs18 40]))) (by kernel_rfl) rfl rfl ?_
        exact done_round [1, 5, 6, 26, 27, 28] (j + 1, Y26, p26, mo + 1, cap26) (by kernel_rfl) rfl ⟨by omega, by omega, by rw [← such_yes hx20 (decide_eq_true q23)]; exact hO26⟩ (by first | omega | (simp only; omega))
      ·
        refine aq [(1, .go (owns 0 1 1)), (3, .no)] [1, 5, 6, 8, 26, 27, 28] [(35, .bool false)] ([¬ ((x20.vcpu : Int) = (own : Int))]) (fun _ => by kernel_rfl) (al1 q23) ?_
        refine done_seq ?_
        refine at_false (by kernel_rfl) ?_
        refine at_skip ?_
        refine done_block ?_
        refine done_seq ?_
        refine aq [(0, .fit)] [1, 5, 6, 26, 27] [(28, .int .i64 ((j + 1 : Nat)))] ([Fit .i64 ((j + 1 : Nat))]) (fun _ => by kernel_rfl) (al1 (fit64 (by omega) (by omega))) ?_
        refine Done.pick [[bx (γ21 0) (#[.int .i64 x20.num, .int .i64 x20.vcpu, .int .i64 x20.peer, .bool x20.pending, .bool x20.masked]) 40], [bx (γ6 0) (#[.slice (some ⟨g18, 0, none⟩) m5 cq5]) 24], [bx (γ1 0) (#[.slice p n cap]) 24], [bx g18 cs18 40], Yo] [1, 2, 4, 3] [0] (bx (γ6 0) (#[.slice (some ⟨g18, 0, none⟩) m5 cq5]) 24 :: bx (γ1 0) (#[.slice p n cap]) 24 :: (Yo ++ ([bx g18 cs18 40]))) (by kernel_rfl) rfl rfl ?_
        exact done_round [1, 5, 6, 26, 27, 28] (j + 1, Yo, po, mo, co) (by kernel_rfl) rfl ⟨by omega, by omega, by rw [← such_no hx20 (decide_eq_false q23)]; exact hO⟩ (by first | omega | (simp only; omega))
    ·
      refine aq [(0, .no)] [1, 5, 6, 26, 27, 28] [(29, .bool false)] ([¬ (((j : Nat) : Int) < ((m5 : Nat) : Int))]) (fun _ => by kernel_rfl) (al1 q15) ?_
      refine done_seq ?_
      refine at_seq ?_
      refine at_false (by kernel_rfl) ?_
      refine at_leave _ (by rfl) ?_
      refine done_seq ?_
      refine at_seq ?_
      have hOf := hO
      rw [such_all (j := j) (by have := hO5.len; omega)] at hOf
      have hlo := hOf.len
      have hl0 := List.length_take_le 33 l
      refine at_ops ?_
      refine oq 3 [(0, .go (owns 0 0 1))] [1, 5, 6] [(43, .agg #[.slice q5 m5 cq5]), (44, .int .i64 own), (45, .slice po mo co)] ([]) (fun _ => by kernel_rfl) al0 ?_
      by_cases hown : (suchL (isOwn own) (l.take 33)) = []
      ·
        refine ops_callD (.tuple #[.bool false, .int .i64 2]) (by kernel_rfl) (by kernel_rfl) (by kernel_rfl) (fun args w => Try.call12 args w) (fun w hw => by have := poll_d q5 m5 cq5 ((l.take 33)) own po mo co ((suchL (isOwn own) (l.take 33))) w (hO5.atN (A := (_ :: _ :: Yo)) hw) hO5.len (by omega) (hOf.atN (A := [_, _]) hw) hOf.len (by omega); rw [hown, poll_nobody q8] at this; exact this) ?_
        refine oq 5 [] [1, 5, 6] [(9, .bool false), (10, .int .i64 2)] ([]) (fun _ => by kernel_rfl) al0 ?_
        refine ops_nil ?_
        refine done_seq ?_
        refine at_seq ?_
        refine at_seq ?_
        refine aq [] [1, 5, 6, 9, 10] [(50, .bool true)] ([]) (fun _ => by kernel_rfl) al0 ?_
        refine done_seq ?_
        refine at_true (by kernel_rfl) ?_
        refine at_seq ?_
        refine aq [(5, .yes)] [] [(4, .bool true)] ([((mo : Nat) : Int) = (0 : Int)]) (fun _ => by kernel_rfl) (al1 ((by rw [hlo, hown]; rfl))) ?_
        refine done_seq ?_
        refine at_return ([]) (.bool true) [] (by kernel_rfl) (by kernel_rfl) al0 ?_
        exact fun w' hw => ⟨rfl, hw.below⟩
      ·
        refine ops_callD (.tuple #[.bool ((suchL (isOwn own) (l.take 33)).any (pendB (l.take 33))), .int .i64 0]) (by kernel_rfl) (by kernel_rfl) (by kernel_rfl) (fun args w => Try.call12 args w) (fun w hw => by have := poll_d q5 m5 cq5 ((l.take 33)) own po mo co ((suchL (isOwn own) (l.take 33))) w (hO5.atN (A := (_ :: _ :: Yo)) hw) hO5.len (by omega) (hOf.atN (A := [_, _]) hw) hOf.len (by omega); rw [poll_own q8 hown] at this; exact this) ?_
        refine oq 5 [] [1, 5, 6] [(9, .bool ((suchL (isOwn own) (l.take 33)).any (pendB (l.take 33)))), (10, .int .i64 0)] ([]) (fun _ => by kernel_rfl) al0 ?_
        refine ops_nil ?_
        refine done_seq ?_
        refine at_seq ?_
        refine at_seq ?_
        refine aq [] [1, 5, 6, 9, 10] [(50, .bool false)] ([]) (fun _ => by kernel_rfl) al0 ?_
        refine done_seq ?_
        refine at_false (by kernel_rfl) ?_
        refine at_skip ?_
        refine done_seq ?_
        refine at_seq ?_
        refine aq [] [1, 5, 6, 9] [(11, .int .i64 0)] ([]) (fun _ => by kernel_rfl) al0 ?_
        refine done_seq ?_
        refine at_seq ?_
        refine at_seq ?_
        refine aq [] [1, 5, 6, 9, 11] [(62, .slice po mo co), (63, .int .i64 ((mo : Nat))), (64, .int .i64 0)] ([]) (fun _ => by kernel_rfl) al0 ?_
        refine done_seq ?_
        refine at_block ?_
        have hr := q8
        refine at_loop (α := Nat × Nat × List Ob × Option Addr × Nat × Nat) [1, 5, 6, 9, 11, 62, 63, 64] (fun ⟨j2, cnt, Yp, qp, mq, cq⟩ => [(1, .int .i64 own), (5, .pointer (some ⟨γ6 0, 0, none⟩)), (6, .slice po mo co), (9, .bool ((suchL (isOwn own) (l.take 33)).any (pendB (l.take 33)))), (11, .int .i64 ((cnt : Nat))), (62, .slice po mo co), (63, .int .i64 ((mo : Nat))), (64, .int .i64 ((j2 : Nat)))]) (fun ⟨j2, cnt, Yp, qp, mq, cq⟩ => bx (γ6 0) (#[.slice qp mq cq]) 24 :: bx (γ1 0) (#[.slice p n cap]) 24 :: (Yo ++ (Yp ++ []))) (fun ⟨j2, cnt, Yp, qp, mq, cq⟩ => j2 ≤ mo ∧ cnt ≤ j2 ∧ mq ≤ 33 ∧ (0 < cnt ↔ ((suchL (isOwn own) (l.take 33)).take j2).any (pendB (l.take 33)) = true) ∧ SlO 40 Yp qp mq cq (clr ((suchL (isOwn own) (l.take 33)).take j2) (l.take 33))) (fun ⟨j2, cnt, Yp, qp, mq, cq⟩ => mo - j2) (0, 0, Y5, q5, m5, cq5) (by kernel_rfl) rfl ⟨Nat.zero_le _, Nat.le_refl _, by omega, by simp, by rw [List.take_zero, clr_nil]; exact hO5⟩ ?_
        rintro ⟨j2, cnt, Yp, qp, mq, cq⟩
        rintro ⟨hj2, hcj, hmq, hI, hP⟩
        refine at_seq ?_
        by_cases q41 : ((j2 : Nat) : Int) < ((mo : Nat) : Int)
        ·
          refine aq [(0, .yes)] [1, 5, 6, 9, 11, 62, 63, 64] [(65, .bool true)] ([((j2 : Nat) : Int) < ((mo : Nat) : Int)]) (fun _ => by kernel_rfl) (al1 q41) ?_
          refine done_seq ?_
          refine at_seq ?_
          refine at_true (by kernel_rfl) ?_
          refine at_skip ?_
          refine done_seq ?_
          refine at_seq ?_
          refine at_block ?_
          refine at_seq ?_
          have hln44 := hOf.len
          obtain ⟨g44, cs44, rfl, rfl, hOw44⟩ := hOf.rowOf (i := j2) (by omega)
          obtain ⟨x46, hx46⟩ := get_some (l := (suchL (isOwn own) (l.take 33))) (m := j2) (by omega)
          refine aq [(0, .at g44 0 j2), (1, .go (ownps 2 (0 + j2 * 1) [.int .i64 x46]))] [1, 5, 6, 9, 11, 62, 63, 64] [(13, .int .i64 x46)] ([(some ⟨g44, 0, none⟩ : Option Addr) = some ⟨g44, 0, none⟩, ((j2 : Nat)) = ((j2 : Nat) : Int), j2 < mo] ++ (acellsP cs44 (0 + j2 * 1) [.int .i64 x46])) (fun _ => by kernel_rfl) (alA (al2 rfl (al2 rfl (al1 (by omega)))) (rda_pre ((hOw44.rdx hOf.len hx46)) _ rfl)) ?_
          refine done_seq ?_
          refine at_seq ?_
          refine at_ops ?_
          refine oq 2 [(0, .go (owns 0 0 1))] [1, 5, 6, 9, 11, 62, 63, 64] [(69, .agg #[.slice qp mq cq]), (70, .int .i64 x46)] ([]) (fun _ => by kernel_rfl) al0 ?_
          obtain ⟨yc, hgc, hic⟩ := such_mem hr (List.mem_of_getElem? hx46)
          ·
            refine ops_call (fun v L' => ∃ q m capq Y, v = .tuple #[.agg #[.slice q m capq], .bool (yc.pending && decide (x46 ∉ (suchL (isOwn own) (l.take 33)).take j2)), .int .i64 0] ∧ L' = List.take 3 (bx (γ6 0) (#[.slice qp mq cq]) 24 :: bx (γ1 0) (#[.slice p n cap]) 24 :: bx g44 cs44 3 :: (Yp ++ [])) ++ (Y ++ List.drop 3 (bx (γ6 0) (#[.slice qp mq cq]) 24 :: bx (γ1 0) (#[.slice p n cap]) 24 :: bx g44 cs44 3 :: (Yp ++ []))) ∧ SlO 40 Y q m capq (clr ((suchL (isOwn own) (l.take 33)).take j2 ++ [x46]) (l.take 33))) (by kernel_rfl) (by kernel_rfl) (by kernel_rfl) (fun args w => Try.call23 args w) (fun w hw => by have := clear_d qp mq cq ((clr ((suchL (isOwn own) (l.take 33)).take j2) (l.take 33))) x46 w (hP.atN (A := [_, _, _]) hw) hP.len (by omega); rw [clear_clr hr hgc] at this; exact this.mono fun e w' ⟨q, m, capq, Y, he, hO, hb, hY⟩ => ⟨_, _, he, ⟨q, m, capq, Y, rfl, rfl, hO⟩, hw.join hb hY 3⟩) ?_
            rintro v49 L49 ⟨q49, m49, cq49, Y49, rfl, rfl, hO49⟩
            have hm49 : m49 ≤ 33 := by rw [hO49.len, clr_len]; omega
            refine om 8 [(8, .go (owns 0 0 1))] [1, 5, 6, 9, 11, 62, 63, 64] (fun γ50 => [(14, .pointer (some ⟨γ50 0, 0, none⟩)), (15, .bool ((yc.pending && decide (x46 ∉ (suchL (isOwn own) (l.take 33)).take j2)))), (16, .int .i64 0)]) (fun γ50 L => bx (γ50 0) (#[.slice q49 m49 cq49]) 24 :: L) (fun γ50 => []) (fun _ => by kernel_rfl) (fun γ50 => al0) (fun γ50 => ?_)
            refine ops_nil ?_
            refine done_seq ?_
            refine at_seq ?_
            refine at_seq ?_
            refine aq [] [1, 5, 6, 9, 11, 14, 15, 62, 63, 64] [(76, .bool false)] ([]) (fun _ => by kernel_rfl) al0 ?_
            refine done_seq ?_
            refine at_false (by kernel_rfl) ?_
            refine at_skip ?_
            refine done_seq ?_
            refine at_seq ?_
            refine at_seq ?_
            refine aq [] [1, 5, 6, 9, 11, 14, 62, 63, 64] [(77, .bool ((yc.pending && decide (x46 ∉ (suchL (isOwn own) (l.take 33)).take j2))))] ([]) (fun _ => by kernel_rfl) al0 ?_
            refine done_seq ?_
            rcases q53 : (yc.pending && decide (x46 ∉ (suchL (isOwn own) (l.take 33)).take j2)) with _ | _
            ·
              refine at_false (by kernel_rfl) ?_
              refine at_skip ?_
              refine done_seq ?_
              refine am [(0, .go (owns 0 0 1)), (1, .go (owns 1 0 1))] [1, 5, 6, 9, 11, 62, 63, 64] (fun _ => []) (fun _ L => (L.set 1 (bx (γ6 0) (#[.slice q49 m49 cq49]) 24))) (fun _ => []) (fun _ => by kernel_rfl) (fun _ => al0) (fun _ => ?_)
              refine done_block ?_
              refine done_seq ?_
              refine aq [(0, .fit)] [1, 5, 6, 9, 11, 62, 63] [(64, .int .i64 ((j2 + 1 : Nat)))] ([Fit .i64 ((j2 + 1 : Nat))]) (fun _ => by kernel_rfl) (al1 (fit64 (by omega) (by omega))) ?_
              refine Done.pick [[bx (γ50 0) (#[.slice q49 m49 cq49]) 24], [bx (γ6 0) (#[.slice q49 m49 cq49]) 24], [bx (γ1 0) (#[.slice p n cap]) 24], [bx g44 cs44 3], Y49, Yp] [1, 2, 3, 4] [0, 5] (bx (γ6 0) (#[.slice q49 m49 cq49]) 24 :: bx (γ1 0) (#[.slice p n cap]) 24 :: ([bx g44 cs44 3] ++ (Y49 ++ []))) (by kernel_rfl) rfl rfl ?_
              exact done_round [1, 5, 6, 9, 11, 62, 63, 64] (j2 + 1, cnt, Y49, q49, m49, cq49) (by kernel_rfl) rfl ⟨by omega, by omega, by omega, by have := cnt_on hI hx46 hgc (b := _) rfl; rw [q53] at this; simpa using this, by rw [List.take_add_one, hx46]; exact hO49⟩ (by first | omega | (simp only; omega))
            ·
              refine at_true (by kernel_rfl) ?_
              refine aq [(1, .fit)] [1, 5, 6, 9, 14, 62, 63, 64] [(11, .int .i64 ((cnt + 1 : Nat)))] ([Fit .i64 ((cnt + 1 : Nat))]) (fun _ => by kernel_rfl) (al1 (fit64 (by omega) (by omega))) ?_
              refine done_seq ?_
              refine am [(0, .go (owns 0 0 1)), (1, .go (owns 1 0 1))] [1, 5, 6, 9, 11, 62, 63, 64] (fun _ => []) (fun _ L => (L.set 1 (bx (γ6 0) (#[.slice q49 m49 cq49]) 24))) (fun _ => []) (fun _ => by kernel_rfl) (fun _ => al0) (fun _ => ?_)
              refine done_block ?_
              refine done_seq ?_
              refine aq [(0, .fit)] [1, 5, 6, 9, 11, 62, 63] [(64, .int .i64 ((j2 + 1 : Nat)))] ([Fit .i64 ((j2 + 1 : Nat))]) (fun _ => by kernel_rfl) (al1 (fit64 (by omega) (by omega))) ?_
              refine Done.pick [[bx (γ50 0) (#[.slice q49 m49 cq49]) 24], [bx (γ6 0) (#[.slice q49 m49 cq49]) 24], [bx (γ1 0) (#[.slice p n cap]) 24], [bx g44 cs44 3], Y49, Yp] [1, 2, 3, 4] [0, 5] (bx (γ6 0) (#[.slice q49 m49 cq49]) 24 :: bx (γ1 0) (#[.slice p n cap]) 24 :: ([bx g44 cs44 3] ++ (Y49 ++ []))) (by kernel_rfl) rfl rfl ?_
              exact done_round [1, 5, 6, 9, 11, 62, 63, 64] (j2 + 1, cnt + 1, Y49, q49, m49, cq49) (by kernel_rfl) rfl ⟨by omega, by omega, by omega, by have := cnt_on hI hx46 hgc (b := _) rfl; rw [q53] at this; simpa using this, by rw [List.take_add_one, hx46]; exact hO49⟩ (by first | omega | (simp only; omega))
        ·
          refine aq [(0, .no)] [1, 5, 6, 9, 11, 62, 63, 64] [(65, .bool false)] ([¬ (((j2 : Nat) : Int) < ((mo : Nat) : Int))]) (fun _ => by kernel_rfl) (al1 q41) ?_
          refine done_seq ?_
          refine at_seq ?_
          refine at_false (by kernel_rfl) ?_
          refine at_leave _ (by rfl) ?_
          refine done_seq ?_
          refine at_seq ?_
          have hPf := hP
          rw [List.take_of_length_le (by omega)] at hPf hI
          refine at_ops ?_
          refine oq 3 [(0, .go (owns 0 0 1))] [1, 5, 9, 11] [(83, .agg #[.slice qp mq cq]), (84, .int .i64 own), (85, .slice po mo co)] ([]) (fun _ => by kernel_rfl) al0 ?_
          refine ops_callD (.tuple #[.bool false, .int .i64 0]) (by kernel_rfl) (by kernel_rfl) (by kernel_rfl) (fun args w => Try.call12 args w) (fun w hw => by have := poll_d qp mq cq ((clr (suchL (isOwn own) (l.take 33)) (l.take 33))) own po mo co ((suchL (isOwn own) (l.take 33))) w (hPf.atN (A := (_ :: _ :: Yo)) hw) hPf.len (by omega) (hOf.atN (A := [_, _]) hw) hOf.len (by omega); rw [poll_clr hr hown] at this; exact this) ?_
          refine oq 5 [] [1, 5, 9, 11] [(10, .int .i64 0), (17, .bool false)] ([]) (fun _ => by kernel_rfl) al0 ?_
          refine ops_nil ?_
          refine done_seq ?_
          refine at_seq ?_
          by_cases q63 : ((cnt : Nat) : Int) > (0 : Int)
          ·
            rcases q65 : (suchL (isOwn own) (l.take 33)).any (pendB (l.take 33)) with _ | _
            ·
              refine aq [(2, .yes), (3, .eqs false)] [] [(4, .bool false)] ([((cnt : Nat) : Int) > (0 : Int)] ++ ([EqRun Try.prog .eql 4 (.tmp 89) (.tmp 91) (.bool false) (.bool true) false])) (fun _ => by kernel_rfl) (alA (al1 q63) (al1 (bool_eq false true))) ?_
              refine done_seq ?_
              refine at_return ([]) (.bool false) [] (by kernel_rfl) (by kernel_rfl) al0 ?_
              exfalso
              rw [q65] at hI
              simp at hI
              omega
            ·
              refine at_ops ?_
              refine oq 15 [(2, .yes), (3, .eqs true), (13, .go (owns 0 0 1))] [] [(101, .bool true), (102, .agg #[.slice qp mq cq]), (103, .int .i64 own)] ([((cnt : Nat) : Int) > (0 : Int)] ++ ([EqRun Try.prog .eql 4 (.tmp 89) (.tmp 91) (.bool true) (.bool true) true])) (fun _ => by kernel_rfl) (alA (al1 q63) (al1 (bool_eq true true))) ?_
              refine ops_call (fun v L' => ∃ q m capq Y, v = .slice q m capq ∧ L' = List.take 2 (bx (γ6 0) (#[.slice qp mq cq]) 24 :: bx (γ1 0) (#[.slice p n cap]) 24 :: (Yo ++ (Yp ++ []))) ++ (Y ++ List.drop 2 (bx (γ6 0) (#[.slice qp mq cq]) 24 :: bx (γ1 0) (#[.slice p n cap]) 24 :: (Yo ++ (Yp ++ [])))) ∧ SlO 3 Y q m capq ([] : List Int)) (by kernel_rfl) (by kernel_rfl) (by kernel_rfl) (fun args w => Try.call22 args w) (fun w hw => by have := edue_d qp mq cq ((clr (suchL (isOwn own) (l.take 33)) (l.take 33))) own w (hPf.atN (A := (_ :: _ :: Yo)) hw) hPf.len (by omega); rw [due_clr hr] at this; exact this.mono fun e w' ⟨q, m, capq, Y, he, hO, hb, hY⟩ => ⟨_, _, he, ⟨q, m, capq, Y, rfl, rfl, hO⟩, hw.join hb hY 2⟩) ?_
              rintro v68 L68 ⟨q68, m68, cq68, Y68, rfl, rfl, hO68⟩
              refine oq 4 [(17, .yes)] [] [(4, .bool true)] ([((m68 : Nat) : Int) = (0 : Int)]) (fun _ => by kernel_rfl) (al1 ((by rw [hO68.len]; rfl))) ?_
              refine ops_nil ?_
              refine done_seq ?_
              refine at_return ([]) (.bool true) [] (by kernel_rfl) (by kernel_rfl) al0 ?_
              exact fun w' hw => ⟨rfl, hw.below⟩
          ·
            rcases q71 : (suchL (isOwn own) (l.take 33)).any (pendB (l.take 33)) with _ | _
            ·
              refine at_ops ?_
              refine oq 15 [(2, .no), (3, .eqs true), (13, .go (owns 0 0 1))] [] [(101, .bool true), (102, .agg #[.slice qp mq cq]), (103, .int .i64 own)] ([¬ (((cnt : Nat) : Int) > (0 : Int))] ++ ([EqRun Try.prog .eql 4 (.tmp 89) (.tmp 91) (.bool false) (.bool false) true])) (fun _ => by kernel_rfl) (alA (al1 q63) (al1 (bool_eq false false))) ?_
              refine ops_call (fun v L' => ∃ q m capq Y, v = .slice q m capq ∧ L' = List.take 2 (bx (γ6 0) (#[.slice qp mq cq]) 24 :: bx (γ1 0) (#[.slice p n cap]) 24 :: (Yo ++ (Yp ++ []))) ++ (Y ++ List.drop 2 (bx (γ6 0) (#[.slice qp mq cq]) 24 :: bx (γ1 0) (#[.slice p n cap]) 24 :: (Yo ++ (Yp ++ [])))) ∧ SlO 3 Y q m capq ([] : List Int)) (by kernel_rfl) (by kernel_rfl) (by kernel_rfl) (fun args w => Try.call22 args w) (fun w hw => by have := edue_d qp mq cq ((clr (suchL (isOwn own) (l.take 33)) (l.take 33))) own w (hPf.atN (A := (_ :: _ :: Yo)) hw) hPf.len (by omega); rw [due_clr hr] at this; exact this.mono fun e w' ⟨q, m, capq, Y, he, hO, hb, hY⟩ => ⟨_, _, he, ⟨q, m, capq, Y, rfl, rfl, hO⟩, hw.join hb hY 2⟩) ?_
              rintro v73 L73 ⟨q73, m73, cq73, Y73, rfl, rfl, hO73⟩
              refine oq 4 [(17, .yes)] [] [(4, .bool true)] ([((m73 : Nat) : Int) = (0 : Int)]) (fun _ => by kernel_rfl) (al1 ((by rw [hO73.len]; rfl))) ?_
              refine ops_nil ?_
              refine done_seq ?_
              refine at_return ([]) (.bool true) [] (by kernel_rfl) (by kernel_rfl) al0 ?_
              exact fun w' hw => ⟨rfl, hw.below⟩
            ·
              refine aq [(2, .no), (3, .eqs false)] [] [(4, .bool false)] ([¬ (((cnt : Nat) : Int) > (0 : Int))] ++ ([EqRun Try.prog .eql 4 (.tmp 89) (.tmp 91) (.bool true) (.bool false) false])) (fun _ => by kernel_rfl) (alA (al1 q63) (al1 (bool_eq true false))) ?_
              refine done_seq ?_
              refine at_return ([]) (.bool false) [] (by kernel_rfl) (by kernel_rfl) al0 ?_
              exfalso
              rw [q71] at hI
              simp at hI
              omega
end Go.Proofs.Ytfhlmijdokfdpaa
