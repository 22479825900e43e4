/- The reference's Due; the same numbers. -/
import Derived.Test.YtfhlmijdokfdpaaPq
namespace Go.Proofs.Ytfhlmijdokfdpaa
open Go Go.RowKit

set_option maxRecDepth 100000 in
theorem rdue_d (p : Option Addr) (n cap : Nat) (l : List Port) (own : Int) (w : World)
    (hsl : Sv w p l) (hn : n = l.length) (hb : n ≤ 1000)
    : Calls Try.prog 20 #[.agg #[.slice p n cap], .int .i64 own] w fun e w' => ∃ q m capq Y, e = .returned (.slice q m capq) ∧ SlO 3 Y q m capq (suchL (isDue own) l) ∧ Below w.heap.size w w' ∧ Hs w Y w' := by
  refine enter (Hs.start w) Try.func20 rfl Try.ntmps20 rfl ?_
  refine at_seq ?_
  refine am [] [1] (fun γ1 => [(2, .pointer (some ⟨γ1 0, 0, none⟩))]) (fun γ1 L => bx (γ1 0) (#[.slice p n cap]) 24 :: L) (fun γ1 => []) (fun _ => by kernel_rfl) (fun γ1 => al0) (fun γ1 => ?_)
  refine done_seq ?_
  refine at_seq ?_
  refine aq [] [1, 2] [(5, .slice none 0 0)] ([]) (fun _ => by kernel_rfl) al0 ?_
  refine done_seq ?_
  refine at_seq ?_
  refine at_seq ?_
  refine aq [(1, .go (owns 0 0 1))] [1, 5] [(9, .slice p n cap), (10, .int .i64 ((n : Nat))), (11, .int .i64 0)] ([]) (fun _ => by kernel_rfl) al0 ?_
  refine done_seq ?_
  refine at_block ?_
  refine at_loop (α := Nat × List Ob × Option Addr × Nat × Nat) [1, 5, 9, 10, 11] (fun ⟨j, Yo, po, m, co⟩ => [(1, .int .i64 own), (5, .slice po m co), (9, .slice p n cap), (10, .int .i64 ((n : Nat))), (11, .int .i64 ((j : Nat)))]) (fun ⟨j, Yo, po, m, co⟩ => bx (γ1 0) (#[.slice p n cap]) 24 :: (Yo ++ [])) (fun ⟨j, Yo, po, m, co⟩ => j ≤ n ∧ m ≤ j ∧ SlO 3 Yo po m co (suchL (isDue own) (l.take j))) (fun ⟨j, Yo, po, m, co⟩ => n - j) (0, [], none, 0, 0) (by kernel_rfl) rfl ⟨Nat.zero_le _, Nat.le_refl _, by rw [List.take_zero]; exact SlO.nil⟩ ?_
  rintro ⟨j, Yo, po, m, co⟩
  rintro ⟨hj, hm, hO⟩
  refine at_seq ?_
  by_cases q5 : ((j : Nat) : Int) < ((n : Nat) : Int)
  ·
    refine aq [(0, .yes)] [1, 5, 9, 10, 11] [(12, .bool true)] ([((j : Nat) : Int) < ((n : Nat) : Int)]) (fun _ => by kernel_rfl) (al1 q5) ?_
    refine done_seq ?_
    refine at_seq ?_
    refine at_true (by kernel_rfl) ?_
    refine at_skip ?_
    refine done_seq ?_
    refine at_seq ?_
    refine at_block ?_
    refine at_seq ?_
    obtain ⟨b8, o8, rfl⟩ := hsl.pos (i := j) (by omega)
    obtain ⟨x10, hx10⟩ := get_some (l := l) (m := j) (by omega)
    refine am [(0, .at b8 o8 j), (1, .go (outs b8 (o8 + j * 5) [.int .i64 x10.num, .int .i64 x10.vcpu, .int .i64 x10.peer, .bool x10.pending, .bool x10.masked])), (3, .go (owns 0 0 5))] [1, 5, 9, 10, 11] (fun γ11 => [(7, .pointer (some ⟨γ11 0, 0, none⟩))]) (fun γ11 L => bx (γ11 0) (#[.int .i64 x10.num, .int .i64 x10.vcpu, .int .i64 x10.peer, .bool x10.pending, .bool x10.masked]) 40 :: L) (fun γ11 => [(some ⟨b8, o8, none⟩ : Option Addr) = some ⟨b8, o8, none⟩, ((j : Nat)) = ((j : Nat) : Int), j < n] ++ (cellsP w b8 (o8 + j * 5) [.int .i64 x10.num, .int .i64 x10.vcpu, .int .i64 x10.peer, .bool x10.pending, .bool x10.masked])) (fun _ => by kernel_rfl) (fun γ11 => (alA (al2 rfl (al2 rfl (al1 (by omega)))) (rd_pre (hsl.get hx10) _ rfl))) (fun γ11 => ?_)
    refine done_seq ?_
    refine at_seq ?_
    rcases q13 : x10.pending with _ | _
    ·
      refine aq [(1, .go (owns 0 3 1))] [1, 5, 7, 9, 10, 11] [(27, .bool false)] ([]) (fun _ => by kernel_rfl) al0 ?_
      refine done_seq ?_
      refine at_false (by kernel_rfl) ?_
      refine at_skip ?_
      refine done_block ?_
      refine done_seq ?_
      refine aq [(0, .fit)] [1, 5, 9, 10] [(11, .int .i64 ((j + 1 : Nat)))] ([Fit .i64 ((j + 1 : Nat))]) (fun _ => by kernel_rfl) (al1 (fit64 (by omega) (by omega))) ?_
      refine Done.drop (L' := bx (γ1 0) (#[.slice (some ⟨b8, o8, none⟩) n cap]) 24 :: (Yo ++ [])) ?_ (List.Sublist.cons _ (List.Sublist.cons_cons _ (List.Sublist.refl _)))
      exact done_round [1, 5, 9, 10, 11] (j + 1, Yo, po, m, co) (by kernel_rfl) rfl ⟨by omega, by omega, by rw [← such_no hx10 (isDue_no (by simp [dueB, *]))]; exact hO⟩ (by first | omega | (simp only; omega))
    ·
      rcases q17 : x10.masked with _ | _
      ·
        by_cases q19 : (x10.vcpu : Int) = (own : Int)
        ·
          refine aq [(1, .go (owns 0 3 1)), (4, .go (owns 0 4 1)), (9, .go (owns 0 1 1)), (11, .yes)] [1, 5, 7, 9, 10, 11] [(27, .bool true)] ([(x10.vcpu : Int) = (own : Int)]) (fun _ => by kernel_rfl) (al1 q19) ?_
          refine done_seq ?_
          refine at_true (by kernel_rfl) ?_
          refine at_ops ?_
          refine om 4 [(2, .go (owns 0 0 1))] [1, 9, 10, 11] (fun γ21 => [(28, .slice po m co), (31, .slice (some ⟨γ21 0, 0, none⟩) 1 1)]) (fun γ21 L => bx (γ21 0) (#[.int .i64 x10.num]) 3 :: L) (fun γ21 => []) (fun _ => by kernel_rfl) (fun γ21 => al0) (fun γ21 => ?_)
          refine ops_append (α := Int) [bx (γ21 0) (#[.int .i64 x10.num]) 3, bx (γ11 0) (#[.int .i64 x10.num, .int .i64 x10.vcpu, .int .i64 x10.peer, .bool true, .bool false]) 40, bx (γ1 0) (#[.slice (some ⟨b8, o8, none⟩) n cap]) 24] Yo ([]) (.refl _) rfl (by kernel_rfl) (by kernel_rfl) (p := po) (n := m) (cap := co) (m := 1) (yv := .slice (some ⟨γ21 0, 0, none⟩) 1 1) (by kernel_rfl) (by kernel_rfl) (T := 3) (by_ := 8) (by kernel_rfl) ((suchL (isDue own) (l.take j))) ([x10.num]) hO (fun w hw => src_svn Try.underlying28 (sv_row (hw.row 0 rfl) (by rfl)) (by rfl)) (by rfl) (by have hmx : maxLen = 9223372036854775807 := rfl; omega) (by have hmx : maxLen = 9223372036854775807 := rfl; omega) (fun Y22 p22 cap22 hO22 => ?_)
          refine oq 1 [] [1, 9, 10, 11] [(5, .slice p22 (m + 1) cap22)] ([]) (fun _ => by kernel_rfl) al0 ?_
          refine ops_nil ?_
          refine done_block ?_
          refine done_seq ?_
          refine aq [(0, .fit)] [1, 5, 9, 10] [(11, .int .i64 ((j + 1 : Nat)))] ([Fit .i64 ((j + 1 : Nat))]) (fun _ => by kernel_rfl) (al1 (fit64 (by omega) (by omega))) ?_
          refine Done.drop (L' := bx (γ1 0) (#[.slice (some ⟨b8, o8, none⟩) n cap]) 24 :: (Y22 ++ [])) ?_ (List.Sublist.cons _ (List.Sublist.cons _ (List.Sublist.cons_cons _ (List.Sublist.refl _))))
          exact done_round [1, 5, 9, 10, 11] (j + 1, Y22, p22, m + 1, cap22) (by kernel_rfl) rfl ⟨by omega, by omega, by rw [← such_yes hx10 (isDue_yes (by simp [dueB, *]) q19)]; exact hO22⟩ (by first | omega | (simp only; omega))
        ·
          refine aq [(1, .go (owns 0 3 1)), (4, .go (owns 0 4 1)), (9, .go (owns 0 1 1)), (11, .no)] [1, 5, 7, 9, 10, 11] [(27, .bool false)] ([¬ ((x10.vcpu : Int) = (own : Int))]) (fun _ => by kernel_rfl) (al1 q19) ?_
          refine done_seq ?_
          refine at_false (by kernel_rfl) ?_
          refine at_skip ?_
          refine done_block ?_
          refine done_seq ?_
          refine aq [(0, .fit)] [1, 5, 9, 10] [(11, .int .i64 ((j + 1 : Nat)))] ([Fit .i64 ((j + 1 : Nat))]) (fun _ => by kernel_rfl) (al1 (fit64 (by omega) (by omega))) ?_
          refine Done.drop (L' := bx (γ1 0) (#[.slice (some ⟨b8, o8, none⟩) n cap]) 24 :: (Yo ++ [])) ?_ (List.Sublist.cons _ (List.Sublist.cons_cons _ (List.Sublist.refl _)))
          exact done_round [1, 5, 9, 10, 11] (j + 1, Yo, po, m, co) (by kernel_rfl) rfl ⟨by omega, by omega, by rw [← such_no hx10 (isDue_not q19)]; exact hO⟩ (by first | omega | (simp only; omega))
      ·
        refine aq [(1, .go (owns 0 3 1)), (4, .go (owns 0 4 1))] [1, 5, 7, 9, 10, 11] [(27, .bool false)] ([]) (fun _ => by kernel_rfl) al0 ?_
        refine done_seq ?_
        refine at_false (by kernel_rfl) ?_
        refine at_skip ?_
        refine done_block ?_
        refine done_seq ?_
        refine aq [(0, .fit)] [1, 5, 9, 10] [(11, .int .i64 ((j + 1 : Nat)))] ([Fit .i64 ((j + 1 : Nat))]) (fun _ => by kernel_rfl) (al1 (fit64 (by omega) (by omega))) ?_
        refine Done.drop (L' := bx (γ1 0) (#[.slice (some ⟨b8, o8, none⟩) n cap]) 24 :: (Yo ++ [])) ?_ (List.Sublist.cons _ (List.Sublist.cons_cons _ (List.Sublist.refl _)))
        exact done_round [1, 5, 9, 10, 11] (j + 1, Yo, po, m, co) (by kernel_rfl) rfl ⟨by omega, by omega, by rw [← such_no hx10 (isDue_no (by simp [dueB, *]))]; exact hO⟩ (by first | omega | (simp only; omega))
  ·
    refine aq [(0, .no)] [1, 5, 9, 10, 11] [(12, .bool false)] ([¬ (((j : Nat) : Int) < ((n : Nat) : Int))]) (fun _ => by kernel_rfl) (al1 q5) ?_
    refine done_seq ?_
    refine at_seq ?_
    refine at_false (by kernel_rfl) ?_
    refine at_leave _ (by rfl) ?_
    refine done_seq ?_
    refine at_seq ?_
    refine aq [] [] [(4, .slice po m co)] ([]) (fun _ => by kernel_rfl) al0 ?_
    refine done_seq ?_
    refine at_return ([]) (.slice po m co) [] (by kernel_rfl) (by kernel_rfl) al0 ?_
    exact fun w' hw => by rw [← such_all (j := j) (by omega)]; exact ⟨_, _, _, _, rfl, hO, hw.below, ((hw.tailN 1).sub (List.sublist_append_left Yo ([])))⟩

set_option maxRecDepth 100000 in
theorem sameints_d (p : Option Addr) (n cap : Nat) (l : List Int) (q : Option Addr) (m cap2 : Nat) (l2 : List Int) (w : World)
    (hsl : Sv w p l) (hn : n = l.length) (hb : n ≤ 1000)
    (hsl2 : Sv w q l2) (hm : m = l2.length) (hmb : m ≤ 1000)
    : Calls Try.prog 21 #[.slice p n cap, .slice q m cap2] w fun e w' => e = .returned (.bool (decide (l = l2))) ∧ Below w.heap.size w w' := by
  refine enter (Hs.start w) Try.func21 rfl Try.ntmps21 rfl ?_
  refine at_seq ?_
  refine aq [] [0, 1] [] ([]) (fun _ => by kernel_rfl) al0 ?_
  refine done_seq ?_
  refine at_seq ?_
  refine at_seq ?_
  by_cases q3 : ((n : Nat) : Int) ≠ ((m : Nat) : Int)
  ·
    refine aq [(4, .yes)] [0, 1] [(10, .bool true)] ([((n : Nat) : Int) ≠ ((m : Nat) : Int)]) (fun _ => by kernel_rfl) (al1 q3) ?_
    refine done_seq ?_
    refine at_true (by kernel_rfl) ?_
    refine at_seq ?_
    refine aq [] [] [(4, .bool false)] ([]) (fun _ => by kernel_rfl) al0 ?_
    refine done_seq ?_
    refine at_return ([]) (.bool false) [] (by kernel_rfl) (by kernel_rfl) al0 ?_
    exact fun w' hw => ⟨by rw [same_len (l := l) (l2 := l2) (by omega)], hw.below⟩
  ·
    refine aq [(4, .no)] [0, 1] [(10, .bool false)] ([¬ (((n : Nat) : Int) ≠ ((m : Nat) : Int))]) (fun _ => by kernel_rfl) (al1 q3) ?_
    refine done_seq ?_
    refine at_false (by kernel_rfl) ?_
    refine at_skip ?_
    refine done_seq ?_
    refine at_seq ?_
    refine at_seq ?_
    refine aq [] [0, 1] [(12, .int .i64 ((n : Nat))), (13, .int .i64 0)] ([]) (fun _ => by kernel_rfl) al0 ?_
    refine done_seq ?_
    refine at_block ?_
    refine at_loop (α := Nat) [0, 1, 12, 13] (fun j => [(0, .slice p n cap), (1, .slice q m cap2), (12, .int .i64 ((n : Nat))), (13, .int .i64 ((j : Nat)))]) (fun j => []) (fun j => j ≤ n ∧ l.take j = l2.take j) (fun j => n - j) 0 (by kernel_rfl) rfl ⟨Nat.zero_le _, rfl⟩ ?_
    rintro j
    rintro ⟨hj, hI⟩
    refine at_seq ?_
    by_cases q9 : ((j : Nat) : Int) < ((n : Nat) : Int)
    ·
      refine aq [(0, .yes)] [0, 1, 12, 13] [(14, .bool true)] ([((j : Nat) : Int) < ((n : Nat) : Int)]) (fun _ => by kernel_rfl) (al1 q9) ?_
      refine done_seq ?_
      refine at_seq ?_
      refine at_true (by kernel_rfl) ?_
      refine at_skip ?_
      refine done_seq ?_
      refine at_seq ?_
      refine at_block ?_
      refine at_seq ?_
      refine aq [] [0, 1, 12, 13] [(5, .int .i64 ((j : Nat)))] ([]) (fun _ => by kernel_rfl) al0 ?_
      refine done_seq ?_
      refine at_seq ?_
      obtain ⟨b13, o13, rfl⟩ := hsl.pos (i := j) (by omega)
      obtain ⟨x15, hx15⟩ := get_some (l := l) (m := j) (by omega)
      obtain ⟨b17, o17, rfl⟩ := hsl2.pos (i := j) (by omega)
      obtain ⟨x19, hx19⟩ := get_some (l := l2) (m := j) (by omega)
      by_cases q21 : (x15 : Int) ≠ (x19 : Int)
      ·
        refine cq [(2, .at b13 o13 j), (3, .go (outs b13 (o13 + j * 1) [.int .i64 x15])), (6, .at b17 o17 j), (7, .go (outs b17 (o17 + j * 1) [.int .i64 x19])), (8, .yes)] [0, 1, 12, 13] [(24, .bool true)] ([(some ⟨b13, o13, none⟩ : Option Addr) = some ⟨b13, o13, none⟩, ((j : Nat)) = ((j : Nat) : Int), j < n] ++ (cellsP w b13 (o13 + j * 1) [.int .i64 x15] ++ ([(some ⟨b17, o17, none⟩ : Option Addr) = some ⟨b17, o17, none⟩, ((j : Nat)) = ((j : Nat) : Int), j < m] ++ (cellsP w b17 (o17 + j * 1) [.int .i64 x19] ++ ([(x15 : Int) ≠ (x19 : Int)]))))) rfl (by kernel_rfl) (by kernel_rfl) (by kernel_rfl) (alA (al2 rfl (al2 rfl (al1 (by omega)))) (alA (rd_pre (hsl.get hx15) _ rfl) (alA (al2 rfl (al2 rfl (al1 (by omega)))) (alA (rd_pre (hsl2.get hx19) _ rfl) (al1 q21))))) ?_
        refine done_seq ?_
        refine at_true (by kernel_rfl) ?_
        refine at_seq ?_
        refine aq [] [] [(4, .bool false)] ([]) (fun _ => by kernel_rfl) al0 ?_
        refine done_seq ?_
        refine at_return ([]) (.bool false) [] (by kernel_rfl) (by kernel_rfl) al0 ?_
        exact fun w' hw => ⟨by rw [same_no hx15 hx19 (by omega)], hw.below⟩
      ·
        refine cq [(2, .at b13 o13 j), (3, .go (outs b13 (o13 + j * 1) [.int .i64 x15])), (6, .at b17 o17 j), (7, .go (outs b17 (o17 + j * 1) [.int .i64 x19])), (8, .no)] [0, 1, 12, 13] [(24, .bool false)] ([(some ⟨b13, o13, none⟩ : Option Addr) = some ⟨b13, o13, none⟩, ((j : Nat)) = ((j : Nat) : Int), j < n] ++ (cellsP w b13 (o13 + j * 1) [.int .i64 x15] ++ ([(some ⟨b17, o17, none⟩ : Option Addr) = some ⟨b17, o17, none⟩, ((j : Nat)) = ((j : Nat) : Int), j < m] ++ (cellsP w b17 (o17 + j * 1) [.int .i64 x19] ++ ([¬ ((x15 : Int) ≠ (x19 : Int))]))))) rfl (by kernel_rfl) (by kernel_rfl) (by kernel_rfl) (alA (al2 rfl (al2 rfl (al1 (by omega)))) (alA (rd_pre (hsl.get hx15) _ rfl) (alA (al2 rfl (al2 rfl (al1 (by omega)))) (alA (rd_pre (hsl2.get hx19) _ rfl) (al1 q21))))) ?_
        refine done_seq ?_
        refine at_false (by kernel_rfl) ?_
        refine at_skip ?_
        refine done_block ?_
        refine done_seq ?_
        refine aq [(0, .fit)] [0, 1, 12] [(13, .int .i64 ((j + 1 : Nat)))] ([Fit .i64 ((j + 1 : Nat))]) (fun _ => by kernel_rfl) (al1 (fit64 (by omega) (by omega))) ?_
        exact done_round [0, 1, 12, 13] (j + 1) (by kernel_rfl) rfl ⟨by omega, same_on hI hx15 hx19 (by omega)⟩ (by first | omega | (simp only; omega))
    ·
      refine aq [(0, .no)] [0, 1, 12, 13] [(14, .bool false)] ([¬ (((j : Nat) : Int) < ((n : Nat) : Int))]) (fun _ => by kernel_rfl) (al1 q9) ?_
      refine done_seq ?_
      refine at_seq ?_
      refine at_false (by kernel_rfl) ?_
      refine at_leave _ (by rfl) ?_
      refine done_seq ?_
      refine at_seq ?_
      refine aq [] [] [(4, .bool true)] ([]) (fun _ => by kernel_rfl) al0 ?_
      refine done_seq ?_
      refine at_return ([]) (.bool true) [] (by kernel_rfl) (by kernel_rfl) al0 ?_
      exact fun w' hw => ⟨by rw [same_yes hI (by omega) (by omega)], hw.below⟩
end Go.Proofs.Ytfhlmijdokfdpaa
