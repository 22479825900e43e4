/- Polls of the reference; the same rows. -/
import Derived.Test.YtfhlmijdokfdpaaPf
namespace Go.Proofs.Ytfhlmijdokfdpaa
open Go Go.RowKit

set_option maxRecDepth 100000 in
theorem rpoll_d (p : Option Addr) (n cap : Nat) (l : List Port) (own : Int) (pn : Option Addr) (m capn : Nat) (ns : List Int) (w : World)
    (hsl : Sv w p l) (hn : n = l.length) (hb : n ≤ 1000)
    (hns : Sv w pn ns) (hm : m = ns.length) (hmb : m ≤ 1000)
    : Calls Try.prog 14 #[.agg #[.slice p n cap], .int .i64 own, .slice pn m capn] w fun e w' => e = .returned (.tuple #[.bool (rpollV l own ns).1, .int .i64 (rpollV l own ns).2]) ∧ Below w.heap.size w w' := by
  refine enter (Hs.start w) Try.func14 rfl Try.ntmps14 rfl ?_
  refine at_seq ?_
  refine am [] [1, 2] (fun γ1 => [(3, .pointer (some ⟨γ1 0, 0, none⟩))]) (fun γ1 L => bx (γ1 0) (#[.slice p n cap]) 24 :: L) (fun γ1 => []) (fun _ => by kernel_rfl) (fun γ1 => al0) (fun γ1 => ?_)
  refine done_seq ?_
  refine at_seq ?_
  refine at_seq ?_
  refine at_ops ?_
  refine oq 1 [] [1, 2, 3] [(14, .int .i64 own)] ([]) (fun _ => by kernel_rfl) al0 ?_
  rcases q3 : vcpuB own with _ | _
  ·
    refine ops_callD (.bool false) (by kernel_rfl) (by kernel_rfl) (by kernel_rfl) (fun args w => Try.call33 args w) (fun w hw => by have := rvcpu_d own w; rw [q3] at this; exact this) ?_
    refine oq 11 [] [1, 2, 3] [(26, .bool true)] ([]) (fun _ => by kernel_rfl) al0 ?_
    refine ops_nil ?_
    refine done_seq ?_
    refine at_true (by kernel_rfl) ?_
    refine at_seq ?_
    refine aq [] [] [(6, .bool false), (7, .int .i64 2)] ([]) (fun _ => by kernel_rfl) al0 ?_
    refine done_seq ?_
    refine at_return ([]) (.tuple #[.bool false, .int .i64 2]) [] (by kernel_rfl) (by kernel_rfl) al0 ?_
    exact fun w' hw => ⟨by rw [rpollV_no (by rintro ⟨a, b, c⟩; first | omega | simp_all)], hw.below⟩
  ·
    refine ops_callD (.bool true) (by kernel_rfl) (by kernel_rfl) (by kernel_rfl) (fun args w => Try.call33 args w) (fun w hw => by have := rvcpu_d own w; rw [q3] at this; exact this) ?_
    by_cases q7 : ((m : Nat) : Int) < (1 : Int)
    ·
      refine oq 11 [(6, .yes)] [1, 2, 3] [(26, .bool true)] ([((m : Nat) : Int) < (1 : Int)]) (fun _ => by kernel_rfl) (al1 q7) ?_
      refine ops_nil ?_
      refine done_seq ?_
      refine at_true (by kernel_rfl) ?_
      refine at_seq ?_
      refine aq [] [] [(6, .bool false), (7, .int .i64 2)] ([]) (fun _ => by kernel_rfl) al0 ?_
      refine done_seq ?_
      refine at_return ([]) (.tuple #[.bool false, .int .i64 2]) [] (by kernel_rfl) (by kernel_rfl) al0 ?_
      exact fun w' hw => ⟨by rw [rpollV_no (by rintro ⟨a, b, c⟩; first | omega | simp_all)], hw.below⟩
    ·
      by_cases q11 : ((m : Nat) : Int) > (32 : Int)
      ·
        refine oq 11 [(6, .no), (11, .yes)] [1, 2, 3] [(26, .bool true)] ([¬ (((m : Nat) : Int) < (1 : Int))] ++ ([((m : Nat) : Int) > (32 : Int)])) (fun _ => by kernel_rfl) (alA (al1 q7) (al1 q11)) ?_
        refine ops_nil ?_
        refine done_seq ?_
        refine at_true (by kernel_rfl) ?_
        refine at_seq ?_
        refine aq [] [] [(6, .bool false), (7, .int .i64 2)] ([]) (fun _ => by kernel_rfl) al0 ?_
        refine done_seq ?_
        refine at_return ([]) (.tuple #[.bool false, .int .i64 2]) [] (by kernel_rfl) (by kernel_rfl) al0 ?_
        exact fun w' hw => ⟨by rw [rpollV_no (by rintro ⟨a, b, c⟩; first | omega | simp_all)], hw.below⟩
      ·
        refine oq 11 [(6, .no), (11, .no)] [1, 2, 3] [(26, .bool false)] ([¬ (((m : Nat) : Int) < (1 : Int))] ++ ([¬ (((m : Nat) : Int) > (32 : Int))])) (fun _ => by kernel_rfl) (alA (al1 q7) (al1 q11)) ?_
        refine ops_nil ?_
        refine done_seq ?_
        refine at_false (by kernel_rfl) ?_
        refine at_skip ?_
        refine done_seq ?_
        refine at_seq ?_
        refine aq [] [1, 2, 3] [(8, .bool false), (9, .bool true)] ([]) (fun _ => by kernel_rfl) al0 ?_
        refine done_seq ?_
        refine at_seq ?_
        refine at_seq ?_
        refine aq [] [1, 3, 8, 9] [(27, .slice pn m capn), (28, .int .i64 ((m : Nat))), (29, .int .i64 0)] ([]) (fun _ => by kernel_rfl) al0 ?_
        refine done_seq ?_
        refine at_block ?_
        refine at_loop (α := Nat × Bool × Bool) [1, 3, 8, 9, 27, 28, 29] (fun ⟨j, pd, ow⟩ => [(1, .int .i64 own), (3, .pointer (some ⟨γ1 0, 0, none⟩)), (8, .bool pd), (9, .bool ow), (27, .slice pn m capn), (28, .int .i64 ((m : Nat))), (29, .int .i64 ((j : Nat)))]) (fun ⟨j, pd, ow⟩ => [bx (γ1 0) (#[.slice p n cap]) 24]) (fun ⟨j, pd, ow⟩ => j ≤ m ∧ rpollGo l own (ns.drop j) pd ow = rpollGo l own ns false true) (fun ⟨j, pd, ow⟩ => m - j) (0, false, true) (by kernel_rfl) rfl ⟨Nat.zero_le _, rfl⟩ ?_
        rintro ⟨j, pd, ow⟩
        rintro ⟨hj, hI⟩
        refine at_seq ?_
        by_cases q18 : ((j : Nat) : Int) < ((m : Nat) : Int)
        ·
          refine aq [(0, .yes)] [1, 3, 8, 9, 27, 28, 29] [(30, .bool true)] ([((j : Nat) : Int) < ((m : Nat) : Int)]) (fun _ => by kernel_rfl) (al1 q18) ?_
          refine done_seq ?_
          refine at_seq ?_
          refine at_true (by kernel_rfl) ?_
          refine at_skip ?_
          refine done_seq ?_
          refine at_seq ?_
          refine at_block ?_
          refine at_seq ?_
          obtain ⟨b21, o21, rfl⟩ := hns.pos (i := j) (by omega)
          obtain ⟨x23, hx23⟩ := get_some (l := ns) (m := j) (by omega)
          refine aq [(0, .at b21 o21 j), (1, .go (outs b21 (o21 + j * 1) [.int .i64 x23]))] [1, 3, 8, 9, 27, 28, 29] [(11, .int .i64 x23)] ([(some ⟨b21, o21, none⟩ : Option Addr) = some ⟨b21, o21, none⟩, ((j : Nat)) = ((j : Nat) : Int), j < m] ++ (cellsP w b21 (o21 + j * 1) [.int .i64 x23])) (fun _ => by kernel_rfl) (alA (al2 rfl (al2 rfl (al1 (by omega)))) (rd_pre (hns.get hx23) _ rfl)) ?_
          refine done_seq ?_
          refine at_seq ?_
          refine at_ops ?_
          refine oq 2 [(0, .go (owns 0 0 1))] [1, 3, 8, 9, 27, 28, 29] [(34, .agg #[.slice p n cap]), (35, .int .i64 x23)] ([]) (fun _ => by kernel_rfl) al0 ?_
          rcases hg : getB l x23 with _ | y
          ·
            refine ops_callD (.tuple #[.agg #[.int .i64 0, .int .i64 0, .int .i64 0, .bool false, .bool false], .bool false]) (by kernel_rfl) (by kernel_rfl) (by kernel_rfl) (fun args w => Try.call19 args w) (fun w hw => by have := rget_d p n cap l x23 w (hsl.kept hw.below) hn hb; rw [hg] at this; exact this) ?_
            refine om 6 [(7, .go (owns 0 0 5))] [1, 3, 8, 9, 27, 28, 29] (fun γ26 => [(12, .pointer (some ⟨γ26 0, 0, none⟩)), (13, .bool false)]) (fun γ26 L => bx (γ26 0) (#[.int .i64 0, .int .i64 0, .int .i64 0, .bool false, .bool false]) 40 :: L) (fun γ26 => []) (fun _ => by kernel_rfl) (fun γ26 => al0) (fun γ26 => ?_)
            refine ops_nil ?_
            refine done_seq ?_
            refine at_seq ?_
            refine at_seq ?_
            refine aq [] [1, 3, 8, 9, 12, 27, 28, 29] [(40, .bool true)] ([]) (fun _ => by kernel_rfl) al0 ?_
            refine done_seq ?_
            refine at_true (by kernel_rfl) ?_
            refine at_seq ?_
            refine aq [] [] [(6, .bool false), (7, .int .i64 4)] ([]) (fun _ => by kernel_rfl) al0 ?_
            refine done_seq ?_
            refine at_return ([]) (.tuple #[.bool false, .int .i64 4]) [] (by kernel_rfl) (by kernel_rfl) al0 ?_
            exact fun w' hw => ⟨by rw [rpollV_of (by assumption) (by omega) (by omega), ← hI, drop_cons hx23]; simp [rpollGo, hg], hw.below⟩
          ·
            refine ops_callD (.tuple #[.agg #[.int .i64 y.num, .int .i64 y.vcpu, .int .i64 y.peer, .bool y.pending, .bool y.masked], .bool true]) (by kernel_rfl) (by kernel_rfl) (by kernel_rfl) (fun args w => Try.call19 args w) (fun w hw => by have := rget_d p n cap l x23 w (hsl.kept hw.below) hn hb; rw [hg] at this; exact this) ?_
            refine om 6 [(7, .go (owns 0 0 5))] [1, 3, 8, 9, 27, 28, 29] (fun γ29 => [(12, .pointer (some ⟨γ29 0, 0, none⟩)), (13, .bool true)]) (fun γ29 L => bx (γ29 0) (#[.int .i64 y.num, .int .i64 y.vcpu, .int .i64 y.peer, .bool y.pending, .bool y.masked]) 40 :: L) (fun γ29 => []) (fun _ => by kernel_rfl) (fun γ29 => al0) (fun γ29 => ?_)
            refine ops_nil ?_
            refine done_seq ?_
            refine at_seq ?_
            refine at_seq ?_
            refine aq [] [1, 3, 8, 9, 12, 27, 28, 29] [(40, .bool false)] ([]) (fun _ => by kernel_rfl) al0 ?_
            refine done_seq ?_
            refine at_false (by kernel_rfl) ?_
            refine at_skip ?_
            refine done_seq ?_
            rcases q32 : pd with _ | _
            ·
              rcases q34 : ow with _ | _
              ·
                refine cq [(3, .go (owns 0 3 1))] [1, 3, 27, 28, 29] [(8, .bool y.pending), (9, .bool false)] ([]) rfl (by kernel_rfl) (by kernel_rfl) (by kernel_rfl) al0 ?_
                refine done_block ?_
                refine done_seq ?_
                refine aq [(0, .fit)] [1, 3, 8, 9, 27, 28] [(29, .int .i64 ((j + 1 : Nat)))] ([Fit .i64 ((j + 1 : Nat))]) (fun _ => by kernel_rfl) (al1 (fit64 (by omega) (by omega))) ?_
                refine Done.drop (L' := [bx (γ1 0) (#[.slice p n cap]) 24]) ?_ (List.Sublist.cons _ (List.Sublist.cons_cons _ (List.Sublist.refl _)))
                exact done_round [1, 3, 8, 9, 27, 28, 29] (j + 1, y.pending, false) (by kernel_rfl) rfl ⟨by omega, by rw [← hI, drop_cons hx23]; simp only [rpollGo, hg]; simp [*]⟩ (by first | omega | (simp only; omega))
              ·
                by_cases q38 : (y.vcpu : Int) = (own : Int)
                ·
                  refine cq [(3, .go (owns 0 3 1)), (8, .go (owns 0 1 1)), (10, .yes)] [1, 3, 27, 28, 29] [(8, .bool y.pending), (9, .bool true)] ([(y.vcpu : Int) = (own : Int)]) rfl (by kernel_rfl) (by kernel_rfl) (by kernel_rfl) (al1 q38) ?_
                  refine done_block ?_
                  refine done_seq ?_
                  refine aq [(0, .fit)] [1, 3, 8, 9, 27, 28] [(29, .int .i64 ((j + 1 : Nat)))] ([Fit .i64 ((j + 1 : Nat))]) (fun _ => by kernel_rfl) (al1 (fit64 (by omega) (by omega))) ?_
                  refine Done.drop (L' := [bx (γ1 0) (#[.slice p n cap]) 24]) ?_ (List.Sublist.cons _ (List.Sublist.cons_cons _ (List.Sublist.refl _)))
                  exact done_round [1, 3, 8, 9, 27, 28, 29] (j + 1, y.pending, true) (by kernel_rfl) rfl ⟨by omega, by rw [← hI, drop_cons hx23]; simp only [rpollGo, hg]; simp [*]⟩ (by first | omega | (simp only; omega))
                ·
                  refine cq [(3, .go (owns 0 3 1)), (8, .go (owns 0 1 1)), (10, .no)] [1, 3, 27, 28, 29] [(8, .bool y.pending), (9, .bool false)] ([¬ ((y.vcpu : Int) = (own : Int))]) rfl (by kernel_rfl) (by kernel_rfl) (by kernel_rfl) (al1 q38) ?_
                  refine done_block ?_
                  refine done_seq ?_
                  refine aq [(0, .fit)] [1, 3, 8, 9, 27, 28] [(29, .int .i64 ((j + 1 : Nat)))] ([Fit .i64 ((j + 1 : Nat))]) (fun _ => by kernel_rfl) (al1 (fit64 (by omega) (by omega))) ?_
                  refine Done.drop (L' := [bx (γ1 0) (#[.slice p n cap]) 24]) ?_ (List.Sublist.cons _ (List.Sublist.cons_cons _ (List.Sublist.refl _)))
                  exact done_round [1, 3, 8, 9, 27, 28, 29] (j + 1, y.pending, false) (by kernel_rfl) rfl ⟨by omega, by rw [← hI, drop_cons hx23]; simp only [rpollGo, hg]; simp [*]⟩ (by first | omega | (simp only; omega))
            ·
              rcases q44 : ow with _ | _
              ·
                refine cq [] [1, 3, 27, 28, 29] [(8, .bool true), (9, .bool false)] ([]) rfl (by kernel_rfl) (by kernel_rfl) (by kernel_rfl) al0 ?_
                refine done_block ?_
                refine done_seq ?_
                refine aq [(0, .fit)] [1, 3, 8, 9, 27, 28] [(29, .int .i64 ((j + 1 : Nat)))] ([Fit .i64 ((j + 1 : Nat))]) (fun _ => by kernel_rfl) (al1 (fit64 (by omega) (by omega))) ?_
                refine Done.drop (L' := [bx (γ1 0) (#[.slice p n cap]) 24]) ?_ (List.Sublist.cons _ (List.Sublist.cons_cons _ (List.Sublist.refl _)))
                exact done_round [1, 3, 8, 9, 27, 28, 29] (j + 1, true, false) (by kernel_rfl) rfl ⟨by omega, by rw [← hI, drop_cons hx23]; simp only [rpollGo, hg]; simp [*]⟩ (by first | omega | (simp only; omega))
              ·
                by_cases q48 : (y.vcpu : Int) = (own : Int)
                ·
                  refine cq [(8, .go (owns 0 1 1)), (10, .yes)] [1, 3, 27, 28, 29] [(8, .bool true), (9, .bool true)] ([(y.vcpu : Int) = (own : Int)]) rfl (by kernel_rfl) (by kernel_rfl) (by kernel_rfl) (al1 q48) ?_
                  refine done_block ?_
                  refine done_seq ?_
                  refine aq [(0, .fit)] [1, 3, 8, 9, 27, 28] [(29, .int .i64 ((j + 1 : Nat)))] ([Fit .i64 ((j + 1 : Nat))]) (fun _ => by kernel_rfl) (al1 (fit64 (by omega) (by omega))) ?_
                  refine Done.drop (L' := [bx (γ1 0) (#[.slice p n cap]) 24]) ?_ (List.Sublist.cons _ (List.Sublist.cons_cons _ (List.Sublist.refl _)))
                  exact done_round [1, 3, 8, 9, 27, 28, 29] (j + 1, true, true) (by kernel_rfl) rfl ⟨by omega, by rw [← hI, drop_cons hx23]; simp only [rpollGo, hg]; simp [*]⟩ (by first | omega | (simp only; omega))
                ·
                  refine cq [(8, .go (owns 0 1 1)), (10, .no)] [1, 3, 27, 28, 29] [(8, .bool true), (9, .bool false)] ([¬ ((y.vcpu : Int) = (own : Int))]) rfl (by kernel_rfl) (by kernel_rfl) (by kernel_rfl) (al1 q48) ?_
                  refine done_block ?_
                  refine done_seq ?_
                  refine aq [(0, .fit)] [1, 3, 8, 9, 27, 28] [(29, .int .i64 ((j + 1 : Nat)))] ([Fit .i64 ((j + 1 : Nat))]) (fun _ => by kernel_rfl) (al1 (fit64 (by omega) (by omega))) ?_
                  refine Done.drop (L' := [bx (γ1 0) (#[.slice p n cap]) 24]) ?_ (List.Sublist.cons _ (List.Sublist.cons_cons _ (List.Sublist.refl _)))
                  exact done_round [1, 3, 8, 9, 27, 28, 29] (j + 1, true, false) (by kernel_rfl) rfl ⟨by omega, by rw [← hI, drop_cons hx23]; simp only [rpollGo, hg]; simp [*]⟩ (by first | omega | (simp only; omega))
        ·
          refine aq [(0, .no)] [1, 3, 8, 9, 27, 28, 29] [(30, .bool false)] ([¬ (((j : Nat) : Int) < ((m : Nat) : Int))]) (fun _ => by kernel_rfl) (al1 q18) ?_
          refine done_seq ?_
          refine at_seq ?_
          refine at_false (by kernel_rfl) ?_
          refine at_leave _ (by rfl) ?_
          refine done_seq ?_
          refine at_seq ?_
          refine at_seq ?_
          rcases q55 : ow with _ | _
          ·
            refine aq [] [8] [(55, .bool true)] ([]) (fun _ => by kernel_rfl) al0 ?_
            refine done_seq ?_
            refine at_true (by kernel_rfl) ?_
            refine at_seq ?_
            refine aq [] [] [(6, .bool false), (7, .int .i64 2)] ([]) (fun _ => by kernel_rfl) al0 ?_
            refine done_seq ?_
            refine at_return ([]) (.tuple #[.bool false, .int .i64 2]) [] (by kernel_rfl) (by kernel_rfl) al0 ?_
            exact fun w' hw => ⟨by rw [rpollV_of (by assumption) (by omega) (by omega), ← hI, List.drop_of_length_le (by omega)]; simp [rpollGo, *], hw.below⟩
          ·
            refine aq [] [8] [(55, .bool false)] ([]) (fun _ => by kernel_rfl) al0 ?_
            refine done_seq ?_
            refine at_false (by kernel_rfl) ?_
            refine at_skip ?_
            refine done_seq ?_
            refine at_seq ?_
            refine aq [] [] [(6, .bool pd), (7, .int .i64 0)] ([]) (fun _ => by kernel_rfl) al0 ?_
            refine done_seq ?_
            refine at_return ([]) (.tuple #[.bool pd, .int .i64 0]) [] (by kernel_rfl) (by kernel_rfl) al0 ?_
            exact fun w' hw => ⟨by rw [rpollV_of (by assumption) (by omega) (by omega), ← hI, List.drop_of_length_le (by omega)]; simp [rpollGo, *], hw.below⟩

set_option maxRecDepth 100000 in
theorem equal_d (p : Option Addr) (n cap : Nat) (l : List Port) (q : Option Addr) (m cap2 : Nat) (l2 : List Port) (w : World)
    (hsl : Sv w p l) (hn : n = l.length) (hb : n ≤ 1000)
    (hsl2 : Sv w q l2) (hm : m = l2.length) (hmb : m ≤ 1000)
    : Calls Try.prog 35 #[.slice p n cap, .slice q m cap2] w fun e w' => e = .returned (.bool (decide (l = l2))) ∧ Below w.heap.size w w' := by
  refine enter (Hs.start w) Try.func35 rfl Try.ntmps35 rfl ?_
  refine at_seq ?_
  refine aq [] [0, 1] [] ([]) (fun _ => by kernel_rfl) al0 ?_
  refine done_seq ?_
  refine at_seq ?_
  refine at_seq ?_
  by_cases q3 : ((n : Nat) : Int) ≠ ((m : Nat) : Int)
  ·
    refine aq [(4, .yes)] [0, 1] [(10, .bool true)] ([((n : Nat) : Int) ≠ ((m : Nat) : Int)]) (fun _ => by kernel_rfl) (al1 q3) ?_
    refine done_seq ?_
    refine at_true (by kernel_rfl) ?_
    refine at_seq ?_
    refine aq [] [] [(4, .bool false)] ([]) (fun _ => by kernel_rfl) al0 ?_
    refine done_seq ?_
    refine at_return ([]) (.bool false) [] (by kernel_rfl) (by kernel_rfl) al0 ?_
    exact fun w' hw => ⟨by rw [same_len (l := l) (l2 := l2) (by omega)], hw.below⟩
  ·
    refine aq [(4, .no)] [0, 1] [(10, .bool false)] ([¬ (((n : Nat) : Int) ≠ ((m : Nat) : Int))]) (fun _ => by kernel_rfl) (al1 q3) ?_
    refine done_seq ?_
    refine at_false (by kernel_rfl) ?_
    refine at_skip ?_
    refine done_seq ?_
    refine at_seq ?_
    refine at_seq ?_
    refine aq [] [0, 1] [(12, .int .i64 ((n : Nat))), (13, .int .i64 0)] ([]) (fun _ => by kernel_rfl) al0 ?_
    refine done_seq ?_
    refine at_block ?_
    refine at_loop (α := Nat) [0, 1, 12, 13] (fun j => [(0, .slice p n cap), (1, .slice q m cap2), (12, .int .i64 ((n : Nat))), (13, .int .i64 ((j : Nat)))]) (fun j => []) (fun j => j ≤ n ∧ l.take j = l2.take j) (fun j => n - j) 0 (by kernel_rfl) rfl ⟨Nat.zero_le _, rfl⟩ ?_
    rintro j
    rintro ⟨hj, hI⟩
    refine at_seq ?_
    by_cases q9 : ((j : Nat) : Int) < ((n : Nat) : Int)
    ·
      refine aq [(0, .yes)] [0, 1, 12, 13] [(14, .bool true)] ([((j : Nat) : Int) < ((n : Nat) : Int)]) (fun _ => by kernel_rfl) (al1 q9) ?_
      refine done_seq ?_
      refine at_seq ?_
      refine at_true (by kernel_rfl) ?_
      refine at_skip ?_
      refine done_seq ?_
      refine at_seq ?_
      refine at_block ?_
      refine at_seq ?_
      refine aq [] [0, 1, 12, 13] [(5, .int .i64 ((j : Nat)))] ([]) (fun _ => by kernel_rfl) al0 ?_
      refine done_seq ?_
      refine at_seq ?_
      obtain ⟨b13, o13, rfl⟩ := hsl.pos (i := j) (by omega)
      obtain ⟨x15, hx15⟩ := get_some (l := l) (m := j) (by omega)
      obtain ⟨b17, o17, rfl⟩ := hsl2.pos (i := j) (by omega)
      obtain ⟨x19, hx19⟩ := get_some (l := l2) (m := j) (by omega)
      by_cases q21 : x15 = x19
      ·
        refine cq [(2, .at b13 o13 j), (3, .go (outs b13 (o13 + j * 5) [.int .i64 x15.num, .int .i64 x15.vcpu, .int .i64 x15.peer, .bool x15.pending, .bool x15.masked])), (6, .at b17 o17 j), (7, .go (outs b17 (o17 + j * 5) [.int .i64 x19.num, .int .i64 x19.vcpu, .int .i64 x19.peer, .bool x19.pending, .bool x19.masked])), (8, .eqs false)] [0, 1, 12, 13] [(24, .bool false)] ([(some ⟨b13, o13, none⟩ : Option Addr) = some ⟨b13, o13, none⟩, ((j : Nat)) = ((j : Nat) : Int), j < n] ++ (cellsP w b13 (o13 + j * 5) [.int .i64 x15.num, .int .i64 x15.vcpu, .int .i64 x15.peer, .bool x15.pending, .bool x15.masked] ++ ([(some ⟨b17, o17, none⟩ : Option Addr) = some ⟨b17, o17, none⟩, ((j : Nat)) = ((j : Nat) : Int), j < m] ++ (cellsP w b17 (o17 + j * 5) [.int .i64 x19.num, .int .i64 x19.vcpu, .int .i64 x19.peer, .bool x19.pending, .bool x19.masked] ++ ([EqRun Try.prog .neq 40 (.tmp 19) (.tmp 23) (.agg #[.int .i64 x15.num, .int .i64 x15.vcpu, .int .i64 x15.peer, .bool x15.pending, .bool x15.masked]) (.agg #[.int .i64 x19.num, .int .i64 x19.vcpu, .int .i64 x19.peer, .bool x19.pending, .bool x19.masked]) false]))))) rfl (by kernel_rfl) (by kernel_rfl) (by kernel_rfl) (alA (al2 rfl (al2 rfl (al1 (by omega)))) (alA (rd_pre (hsl.get hx15) _ rfl) (alA (al2 rfl (al2 rfl (al1 (by omega)))) (alA (rd_pre (hsl2.get hx19) _ rfl) (al1 (port_ne_t (a := x15) (b := x19) q21)))))) ?_
        refine done_seq ?_
        refine at_false (by kernel_rfl) ?_
        refine at_skip ?_
        refine done_block ?_
        refine done_seq ?_
        refine aq [(0, .fit)] [0, 1, 12] [(13, .int .i64 ((j + 1 : Nat)))] ([Fit .i64 ((j + 1 : Nat))]) (fun _ => by kernel_rfl) (al1 (fit64 (by omega) (by omega))) ?_
        exact done_round [0, 1, 12, 13] (j + 1) (by kernel_rfl) rfl ⟨by omega, same_on hI hx15 hx19 (by assumption)⟩ (by first | omega | (simp only; omega))
      ·
        refine cq [(2, .at b13 o13 j), (3, .go (outs b13 (o13 + j * 5) [.int .i64 x15.num, .int .i64 x15.vcpu, .int .i64 x15.peer, .bool x15.pending, .bool x15.masked])), (6, .at b17 o17 j), (7, .go (outs b17 (o17 + j * 5) [.int .i64 x19.num, .int .i64 x19.vcpu, .int .i64 x19.peer, .bool x19.pending, .bool x19.masked])), (8, .eqs true)] [0, 1, 12, 13] [(24, .bool true)] ([(some ⟨b13, o13, none⟩ : Option Addr) = some ⟨b13, o13, none⟩, ((j : Nat)) = ((j : Nat) : Int), j < n] ++ (cellsP w b13 (o13 + j * 5) [.int .i64 x15.num, .int .i64 x15.vcpu, .int .i64 x15.peer, .bool x15.pending, .bool x15.masked] ++ ([(some ⟨b17, o17, none⟩ : Option Addr) = some ⟨b17, o17, none⟩, ((j : Nat)) = ((j : Nat) : Int), j < m] ++ (cellsP w b17 (o17 + j * 5) [.int .i64 x19.num, .int .i64 x19.vcpu, .int .i64 x19.peer, .bool x19.pending, .bool x19.masked] ++ ([EqRun Try.prog .neq 40 (.tmp 19) (.tmp 23) (.agg #[.int .i64 x15.num, .int .i64 x15.vcpu, .int .i64 x15.peer, .bool x15.pending, .bool x15.masked]) (.agg #[.int .i64 x19.num, .int .i64 x19.vcpu, .int .i64 x19.peer, .bool x19.pending, .bool x19.masked]) true]))))) rfl (by kernel_rfl) (by kernel_rfl) (by kernel_rfl) (alA (al2 rfl (al2 rfl (al1 (by omega)))) (alA (rd_pre (hsl.get hx15) _ rfl) (alA (al2 rfl (al2 rfl (al1 (by omega)))) (alA (rd_pre (hsl2.get hx19) _ rfl) (al1 (port_ne_f (a := x15) (b := x19) q21)))))) ?_
        refine done_seq ?_
        refine at_true (by kernel_rfl) ?_
        refine at_seq ?_
        refine aq [] [] [(4, .bool false)] ([]) (fun _ => by kernel_rfl) al0 ?_
        refine done_seq ?_
        refine at_return ([]) (.bool false) [] (by kernel_rfl) (by kernel_rfl) al0 ?_
        exact fun w' hw => ⟨by rw [same_no hx15 hx19 (by assumption)], hw.below⟩
    ·
      refine aq [(0, .no)] [0, 1, 12, 13] [(14, .bool false)] ([¬ (((j : Nat) : Int) < ((n : Nat) : Int))]) (fun _ => by kernel_rfl) (al1 q9) ?_
      refine done_seq ?_
      refine at_seq ?_
      refine at_false (by kernel_rfl) ?_
      refine at_leave _ (by rfl) ?_
      refine done_seq ?_
      refine at_seq ?_
      refine aq [] [] [(4, .bool true)] ([]) (fun _ => by kernel_rfl) al0 ?_
      refine done_seq ?_
      refine at_return ([]) (.bool true) [] (by kernel_rfl) (by kernel_rfl) al0 ?_
      exact fun w' hw => ⟨by rw [same_yes hI (by omega) (by omega)], hw.below⟩

set_option maxRecDepth 100000 in
theorem rsame_d (p : Option Addr) (n cap : Nat) (l : List Port) (q : Option Addr) (m cap2 : Nat) (l2 : List Port) (w : World)
    (hsl : Sv w p l) (hn : n = l.length) (hb : n ≤ 1000)
    (hsl2 : Sv w q l2) (hm : m = l2.length) (hmb : m ≤ 1000)
    : Calls Try.prog 15 #[.agg #[.slice p n cap], .agg #[.slice q m cap2]] w fun e w' => e = .returned (.bool (decide (l = l2))) ∧ Below w.heap.size w w' := by
  refine enter (Hs.start w) Try.func15 rfl Try.ntmps15 rfl ?_
  refine at_seq ?_
  refine am [] [] (fun γ1 => [(2, .pointer (some ⟨γ1 0, 0, none⟩)), (3, .pointer (some ⟨γ1 1, 0, none⟩))]) (fun γ1 L => bx (γ1 1) (#[.slice q m cap2]) 24 :: bx (γ1 0) (#[.slice p n cap]) 24 :: L) (fun γ1 => []) (fun _ => by kernel_rfl) (fun γ1 => al0) (fun γ1 => ?_)
  refine done_seq ?_
  refine at_seq ?_
  refine at_seq ?_
  by_cases q3 : ((n : Nat) : Int) ≠ ((m : Nat) : Int)
  ·
    refine aq [(1, .go (owns 1 0 1)), (4, .go (owns 0 0 1)), (6, .yes)] [2, 3] [(12, .bool true)] ([((n : Nat) : Int) ≠ ((m : Nat) : Int)]) (fun _ => by kernel_rfl) (al1 q3) ?_
    refine done_seq ?_
    refine at_true (by kernel_rfl) ?_
    refine at_seq ?_
    refine aq [] [] [(4, .bool false)] ([]) (fun _ => by kernel_rfl) al0 ?_
    refine done_seq ?_
    refine at_return ([]) (.bool false) [] (by kernel_rfl) (by kernel_rfl) al0 ?_
    exact fun w' hw => ⟨by rw [same_len (l := l) (l2 := l2) (by omega)], hw.below⟩
  ·
    refine aq [(1, .go (owns 1 0 1)), (4, .go (owns 0 0 1)), (6, .no)] [2, 3] [(12, .bool false)] ([¬ (((n : Nat) : Int) ≠ ((m : Nat) : Int))]) (fun _ => by kernel_rfl) (al1 q3) ?_
    refine done_seq ?_
    refine at_false (by kernel_rfl) ?_
    refine at_skip ?_
    refine done_seq ?_
    refine at_seq ?_
    refine at_seq ?_
    refine aq [(1, .go (owns 1 0 1))] [2, 3] [(15, .int .i64 ((n : Nat))), (16, .int .i64 0)] ([]) (fun _ => by kernel_rfl) al0 ?_
    refine done_seq ?_
    refine at_block ?_
    refine at_loop (α := Nat) [2, 3, 15, 16] (fun j => [(2, .pointer (some ⟨γ1 0, 0, none⟩)), (3, .pointer (some ⟨γ1 1, 0, none⟩)), (15, .int .i64 ((n : Nat))), (16, .int .i64 ((j : Nat)))]) (fun j => [bx (γ1 1) (#[.slice q m cap2]) 24, bx (γ1 0) (#[.slice p n cap]) 24]) (fun j => j ≤ n ∧ l.take j = l2.take j) (fun j => n - j) 0 (by kernel_rfl) rfl ⟨Nat.zero_le _, rfl⟩ ?_
    rintro j
    rintro ⟨hj, hI⟩
    refine at_seq ?_
    by_cases q9 : ((j : Nat) : Int) < ((n : Nat) : Int)
    ·
      refine aq [(0, .yes)] [2, 3, 15, 16] [(17, .bool true)] ([((j : Nat) : Int) < ((n : Nat) : Int)]) (fun _ => by kernel_rfl) (al1 q9) ?_
      refine done_seq ?_
      refine at_seq ?_
      refine at_true (by kernel_rfl) ?_
      refine at_skip ?_
      refine done_seq ?_
      refine at_seq ?_
      refine at_block ?_
      refine at_seq ?_
      refine aq [] [2, 3, 15, 16] [(5, .int .i64 ((j : Nat)))] ([]) (fun _ => by kernel_rfl) al0 ?_
      refine done_seq ?_
      refine at_seq ?_
      obtain ⟨b13, o13, rfl⟩ := hsl.pos (i := j) (by omega)
      obtain ⟨x15, hx15⟩ := get_some (l := l) (m := j) (by omega)
      obtain ⟨b17, o17, rfl⟩ := hsl2.pos (i := j) (by omega)
      obtain ⟨x19, hx19⟩ := get_some (l := l2) (m := j) (by omega)
      by_cases q21 : x15 = x19
      ·
        refine cq [(1, .go (owns 1 0 1)), (3, .at b13 o13 j), (4, .go (outs b13 (o13 + j * 5) [.int .i64 x15.num, .int .i64 x15.vcpu, .int .i64 x15.peer, .bool x15.pending, .bool x15.masked])), (6, .go (owns 0 0 1)), (8, .at b17 o17 j), (9, .go (outs b17 (o17 + j * 5) [.int .i64 x19.num, .int .i64 x19.vcpu, .int .i64 x19.peer, .bool x19.pending, .bool x19.masked])), (10, .eqs false)] [2, 3, 15, 16] [(29, .bool false)] ([(some ⟨b13, o13, none⟩ : Option Addr) = some ⟨b13, o13, none⟩, ((j : Nat)) = ((j : Nat) : Int), j < n] ++ (cellsP w b13 (o13 + j * 5) [.int .i64 x15.num, .int .i64 x15.vcpu, .int .i64 x15.peer, .bool x15.pending, .bool x15.masked] ++ ([(some ⟨b17, o17, none⟩ : Option Addr) = some ⟨b17, o17, none⟩, ((j : Nat)) = ((j : Nat) : Int), j < m] ++ (cellsP w b17 (o17 + j * 5) [.int .i64 x19.num, .int .i64 x19.vcpu, .int .i64 x19.peer, .bool x19.pending, .bool x19.masked] ++ ([EqRun Try.prog .neq 40 (.tmp 23) (.tmp 28) (.agg #[.int .i64 x15.num, .int .i64 x15.vcpu, .int .i64 x15.peer, .bool x15.pending, .bool x15.masked]) (.agg #[.int .i64 x19.num, .int .i64 x19.vcpu, .int .i64 x19.peer, .bool x19.pending, .bool x19.masked]) false]))))) rfl (by kernel_rfl) (by kernel_rfl) (by kernel_rfl) (alA (al2 rfl (al2 rfl (al1 (by omega)))) (alA (rd_pre (hsl.get hx15) _ rfl) (alA (al2 rfl (al2 rfl (al1 (by omega)))) (alA (rd_pre (hsl2.get hx19) _ rfl) (al1 (port_ne_t (a := x15) (b := x19) q21)))))) ?_
        refine done_seq ?_
        refine at_false (by kernel_rfl) ?_
        refine at_skip ?_
        refine done_block ?_
        refine done_seq ?_
        refine aq [(0, .fit)] [2, 3, 15] [(16, .int .i64 ((j + 1 : Nat)))] ([Fit .i64 ((j + 1 : Nat))]) (fun _ => by kernel_rfl) (al1 (fit64 (by omega) (by omega))) ?_
        exact done_round [2, 3, 15, 16] (j + 1) (by kernel_rfl) rfl ⟨by omega, same_on hI hx15 hx19 (by assumption)⟩ (by first | omega | (simp only; omega))
      ·
        refine cq [(1, .go (owns 1 0 1)), (3, .at b13 o13 j), (4, .go (outs b13 (o13 + j * 5) [.int .i64 x15.num, .int .i64 x15.vcpu, .int .i64 x15.peer, .bool x15.pending, .bool x15.masked])), (6, .go (owns 0 0 1)), (8, .at b17 o17 j), (9, .go (outs b17 (o17 + j * 5) [.int .i64 x19.num, .int .i64 x19.vcpu, .int .i64 x19.peer, .bool x19.pending, .bool x19.masked])), (10, .eqs true)] [2, 3, 15, 16] [(29, .bool true)] ([(some ⟨b13, o13, none⟩ : Option Addr) = some ⟨b13, o13, none⟩, ((j : Nat)) = ((j : Nat) : Int), j < n] ++ (cellsP w b13 (o13 + j * 5) [.int .i64 x15.num, .int .i64 x15.vcpu, .int .i64 x15.peer, .bool x15.pending, .bool x15.masked] ++ ([(some ⟨b17, o17, none⟩ : Option Addr) = some ⟨b17, o17, none⟩, ((j : Nat)) = ((j : Nat) : Int), j < m] ++ (cellsP w b17 (o17 + j * 5) [.int .i64 x19.num, .int .i64 x19.vcpu, .int .i64 x19.peer, .bool x19.pending, .bool x19.masked] ++ ([EqRun Try.prog .neq 40 (.tmp 23) (.tmp 28) (.agg #[.int .i64 x15.num, .int .i64 x15.vcpu, .int .i64 x15.peer, .bool x15.pending, .bool x15.masked]) (.agg #[.int .i64 x19.num, .int .i64 x19.vcpu, .int .i64 x19.peer, .bool x19.pending, .bool x19.masked]) true]))))) rfl (by kernel_rfl) (by kernel_rfl) (by kernel_rfl) (alA (al2 rfl (al2 rfl (al1 (by omega)))) (alA (rd_pre (hsl.get hx15) _ rfl) (alA (al2 rfl (al2 rfl (al1 (by omega)))) (alA (rd_pre (hsl2.get hx19) _ rfl) (al1 (port_ne_f (a := x15) (b := x19) q21)))))) ?_
        refine done_seq ?_
        refine at_true (by kernel_rfl) ?_
        refine at_seq ?_
        refine aq [] [] [(4, .bool false)] ([]) (fun _ => by kernel_rfl) al0 ?_
        refine done_seq ?_
        refine at_return ([]) (.bool false) [] (by kernel_rfl) (by kernel_rfl) al0 ?_
        exact fun w' hw => ⟨by rw [same_no hx15 hx19 (by assumption)], hw.below⟩
    ·
      refine aq [(0, .no)] [2, 3, 15, 16] [(17, .bool false)] ([¬ (((j : Nat) : Int) < ((n : Nat) : Int))]) (fun _ => by kernel_rfl) (al1 q9) ?_
      refine done_seq ?_
      refine at_seq ?_
      refine at_false (by kernel_rfl) ?_
      refine at_leave _ (by rfl) ?_
      refine done_seq ?_
      refine at_seq ?_
      refine aq [] [] [(4, .bool true)] ([]) (fun _ => by kernel_rfl) al0 ?_
      refine done_seq ?_
      refine at_return ([]) (.bool true) [] (by kernel_rfl) (by kernel_rfl) al0 ?_
      exact fun w' hw => ⟨by rw [same_yes hI (by omega) (by omega)], hw.below⟩

set_option maxRecDepth 100000 in
theorem same_d (p : Option Addr) (n cap : Nat) (l : List Port) (q : Option Addr) (m cap2 : Nat) (l2 : List Port) (w : World)
    (hsl : Sv w p l) (hn : n = l.length) (hb : n ≤ 1000)
    (hsl2 : Sv w q l2) (hm : m = l2.length) (hmb : m ≤ 1000)
    : Calls Try.prog 17 #[.agg #[.slice p n cap], .agg #[.slice q m cap2]] w fun e w' => e = .returned (.bool (decide (l = l2))) ∧ Below w.heap.size w w' := by
  refine enter (Hs.start w) Try.func17 rfl Try.ntmps17 rfl ?_
  refine at_seq ?_
  refine am [] [] (fun γ1 => [(2, .pointer (some ⟨γ1 0, 0, none⟩)), (3, .pointer (some ⟨γ1 1, 0, none⟩))]) (fun γ1 L => bx (γ1 1) (#[.slice q m cap2]) 24 :: bx (γ1 0) (#[.slice p n cap]) 24 :: L) (fun γ1 => []) (fun _ => by kernel_rfl) (fun γ1 => al0) (fun γ1 => ?_)
  refine done_seq ?_
  refine at_seq ?_
  refine at_ops ?_
  refine oq 4 [(1, .go (owns 1 0 1)), (3, .go (owns 0 0 1))] [] [(6, .slice p n cap), (8, .slice q m cap2)] ([]) (fun _ => by kernel_rfl) al0 ?_
  refine ops_callD (.bool (decide (l = l2))) (by kernel_rfl) (by kernel_rfl) (by kernel_rfl) (fun args w => Try.call35 args w) (fun w hw => equal_d p n cap l q m cap2 l2 w (hsl.kept hw.below) hn hb (hsl2.kept hw.below) hm hmb) ?_
  refine oq 1 [] [] [(4, .bool (decide (l = l2)))] ([]) (fun _ => by kernel_rfl) al0 ?_
  refine ops_nil ?_
  refine done_seq ?_
  refine at_return ([]) (.bool (decide (l = l2))) [] (by kernel_rfl) (by kernel_rfl) al0 ?_
  exact fun w' hw => ⟨rfl, hw.below⟩
end Go.Proofs.Ytfhlmijdokfdpaa
