/- event.Check. -/
import Derived.Test.YtfhlmijdokfdpaaPb
namespace Go.Proofs.Ytfhlmijdokfdpaa
open Go Go.RowKit

set_option maxRecDepth 100000 in
theorem check_d (p : Option Addr) (n cap : Nat) (l : List Port) (w : World)
    (hsl : Sv w p l) (hn : n = l.length) (hb : n ≤ 1000)
    : Calls Try.prog 16 #[.agg #[.slice p n cap]] w fun e w' => e = .returned (.int .i64 (if rightB l then 0 else 260)) ∧ Below w.heap.size w w' := by
  refine enter (Hs.start w) Try.func16 rfl Try.ntmps16 rfl ?_
  refine at_seq ?_
  refine am [] [] (fun γ1 => [(1, .pointer (some ⟨γ1 0, 0, none⟩))]) (fun γ1 L => bx (γ1 0) (#[.slice p n cap]) 24 :: L) (fun γ1 => []) (fun _ => by kernel_rfl) (fun γ1 => al0) (fun γ1 => ?_)
  refine done_seq ?_
  refine at_seq ?_
  refine aq [] [1] [(3, .int .i64 0)] ([]) (fun _ => by kernel_rfl) al0 ?_
  refine done_seq ?_
  refine at_seq ?_
  refine at_seq ?_
  refine aq [(1, .go (owns 0 0 1))] [1, 3] [(10, .slice p n cap), (11, .int .i64 ((n : Nat))), (12, .int .i64 0)] ([]) (fun _ => by kernel_rfl) al0 ?_
  refine done_seq ?_
  refine at_block ?_
  refine at_loop (α := Nat × Int) [1, 3, 10, 11, 12] (fun ⟨j, last⟩ => [(1, .pointer (some ⟨γ1 0, 0, none⟩)), (3, .int .i64 last), (10, .slice p n cap), (11, .int .i64 ((n : Nat))), (12, .int .i64 ((j : Nat)))]) (fun ⟨j, last⟩ => [bx (γ1 0) (#[.slice p n cap]) 24]) (fun ⟨j, last⟩ => j ≤ n ∧ risB last (l.drop j) = risB 0 l) (fun ⟨j, last⟩ => n - j) (0, 0) (by kernel_rfl) rfl ⟨Nat.zero_le _, rfl⟩ ?_
  rintro ⟨j, last⟩
  rintro ⟨hj, hI⟩
  refine at_seq ?_
  by_cases q5 : ((j : Nat) : Int) < ((n : Nat) : Int)
  ·
    refine aq [(0, .yes)] [1, 3, 10, 11, 12] [(13, .bool true)] ([((j : Nat) : Int) < ((n : Nat) : Int)]) (fun _ => by kernel_rfl) (al1 q5) ?_
    refine done_seq ?_
    refine at_seq ?_
    refine at_true (by kernel_rfl) ?_
    refine at_skip ?_
    refine done_seq ?_
    refine at_seq ?_
    refine at_block ?_
    refine at_seq ?_
    obtain ⟨b8, o8, rfl⟩ := hsl.pos (i := j) (by omega)
    obtain ⟨x10, hx10⟩ := get_some (l := l) (m := j) (by omega)
    refine am [(0, .at b8 o8 j), (1, .go (outs b8 (o8 + j * 5) [.int .i64 x10.num, .int .i64 x10.vcpu, .int .i64 x10.peer, .bool x10.pending, .bool x10.masked])), (3, .go (owns 0 0 5))] [1, 3, 10, 11, 12] (fun γ11 => [(5, .pointer (some ⟨γ11 0, 0, none⟩))]) (fun γ11 L => bx (γ11 0) (#[.int .i64 x10.num, .int .i64 x10.vcpu, .int .i64 x10.peer, .bool x10.pending, .bool x10.masked]) 40 :: L) (fun γ11 => [(some ⟨b8, o8, none⟩ : Option Addr) = some ⟨b8, o8, none⟩, ((j : Nat)) = ((j : Nat) : Int), j < n] ++ (cellsP w b8 (o8 + j * 5) [.int .i64 x10.num, .int .i64 x10.vcpu, .int .i64 x10.peer, .bool x10.pending, .bool x10.masked])) (fun _ => by kernel_rfl) (fun γ11 => (alA (al2 rfl (al2 rfl (al1 (by omega)))) (rd_pre (hsl.get hx10) _ rfl))) (fun γ11 => ?_)
    refine done_seq ?_
    refine at_seq ?_
    refine at_seq ?_
    by_cases q13 : (x10.num : Int) ≤ (last : Int)
    ·
      refine aq [(1, .go (owns 0 0 1)), (3, .yes)] [1, 5, 10, 11, 12] [(30, .bool true)] ([(x10.num : Int) ≤ (last : Int)]) (fun _ => by kernel_rfl) (al1 q13) ?_
      refine done_seq ?_
      refine at_true (by kernel_rfl) ?_
      refine at_seq ?_
      refine aq [] [] [(2, .int .i64 260)] ([]) (fun _ => by kernel_rfl) al0 ?_
      refine done_seq ?_
      refine at_return ([]) (.int .i64 260) [] (by kernel_rfl) (by kernel_rfl) al0 ?_
      exact fun w' hw => ⟨by rw [ris_bad hI hx10 (ris_f (by rintro ⟨a, b, c⟩; first | omega | simp_all))]; rfl, hw.below⟩
    ·
      by_cases q17 : (x10.num : Int) > (32 : Int)
      ·
        refine aq [(1, .go (owns 0 0 1)), (3, .no), (6, .go (owns 0 0 1)), (7, .yes)] [1, 5, 10, 11, 12] [(30, .bool true)] ([¬ ((x10.num : Int) ≤ (last : Int))] ++ ([(x10.num : Int) > (32 : Int)])) (fun _ => by kernel_rfl) (alA (al1 q13) (al1 q17)) ?_
        refine done_seq ?_
        refine at_true (by kernel_rfl) ?_
        refine at_seq ?_
        refine aq [] [] [(2, .int .i64 260)] ([]) (fun _ => by kernel_rfl) al0 ?_
        refine done_seq ?_
        refine at_return ([]) (.int .i64 260) [] (by kernel_rfl) (by kernel_rfl) al0 ?_
        exact fun w' hw => ⟨by rw [ris_bad hI hx10 (ris_f (by rintro ⟨a, b, c⟩; first | omega | simp_all))]; rfl, hw.below⟩
      ·
        refine at_ops ?_
        refine oq 12 [(1, .go (owns 0 0 1)), (3, .no), (6, .go (owns 0 0 1)), (7, .no), (11, .go (owns 0 1 1))] [1, 5, 10, 11, 12] [(25, .bool false), (27, .int .i64 x10.vcpu)] ([¬ ((x10.num : Int) ≤ (last : Int))] ++ ([¬ ((x10.num : Int) > (32 : Int))])) (fun _ => by kernel_rfl) (alA (al1 q13) (al1 q17)) ?_
        rcases q21 : vcpuB x10.vcpu with _ | _
        ·
          refine ops_callD (.bool false) (by kernel_rfl) (by kernel_rfl) (by kernel_rfl) (fun args w => Try.call31 args w) (fun w hw => by have := vcpu_d x10.vcpu w; rw [q21] at this; exact this) ?_
          refine oq 2 [] [1, 5, 10, 11, 12] [(30, .bool true)] ([]) (fun _ => by kernel_rfl) al0 ?_
          refine ops_nil ?_
          refine done_seq ?_
          refine at_true (by kernel_rfl) ?_
          refine at_seq ?_
          refine aq [] [] [(2, .int .i64 260)] ([]) (fun _ => by kernel_rfl) al0 ?_
          refine done_seq ?_
          refine at_return ([]) (.int .i64 260) [] (by kernel_rfl) (by kernel_rfl) al0 ?_
          exact fun w' hw => ⟨by rw [ris_bad hI hx10 (ris_f (by rintro ⟨a, b, c⟩; first | omega | simp_all))]; rfl, hw.below⟩
        ·
          refine ops_callD (.bool true) (by kernel_rfl) (by kernel_rfl) (by kernel_rfl) (fun args w => Try.call31 args w) (fun w hw => by have := vcpu_d x10.vcpu w; rw [q21] at this; exact this) ?_
          refine oq 2 [] [1, 5, 10, 11, 12] [(30, .bool false)] ([]) (fun _ => by kernel_rfl) al0 ?_
          refine ops_nil ?_
          refine done_seq ?_
          refine at_false (by kernel_rfl) ?_
          refine at_skip ?_
          refine done_seq ?_
          refine aq [(1, .go (owns 0 0 1))] [1, 10, 11, 12] [(3, .int .i64 x10.num)] ([]) (fun _ => by kernel_rfl) al0 ?_
          refine done_block ?_
          refine done_seq ?_
          refine aq [(0, .fit)] [1, 3, 10, 11] [(12, .int .i64 ((j + 1 : Nat)))] ([Fit .i64 ((j + 1 : Nat))]) (fun _ => by kernel_rfl) (al1 (fit64 (by omega) (by omega))) ?_
          refine Done.drop (L' := [bx (γ1 0) (#[.slice (some ⟨b8, o8, none⟩) n cap]) 24]) ?_ (List.Sublist.cons _ (List.Sublist.cons_cons _ (List.Sublist.refl _)))
          exact done_round [1, 3, 10, 11, 12] (j + 1, x10.num) (by kernel_rfl) rfl ⟨by omega, ris_on hI hx10 (ris_t (by omega) (by omega) (by simp [*]))⟩ (by first | omega | (simp only; omega))
  ·
    refine aq [(0, .no)] [1, 3, 10, 11, 12] [(13, .bool false)] ([¬ (((j : Nat) : Int) < ((n : Nat) : Int))]) (fun _ => by kernel_rfl) (al1 q5) ?_
    refine done_seq ?_
    refine at_seq ?_
    refine at_false (by kernel_rfl) ?_
    refine at_leave _ (by rfl) ?_
    refine done_seq ?_
    refine at_seq ?_
    refine at_seq ?_
    refine aq [(1, .go (owns 0 0 1))] [1] [(35, .slice p n cap), (36, .int .i64 ((n : Nat))), (37, .int .i64 0)] ([]) (fun _ => by kernel_rfl) al0 ?_
    refine done_seq ?_
    refine at_block ?_
    have hr := ris_end hI (by omega)
    refine at_loop (α := Nat) [1, 35, 36, 37] (fun j => [(1, .pointer (some ⟨γ1 0, 0, none⟩)), (35, .slice p n cap), (36, .int .i64 ((n : Nat))), (37, .int .i64 ((j : Nat)))]) (fun j => [bx (γ1 0) (#[.slice p n cap]) 24]) (fun j => j ≤ n ∧ (l.drop j).all (linkB l) = l.all (linkB l)) (fun j => n - j) 0 (by kernel_rfl) rfl ⟨Nat.zero_le _, by rw [List.drop_zero]⟩ ?_
    rintro j
    rintro ⟨hj, hI⟩
    refine at_seq ?_
    by_cases q30 : ((j : Nat) : Int) < ((n : Nat) : Int)
    ·
      refine aq [(0, .yes)] [1, 35, 36, 37] [(38, .bool true)] ([((j : Nat) : Int) < ((n : Nat) : Int)]) (fun _ => by kernel_rfl) (al1 q30) ?_
      refine done_seq ?_
      refine at_seq ?_
      refine at_true (by kernel_rfl) ?_
      refine at_skip ?_
      refine done_seq ?_
      refine at_seq ?_
      refine at_block ?_
      refine at_seq ?_
      obtain ⟨b33, o33, rfl⟩ := hsl.pos (i := j) (by omega)
      obtain ⟨x35, hx35⟩ := get_some (l := l) (m := j) (by omega)
      refine am [(0, .at b33 o33 j), (1, .go (outs b33 (o33 + j * 5) [.int .i64 x35.num, .int .i64 x35.vcpu, .int .i64 x35.peer, .bool x35.pending, .bool x35.masked])), (3, .go (owns 0 0 5))] [1, 35, 36, 37] (fun γ36 => [(7, .pointer (some ⟨γ36 0, 0, none⟩))]) (fun γ36 L => bx (γ36 0) (#[.int .i64 x35.num, .int .i64 x35.vcpu, .int .i64 x35.peer, .bool x35.pending, .bool x35.masked]) 40 :: L) (fun γ36 => [(some ⟨b33, o33, none⟩ : Option Addr) = some ⟨b33, o33, none⟩, ((j : Nat)) = ((j : Nat) : Int), j < n] ++ (cellsP w b33 (o33 + j * 5) [.int .i64 x35.num, .int .i64 x35.vcpu, .int .i64 x35.peer, .bool x35.pending, .bool x35.masked])) (fun _ => by kernel_rfl) (fun γ36 => (alA (al2 rfl (al2 rfl (al1 (by omega)))) (rd_pre (hsl.get hx35) _ rfl))) (fun γ36 => ?_)
      refine done_seq ?_
      refine at_seq ?_
      refine at_seq ?_
      by_cases q38 : (x35.peer : Int) = (0 : Int)
      ·
        refine aq [(1, .go (owns 0 2 1)), (2, .yes)] [1, 7, 35, 36, 37] [(43, .bool true)] ([(x35.peer : Int) = (0 : Int)]) (fun _ => by kernel_rfl) (al1 q38) ?_
        refine done_seq ?_
        refine at_true (by kernel_rfl) ?_
        refine at_leave _ (by rfl) ?_
        refine done_seq ?_
        refine aq [(0, .fit)] [1, 35, 36] [(37, .int .i64 ((j + 1 : Nat)))] ([Fit .i64 ((j + 1 : Nat))]) (fun _ => by kernel_rfl) (al1 (fit64 (by omega) (by omega))) ?_
        refine Done.drop (L' := [bx (γ1 0) (#[.slice (some ⟨b33, o33, none⟩) n cap]) 24]) ?_ (List.Sublist.cons _ (List.Sublist.cons_cons _ (List.Sublist.refl _)))
        exact done_round [1, 35, 36, 37] (j + 1) (by kernel_rfl) rfl ⟨by omega, link_on hI hx35 (by first | exact link_zero (by assumption) | (rw [link_some (by assumption) hg]; simp only [Bool.and_eq_true, decide_eq_true_eq, Bool.not_eq_true', decide_eq_false_iff_not]; omega))⟩ (by first | omega | (simp only; omega))
      ·
        refine aq [(1, .go (owns 0 2 1)), (2, .no)] [1, 7, 35, 36, 37] [(43, .bool false)] ([¬ ((x35.peer : Int) = (0 : Int))]) (fun _ => by kernel_rfl) (al1 q38) ?_
        refine done_seq ?_
        refine at_false (by kernel_rfl) ?_
        refine at_skip ?_
        refine done_seq ?_
        refine at_seq ?_
        refine at_ops ?_
        refine oq 4 [(1, .go (owns 1 0 1)), (3, .go (owns 0 2 1))] [1, 7, 35, 36, 37] [(45, .slice (some ⟨b33, o33, none⟩) n cap), (47, .int .i64 x35.peer)] ([]) (fun _ => by kernel_rfl) al0 ?_
        rcases hg : getB l x35.peer with _ | y
        ·
          refine ops_callD (.pointer none) (by kernel_rfl) (by kernel_rfl) (by kernel_rfl) (fun args w => Try.call32 args w) (fun w hw => by have := port_d (some ⟨b33, o33, none⟩) n cap l x35.peer w (hsl.kept hw.below) hn hb (ris_all hr) (ris_asc l 0 hr); rw [portV_none hg] at this; exact this) ?_
          refine oq 1 [] [1, 7, 35, 36, 37] [(8, .pointer none)] ([]) (fun _ => by kernel_rfl) al0 ?_
          refine ops_nil ?_
          refine done_seq ?_
          refine at_seq ?_
          refine cq [] [1, 35, 36, 37] [(68, .bool true)] ([]) rfl (by kernel_rfl) (by kernel_rfl) (by kernel_rfl) al0 ?_
          refine done_seq ?_
          refine at_true (by kernel_rfl) ?_
          refine at_seq ?_
          refine aq [] [] [(2, .int .i64 260)] ([]) (fun _ => by kernel_rfl) al0 ?_
          refine done_seq ?_
          refine at_return ([]) (.int .i64 260) [] (by kernel_rfl) (by kernel_rfl) al0 ?_
          exact fun w' hw => ⟨by rw [link_bad hI hx35 (by first | exact link_none (by assumption) hg | (rw [link_some (by assumption) hg]; simp only [Bool.and_eq_false_iff, decide_eq_false_iff_not, Bool.not_eq_false', decide_eq_true_eq]; omega))]; rfl, hw.below⟩
        ·
          obtain ⟨hy1, hy2⟩ := get_pos (ris_asc l 0 hr) hg
          refine ops_callD (.pointer (some ⟨b33, o33 + (posB l x35.peer) * 5, none⟩)) (by kernel_rfl) (by kernel_rfl) (by kernel_rfl) (fun args w => Try.call32 args w) (fun w hw => by have := port_d (some ⟨b33, o33, none⟩) n cap l x35.peer w (hsl.kept hw.below) hn hb (ris_all hr) (ris_asc l 0 hr); rw [portV_some hg] at this; exact this) ?_
          refine oq 1 [] [1, 7, 35, 36, 37] [(8, .pointer (some ⟨b33, o33 + (posB l x35.peer) * 5, none⟩))] ([]) (fun _ => by kernel_rfl) al0 ?_
          refine ops_nil ?_
          refine done_seq ?_
          refine at_seq ?_
          by_cases q49 : (y.peer : Int) ≠ (x35.num : Int)
          ·
            refine cq [(6, .go (outs b33 (o33 + (posB l x35.peer) * 5 + 2) [.int .i64 y.peer])), (8, .go (owns 0 0 1)), (9, .yes)] [1, 35, 36, 37] [(68, .bool true)] (cellsP w b33 (o33 + (posB l x35.peer) * 5 + 2) [.int .i64 y.peer] ++ ([(y.peer : Int) ≠ (x35.num : Int)])) rfl (by kernel_rfl) (by kernel_rfl) (by kernel_rfl) (alA (rd_part (hsl.get hy1) 2 _ rfl) (al1 q49)) ?_
            refine done_seq ?_
            refine at_true (by kernel_rfl) ?_
            refine at_seq ?_
            refine aq [] [] [(2, .int .i64 260)] ([]) (fun _ => by kernel_rfl) al0 ?_
            refine done_seq ?_
            refine at_return ([]) (.int .i64 260) [] (by kernel_rfl) (by kernel_rfl) al0 ?_
            exact fun w' hw => ⟨by rw [link_bad hI hx35 (by first | exact link_none (by assumption) hg | (rw [link_some (by assumption) hg]; simp only [Bool.and_eq_false_iff, decide_eq_false_iff_not, Bool.not_eq_false', decide_eq_true_eq]; omega))]; rfl, hw.below⟩
          ·
            by_cases q53 : (y.num : Int) = (x35.num : Int)
            ·
              refine cq [(6, .go (outs b33 (o33 + (posB l x35.peer) * 5 + 2) [.int .i64 y.peer])), (8, .go (owns 0 0 1)), (9, .no), (15, .go (outs b33 (o33 + (posB l x35.peer) * 5) [.int .i64 y.num])), (17, .go (owns 0 0 1)), (18, .yes)] [1, 35, 36, 37] [(68, .bool true)] (cellsP w b33 (o33 + (posB l x35.peer) * 5 + 2) [.int .i64 y.peer] ++ ([¬ ((y.peer : Int) ≠ (x35.num : Int))] ++ (cellsP w b33 (o33 + (posB l x35.peer) * 5) [.int .i64 y.num] ++ ([(y.num : Int) = (x35.num : Int)])))) rfl (by kernel_rfl) (by kernel_rfl) (by kernel_rfl) (alA (rd_part (hsl.get hy1) 2 _ rfl) (alA (al1 q49) (alA (rd_pre (hsl.get hy1) _ rfl) (al1 q53)))) ?_
              refine done_seq ?_
              refine at_true (by kernel_rfl) ?_
              refine at_seq ?_
              refine aq [] [] [(2, .int .i64 260)] ([]) (fun _ => by kernel_rfl) al0 ?_
              refine done_seq ?_
              refine at_return ([]) (.int .i64 260) [] (by kernel_rfl) (by kernel_rfl) al0 ?_
              exact fun w' hw => ⟨by rw [link_bad hI hx35 (by first | exact link_none (by assumption) hg | (rw [link_some (by assumption) hg]; simp only [Bool.and_eq_false_iff, decide_eq_false_iff_not, Bool.not_eq_false', decide_eq_true_eq]; omega))]; rfl, hw.below⟩
            ·
              refine cq [(6, .go (outs b33 (o33 + (posB l x35.peer) * 5 + 2) [.int .i64 y.peer])), (8, .go (owns 0 0 1)), (9, .no), (15, .go (outs b33 (o33 + (posB l x35.peer) * 5) [.int .i64 y.num])), (17, .go (owns 0 0 1)), (18, .no)] [1, 35, 36, 37] [(68, .bool false)] (cellsP w b33 (o33 + (posB l x35.peer) * 5 + 2) [.int .i64 y.peer] ++ ([¬ ((y.peer : Int) ≠ (x35.num : Int))] ++ (cellsP w b33 (o33 + (posB l x35.peer) * 5) [.int .i64 y.num] ++ ([¬ ((y.num : Int) = (x35.num : Int))])))) rfl (by kernel_rfl) (by kernel_rfl) (by kernel_rfl) (alA (rd_part (hsl.get hy1) 2 _ rfl) (alA (al1 q49) (alA (rd_pre (hsl.get hy1) _ rfl) (al1 q53)))) ?_
              refine done_seq ?_
              refine at_false (by kernel_rfl) ?_
              refine at_skip ?_
              refine done_block ?_
              refine done_seq ?_
              refine aq [(0, .fit)] [1, 35, 36] [(37, .int .i64 ((j + 1 : Nat)))] ([Fit .i64 ((j + 1 : Nat))]) (fun _ => by kernel_rfl) (al1 (fit64 (by omega) (by omega))) ?_
              refine Done.drop (L' := [bx (γ1 0) (#[.slice (some ⟨b33, o33, none⟩) n cap]) 24]) ?_ (List.Sublist.cons _ (List.Sublist.cons_cons _ (List.Sublist.refl _)))
              exact done_round [1, 35, 36, 37] (j + 1) (by kernel_rfl) rfl ⟨by omega, link_on hI hx35 (by first | exact link_zero (by assumption) | (rw [link_some (by assumption) hg]; simp only [Bool.and_eq_true, decide_eq_true_eq, Bool.not_eq_true', decide_eq_false_iff_not]; omega))⟩ (by first | omega | (simp only; omega))
    ·
      refine aq [(0, .no)] [1, 35, 36, 37] [(38, .bool false)] ([¬ (((j : Nat) : Int) < ((n : Nat) : Int))]) (fun _ => by kernel_rfl) (al1 q30) ?_
      refine done_seq ?_
      refine at_seq ?_
      refine at_false (by kernel_rfl) ?_
      refine at_leave _ (by rfl) ?_
      refine done_seq ?_
      refine at_seq ?_
      refine aq [] [] [(2, .int .i64 0)] ([]) (fun _ => by kernel_rfl) al0 ?_
      refine done_seq ?_
      refine at_return ([]) (.int .i64 0) [] (by kernel_rfl) (by kernel_rfl) al0 ?_
      exact fun w' hw => ⟨by rw [right_end hI (by omega) hr]; rfl, hw.below⟩
end Go.Proofs.Ytfhlmijdokfdpaa
