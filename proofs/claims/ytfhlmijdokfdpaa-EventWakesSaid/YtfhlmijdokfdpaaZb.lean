/- Texts of this proof, one behind the other. -/
import Derived.Test.YtfhlmijdokfdpaaZa
import Derived.Laws.StructEq
import Derived.OrdersIn
import Derived.LaidEqlPtr
import Derived.RangeFuncRecord
/-! event.Check. -/
namespace Go.Proofs.Ytfhlmijdokfdpaa
open Go Go.RowKit

set_option maxRecDepth 100000 in
theorem check_d (p : Option Addr) (n cap : Nat) (l : List Port) (w : World)
 (hsl : Sv w p l) (hn : n = l.length) (hb : n ≤ 1000)
 : Calls Try.prog 16 #[.agg #[.slice p n cap]] w fun e w' => e = .returned (.int .i64 (if rightB l then 0 else 260)) ∧ Below w.heap.size w w' := by
 refine enter (Hs.start w) Try.func16 rfl Try.ntmps16 rfl ?_
 refine at_seq ?_
 refine am [] [] (fun γ1 => [(1, .pointer (some ⟨γ1 0, 0, none⟩))]) (fun γ1 L => bx (γ1 0) (#[.slice p n cap]) 24 :: L) (fun γ1 => []) (fun _ => by kernel_rfl) (fun γ1 => al0) (fun γ1 => ?_)
 refine done_seq ?_
 refine at_seq ?_
 refine aq [] [1] [(3, .int .i64 0)] ([]) (fun _ => by kernel_rfl) al0 ?_
 refine done_seq ?_
 refine at_seq ?_
 refine at_seq ?_
 refine aq [(1, .go (owns 0 0 1))] [1, 3] [(10, .slice p n cap), (11, .int .i64 ((n : Nat))), (12, .int .i64 0)] ([]) (fun _ => by kernel_rfl) al0 ?_
 refine done_seq ?_
 refine at_block ?_
 refine at_loop (α := Nat × Int) [1, 3, 10, 11, 12] (fun ⟨j, last⟩ => [(1, .pointer (some ⟨γ1 0, 0, none⟩)), (3, .int .i64 last), (10, .slice p n cap), (11, .int .i64 ((n : Nat))), (12, .int .i64 ((j : Nat)))]) (fun ⟨j, last⟩ => [bx (γ1 0) (#[.slice p n cap]) 24]) (fun ⟨j, last⟩ => j ≤ n ∧ risB last (l.drop j) = risB 0 l) (fun ⟨j, last⟩ => n - j) (0, 0) (by kernel_rfl) rfl ⟨Nat.zero_le _, rfl⟩ ?_
 rintro ⟨j, last⟩
 rintro ⟨hj, hI⟩
 refine at_seq ?_
 by_cases q5 : ((j : Nat) : Int) < ((n : Nat) : Int)
 ·
  refine aq [(0, .yes)] [1, 3, 10, 11, 12] [(13, .bool true)] ([((j : Nat) : Int) < ((n : Nat) : Int)]) (fun _ => by kernel_rfl) (al1 q5) ?_
  refine done_seq ?_
  refine at_seq ?_
  refine at_true (by kernel_rfl) ?_
  refine at_skip ?_
  refine done_seq ?_
  refine at_seq ?_
  refine at_block ?_
  refine at_seq ?_
  obtain ⟨b8, o8, rfl⟩ := hsl.pos (i := j) (by omega)
  obtain ⟨x10, hx10⟩ := get_some (l := l) (m := j) (by omega)
  refine am [(0, .at b8 o8 j), (1, .go (outs b8 (o8 + j * 5) [.int .i64 x10.num, .int .i64 x10.vcpu, .int .i64 x10.peer, .bool x10.pending, .bool x10.masked])), (3, .go (owns 0 0 5))] [1, 3, 10, 11, 12] (fun γ11 => [(5, .pointer (some ⟨γ11 0, 0, none⟩))]) (fun γ11 L => bx (γ11 0) (#[.int .i64 x10.num, .int .i64 x10.vcpu, .int .i64 x10.peer, .bool x10.pending, .bool x10.masked]) 40 :: L) (fun γ11 => [(some ⟨b8, o8, none⟩ : Option Addr) = some ⟨b8, o8, none⟩, ((j : Nat)) = ((j : Nat) : Int), j < n] ++ (cellsP w b8 (o8 + j * 5) [.int .i64 x10.num, .int .i64 x10.vcpu, .int .i64 x10.peer, .bool x10.pending, .bool x10.masked])) (fun _ => by kernel_rfl) (fun γ11 => (alA (al2 rfl (al2 rfl (al1 (by omega)))) (rd_pre (hsl.get hx10) _ rfl))) (fun γ11 => ?_)
  refine done_seq ?_
  refine at_seq ?_
  refine at_seq ?_
  by_cases q13 : (x10.num : Int) ≤ (last : Int)
  ·
   refine aq [(1, .go (owns 0 0 1)), (3, .yes)] [1, 5, 10, 11, 12] [(30, .bool true)] ([(x10.num : Int) ≤ (last : Int)]) (fun _ => by kernel_rfl) (al1 q13) ?_
   refine done_seq ?_
   refine at_true (by kernel_rfl) ?_
   refine at_seq ?_
   refine aq [] [] [(2, .int .i64 260)] ([]) (fun _ => by kernel_rfl) al0 ?_
   refine done_seq ?_
   refine at_return ([]) (.int .i64 260) [] (by kernel_rfl) (by kernel_rfl) al0 ?_
   exact fun w' hw => ⟨by rw [ris_bad hI hx10 (ris_f (by rintro ⟨a, b, c⟩; first | omega | simp_all))]; rfl, hw.below⟩
  ·
   by_cases q17 : (x10.num : Int) > (32 : Int)
   ·
    refine aq [(1, .go (owns 0 0 1)), (3, .no), (6, .go (owns 0 0 1)), (7, .yes)] [1, 5, 10, 11, 12] [(30, .bool true)] ([¬ ((x10.num : Int) ≤ (last : Int))] ++ ([(x10.num : Int) > (32 : Int)])) (fun _ => by kernel_rfl) (alA (al1 q13) (al1 q17)) ?_
    refine done_seq ?_
    refine at_true (by kernel_rfl) ?_
    refine at_seq ?_
    refine aq [] [] [(2, .int .i64 260)] ([]) (fun _ => by kernel_rfl) al0 ?_
    refine done_seq ?_
    refine at_return ([]) (.int .i64 260) [] (by kernel_rfl) (by kernel_rfl) al0 ?_
    exact fun w' hw => ⟨by rw [ris_bad hI hx10 (ris_f (by rintro ⟨a, b, c⟩; first | omega | simp_all))]; rfl, hw.below⟩
   ·
    refine at_ops ?_
    refine oq 12 [(1, .go (owns 0 0 1)), (3, .no), (6, .go (owns 0 0 1)), (7, .no), (11, .go (owns 0 1 1))] [1, 5, 10, 11, 12] [(25, .bool false), (27, .int .i64 x10.vcpu)] ([¬ ((x10.num : Int) ≤ (last : Int))] ++ ([¬ ((x10.num : Int) > (32 : Int))])) (fun _ => by kernel_rfl) (alA (al1 q13) (al1 q17)) ?_
    rcases q21 : vcpuB x10.vcpu with _ | _
    ·
     refine ops_callD (.bool false) (by kernel_rfl) (by kernel_rfl) (by kernel_rfl) (fun args w => Try.call31 args w) (fun w hw => by have := vcpu_d x10.vcpu w; rw [q21] at this; exact this) ?_
     refine oq 2 [] [1, 5, 10, 11, 12] [(30, .bool true)] ([]) (fun _ => by kernel_rfl) al0 ?_
     refine ops_nil ?_
     refine done_seq ?_
     refine at_true (by kernel_rfl) ?_
     refine at_seq ?_
     refine aq [] [] [(2, .int .i64 260)] ([]) (fun _ => by kernel_rfl) al0 ?_
     refine done_seq ?_
     refine at_return ([]) (.int .i64 260) [] (by kernel_rfl) (by kernel_rfl) al0 ?_
     exact fun w' hw => ⟨by rw [ris_bad hI hx10 (ris_f (by rintro ⟨a, b, c⟩; first | omega | simp_all))]; rfl, hw.below⟩
    ·
     refine ops_callD (.bool true) (by kernel_rfl) (by kernel_rfl) (by kernel_rfl) (fun args w => Try.call31 args w) (fun w hw => by have := vcpu_d x10.vcpu w; rw [q21] at this; exact this) ?_
     refine oq 2 [] [1, 5, 10, 11, 12] [(30, .bool false)] ([]) (fun _ => by kernel_rfl) al0 ?_
     refine ops_nil ?_
     refine done_seq ?_
     refine at_false (by kernel_rfl) ?_
     refine at_skip ?_
     refine done_seq ?_
     refine aq [(1, .go (owns 0 0 1))] [1, 10, 11, 12] [(3, .int .i64 x10.num)] ([]) (fun _ => by kernel_rfl) al0 ?_
     refine done_block ?_
     refine done_seq ?_
     refine aq [(0, .fit)] [1, 3, 10, 11] [(12, .int .i64 ((j + 1 : Nat)))] ([Fit .i64 ((j + 1 : Nat))]) (fun _ => by kernel_rfl) (al1 (fit64 (by omega) (by omega))) ?_
     refine Done.drop (L' := [bx (γ1 0) (#[.slice (some ⟨b8, o8, none⟩) n cap]) 24]) ?_ (List.Sublist.cons _ (List.Sublist.cons_cons _ (List.Sublist.refl _)))
     exact done_round [1, 3, 10, 11, 12] (j + 1, x10.num) (by kernel_rfl) rfl ⟨by omega, ris_on hI hx10 (ris_t (by omega) (by omega) (by simp [*]))⟩ (by first | omega | (simp only; omega))
 ·
  refine aq [(0, .no)] [1, 3, 10, 11, 12] [(13, .bool false)] ([¬ (((j : Nat) : Int) < ((n : Nat) : Int))]) (fun _ => by kernel_rfl) (al1 q5) ?_
  refine done_seq ?_
  refine at_seq ?_
  refine at_false (by kernel_rfl) ?_
  refine at_leave _ (by rfl) ?_
  refine done_seq ?_
  refine at_seq ?_
  refine at_seq ?_
  refine aq [(1, .go (owns 0 0 1))] [1] [(35, .slice p n cap), (36, .int .i64 ((n : Nat))), (37, .int .i64 0)] ([]) (fun _ => by kernel_rfl) al0 ?_
  refine done_seq ?_
  refine at_block ?_
  have hr := ris_end hI (by omega)
  refine at_loop (α := Nat) [1, 35, 36, 37] (fun j => [(1, .pointer (some ⟨γ1 0, 0, none⟩)), (35, .slice p n cap), (36, .int .i64 ((n : Nat))), (37, .int .i64 ((j : Nat)))]) (fun j => [bx (γ1 0) (#[.slice p n cap]) 24]) (fun j => j ≤ n ∧ (l.drop j).all (linkB l) = l.all (linkB l)) (fun j => n - j) 0 (by kernel_rfl) rfl ⟨Nat.zero_le _, by rw [List.drop_zero]⟩ ?_
  rintro j
  rintro ⟨hj, hI⟩
  refine at_seq ?_
  by_cases q30 : ((j : Nat) : Int) < ((n : Nat) : Int)
  ·
   refine aq [(0, .yes)] [1, 35, 36, 37] [(38, .bool true)] ([((j : Nat) : Int) < ((n : Nat) : Int)]) (fun _ => by kernel_rfl) (al1 q30) ?_
   refine done_seq ?_
   refine at_seq ?_
   refine at_true (by kernel_rfl) ?_
   refine at_skip ?_
   refine done_seq ?_
   refine at_seq ?_
   refine at_block ?_
   refine at_seq ?_
   obtain ⟨b33, o33, rfl⟩ := hsl.pos (i := j) (by omega)
   obtain ⟨x35, hx35⟩ := get_some (l := l) (m := j) (by omega)
   refine am [(0, .at b33 o33 j), (1, .go (outs b33 (o33 + j * 5) [.int .i64 x35.num, .int .i64 x35.vcpu, .int .i64 x35.peer, .bool x35.pending, .bool x35.masked])), (3, .go (owns 0 0 5))] [1, 35, 36, 37] (fun γ36 => [(7, .pointer (some ⟨γ36 0, 0, none⟩))]) (fun γ36 L => bx (γ36 0) (#[.int .i64 x35.num, .int .i64 x35.vcpu, .int .i64 x35.peer, .bool x35.pending, .bool x35.masked]) 40 :: L) (fun γ36 => [(some ⟨b33, o33, none⟩ : Option Addr) = some ⟨b33, o33, none⟩, ((j : Nat)) = ((j : Nat) : Int), j < n] ++ (cellsP w b33 (o33 + j * 5) [.int .i64 x35.num, .int .i64 x35.vcpu, .int .i64 x35.peer, .bool x35.pending, .bool x35.masked])) (fun _ => by kernel_rfl) (fun γ36 => (alA (al2 rfl (al2 rfl (al1 (by omega)))) (rd_pre (hsl.get hx35) _ rfl))) (fun γ36 => ?_)
   refine done_seq ?_
   refine at_seq ?_
   refine at_seq ?_
   by_cases q38 : (x35.peer : Int) = (0 : Int)
   ·
    refine aq [(1, .go (owns 0 2 1)), (2, .yes)] [1, 7, 35, 36, 37] [(43, .bool true)] ([(x35.peer : Int) = (0 : Int)]) (fun _ => by kernel_rfl) (al1 q38) ?_
    refine done_seq ?_
    refine at_true (by kernel_rfl) ?_
    refine at_leave _ (by rfl) ?_
    refine done_seq ?_
    refine aq [(0, .fit)] [1, 35, 36] [(37, .int .i64 ((j + 1 : Nat)))] ([Fit .i64 ((j + 1 : Nat))]) (fun _ => by kernel_rfl) (al1 (fit64 (by omega) (by omega))) ?_
    refine Done.drop (L' := [bx (γ1 0) (#[.slice (some ⟨b33, o33, none⟩) n cap]) 24]) ?_ (List.Sublist.cons _ (List.Sublist.cons_cons _ (List.Sublist.refl _)))
    exact done_round [1, 35, 36, 37] (j + 1) (by kernel_rfl) rfl ⟨by omega, link_on hI hx35 (by first | exact link_zero (by assumption) | (rw [link_some (by assumption) hg]; simp only [Bool.and_eq_true, decide_eq_true_eq, Bool.not_eq_true', decide_eq_false_iff_not]; omega))⟩ (by first | omega | (simp only; omega))
   ·
    refine aq [(1, .go (owns 0 2 1)), (2, .no)] [1, 7, 35, 36, 37] [(43, .bool false)] ([¬ ((x35.peer : Int) = (0 : Int))]) (fun _ => by kernel_rfl) (al1 q38) ?_
    refine done_seq ?_
    refine at_false (by kernel_rfl) ?_
    refine at_skip ?_
    refine done_seq ?_
    refine at_seq ?_
    refine at_ops ?_
    refine oq 4 [(1, .go (owns 1 0 1)), (3, .go (owns 0 2 1))] [1, 7, 35, 36, 37] [(45, .slice (some ⟨b33, o33, none⟩) n cap), (47, .int .i64 x35.peer)] ([]) (fun _ => by kernel_rfl) al0 ?_
    rcases hg : getB l x35.peer with _ | y
    ·
     refine ops_callD (.pointer none) (by kernel_rfl) (by kernel_rfl) (by kernel_rfl) (fun args w => Try.call32 args w) (fun w hw => by have := port_d (some ⟨b33, o33, none⟩) n cap l x35.peer w (hsl.kept hw.below) hn hb (ris_all hr) (ris_asc l 0 hr); rw [portV_none hg] at this; exact this) ?_
     refine oq 1 [] [1, 7, 35, 36, 37] [(8, .pointer none)] ([]) (fun _ => by kernel_rfl) al0 ?_
     refine ops_nil ?_
     refine done_seq ?_
     refine at_seq ?_
     refine cq [] [1, 35, 36, 37] [(68, .bool true)] ([]) rfl (by kernel_rfl) (by kernel_rfl) (by kernel_rfl) al0 ?_
     refine done_seq ?_
     refine at_true (by kernel_rfl) ?_
     refine at_seq ?_
     refine aq [] [] [(2, .int .i64 260)] ([]) (fun _ => by kernel_rfl) al0 ?_
     refine done_seq ?_
     refine at_return ([]) (.int .i64 260) [] (by kernel_rfl) (by kernel_rfl) al0 ?_
     exact fun w' hw => ⟨by rw [link_bad hI hx35 (by first | exact link_none (by assumption) hg | (rw [link_some (by assumption) hg]; simp only [Bool.and_eq_false_iff, decide_eq_false_iff_not, Bool.not_eq_false', decide_eq_true_eq]; omega))]; rfl, hw.below⟩
    ·
     obtain ⟨hy1, hy2⟩ := get_pos (ris_asc l 0 hr) hg
     refine ops_callD (.pointer (some ⟨b33, o33 + (posB l x35.peer) * 5, none⟩)) (by kernel_rfl) (by kernel_rfl) (by kernel_rfl) (fun args w => Try.call32 args w) (fun w hw => by have := port_d (some ⟨b33, o33, none⟩) n cap l x35.peer w (hsl.kept hw.below) hn hb (ris_all hr) (ris_asc l 0 hr); rw [portV_some hg] at this; exact this) ?_
     refine oq 1 [] [1, 7, 35, 36, 37] [(8, .pointer (some ⟨b33, o33 + (posB l x35.peer) * 5, none⟩))] ([]) (fun _ => by kernel_rfl) al0 ?_
     refine ops_nil ?_
     refine done_seq ?_
     refine at_seq ?_
     by_cases q49 : (y.peer : Int) ≠ (x35.num : Int)
     ·
      refine cq [(6, .go (outs b33 (o33 + (posB l x35.peer) * 5 + 2) [.int .i64 y.peer])), (8, .go (owns 0 0 1)), (9, .yes)] [1, 35, 36, 37] [(68, .bool true)] (cellsP w b33 (o33 + (posB l x35.peer) * 5 + 2) [.int .i64 y.peer] ++ ([(y.peer : Int) ≠ (x35.num : Int)])) rfl (by kernel_rfl) (by kernel_rfl) (by kernel_rfl) (alA (rd_part (hsl.get hy1) 2 _ rfl) (al1 q49)) ?_
      refine done_seq ?_
      refine at_true (by kernel_rfl) ?_
      refine at_seq ?_
      refine aq [] [] [(2, .int .i64 260)] ([]) (fun _ => by kernel_rfl) al0 ?_
      refine done_seq ?_
      refine at_return ([]) (.int .i64 260) [] (by kernel_rfl) (by kernel_rfl) al0 ?_
      exact fun w' hw => ⟨by rw [link_bad hI hx35 (by first | exact link_none (by assumption) hg | (rw [link_some (by assumption) hg]; simp only [Bool.and_eq_false_iff, decide_eq_false_iff_not, Bool.not_eq_false', decide_eq_true_eq]; omega))]; rfl, hw.below⟩
     ·
      by_cases q53 : (y.num : Int) = (x35.num : Int)
      ·
       refine cq [(6, .go (outs b33 (o33 + (posB l x35.peer) * 5 + 2) [.int .i64 y.peer])), (8, .go (owns 0 0 1)), (9, .no), (15, .go (outs b33 (o33 + (posB l x35.peer) * 5) [.int .i64 y.num])), (17, .go (owns 0 0 1)), (18, .yes)] [1, 35, 36, 37] [(68, .bool true)] (cellsP w b33 (o33 + (posB l x35.peer) * 5 + 2) [.int .i64 y.peer] ++ ([¬ ((y.peer : Int) ≠ (x35.num : Int))] ++ (cellsP w b33 (o33 + (posB l x35.peer) * 5) [.int .i64 y.num] ++ ([(y.num : Int) = (x35.num : Int)])))) rfl (by kernel_rfl) (by kernel_rfl) (by kernel_rfl) (alA (rd_part (hsl.get hy1) 2 _ rfl) (alA (al1 q49) (alA (rd_pre (hsl.get hy1) _ rfl) (al1 q53)))) ?_
       refine done_seq ?_
       refine at_true (by kernel_rfl) ?_
       refine at_seq ?_
       refine aq [] [] [(2, .int .i64 260)] ([]) (fun _ => by kernel_rfl) al0 ?_
       refine done_seq ?_
       refine at_return ([]) (.int .i64 260) [] (by kernel_rfl) (by kernel_rfl) al0 ?_
       exact fun w' hw => ⟨by rw [link_bad hI hx35 (by first | exact link_none (by assumption) hg | (rw [link_some (by assumption) hg]; simp only [Bool.and_eq_false_iff, decide_eq_false_iff_not, Bool.not_eq_false', decide_eq_true_eq]; omega))]; rfl, hw.below⟩
      ·
       refine cq [(6, .go (outs b33 (o33 + (posB l x35.peer) * 5 + 2) [.int .i64 y.peer])), (8, .go (owns 0 0 1)), (9, .no), (15, .go (outs b33 (o33 + (posB l x35.peer) * 5) [.int .i64 y.num])), (17, .go (owns 0 0 1)), (18, .no)] [1, 35, 36, 37] [(68, .bool false)] (cellsP w b33 (o33 + (posB l x35.peer) * 5 + 2) [.int .i64 y.peer] ++ ([¬ ((y.peer : Int) ≠ (x35.num : Int))] ++ (cellsP w b33 (o33 + (posB l x35.peer) * 5) [.int .i64 y.num] ++ ([¬ ((y.num : Int) = (x35.num : Int))])))) rfl (by kernel_rfl) (by kernel_rfl) (by kernel_rfl) (alA (rd_part (hsl.get hy1) 2 _ rfl) (alA (al1 q49) (alA (rd_pre (hsl.get hy1) _ rfl) (al1 q53)))) ?_
       refine done_seq ?_
       refine at_false (by kernel_rfl) ?_
       refine at_skip ?_
       refine done_block ?_
       refine done_seq ?_
       refine aq [(0, .fit)] [1, 35, 36] [(37, .int .i64 ((j + 1 : Nat)))] ([Fit .i64 ((j + 1 : Nat))]) (fun _ => by kernel_rfl) (al1 (fit64 (by omega) (by omega))) ?_
       refine Done.drop (L' := [bx (γ1 0) (#[.slice (some ⟨b33, o33, none⟩) n cap]) 24]) ?_ (List.Sublist.cons _ (List.Sublist.cons_cons _ (List.Sublist.refl _)))
       exact done_round [1, 35, 36, 37] (j + 1) (by kernel_rfl) rfl ⟨by omega, link_on hI hx35 (by first | exact link_zero (by assumption) | (rw [link_some (by assumption) hg]; simp only [Bool.and_eq_true, decide_eq_true_eq, Bool.not_eq_true', decide_eq_false_iff_not]; omega))⟩ (by first | omega | (simp only; omega))
  ·
   refine aq [(0, .no)] [1, 35, 36, 37] [(38, .bool false)] ([¬ (((j : Nat) : Int) < ((n : Nat) : Int))]) (fun _ => by kernel_rfl) (al1 q30) ?_
   refine done_seq ?_
   refine at_seq ?_
   refine at_false (by kernel_rfl) ?_
   refine at_leave _ (by rfl) ?_
   refine done_seq ?_
   refine at_seq ?_
   refine aq [] [] [(2, .int .i64 0)] ([]) (fun _ => by kernel_rfl) al0 ?_
   refine done_seq ?_
   refine at_return ([]) (.int .i64 0) [] (by kernel_rfl) (by kernel_rfl) al0 ?_
   exact fun w' hw => ⟨by rw [right_end hI (by omega) hr]; rfl, hw.below⟩
end Go.Proofs.Ytfhlmijdokfdpaa

/-! Two ports compared. -/
namespace Go.Proofs.Ytfhlmijdokfdpaa
open Go Go.RowKit

theorem port_eqRun (op : BinOp) (hop : op = .eql ∨ op = .neq) (x y : Operand) (a b : Port) (r : Bool) (hr : r = (if op = .eql then decide (a = b) else !decide (a = b))) : EqRun Try.prog op 40 x y a.val b.val r := by
  intro w
  subst hr
  have hS : Try.prog.underlying 40 = some (.struct (Try.prog.fieldsOf 40)) := by kernel_rfl
  have hp : Try.prog.stoodInHeld 40 = false := by kernel_rfl
  have hg : Try.prog.eqGuardType Try.prog.depth 40 = false := by kernel_rfl
  have key : (Op.equal 40 a.val b.val).run Try.prog w = .ok (decide (a = b)) w := by
    unfold Op.equal
    rw [show Op.maxDepth = 9999 + 1 from rfl, run_equalIn_struct w 9999 40 _ _ hS hp]
    simp only [Program.fieldsOf, Try.underlying40]
    go_simp
    obtain ⟨a1, a2, a3, a4, a5⟩ := a
    obtain ⟨b1, b2, b3, b4, b5⟩ := b
    simp only [Port.mk.injEq]
    by_cases h1 : a1 = b1 <;> by_cases h2 : a2 = b2 <;> by_cases h3 : a3 = b3 <;> by_cases h4 : a4 = b4 <;> by_cases h5 : a5 = b5 <;> simp [h1, h2, h3, h4, h5]
  have guard : (eqGuard op 40 x y a.val b.val).run Try.prog w = .ok () w := by
    unfold eqGuard
    rcases hop with rfl | rfl <;> simp [hg]
  rw [Sem.run_bind, guard]
  simp only [Result.andThen_ok]
  rcases hop with rfl | rfl <;> simp [binOp, Sem.run_bind, key]
theorem port_eq_t {x y : Operand} {a b : Port} (h : a = b) : EqRun Try.prog .eql 40 x y a.val b.val true := port_eqRun _ (.inl rfl) x y a b _ (by simp [h])
theorem port_eq_f {x y : Operand} {a b : Port} (h : ¬ a = b) : EqRun Try.prog .eql 40 x y a.val b.val false := port_eqRun _ (.inl rfl) x y a b _ (by simp [h])
theorem port_ne_t {x y : Operand} {a b : Port} (h : a = b) : EqRun Try.prog .neq 40 x y a.val b.val false := port_eqRun _ (.inr rfl) x y a b _ (by simp [h])
theorem port_ne_f {x y : Operand} {a b : Port} (h : ¬ a = b) : EqRun Try.prog .neq 40 x y a.val b.val true := port_eqRun _ (.inr rfl) x y a b _ (by simp [h])
end Go.Proofs.Ytfhlmijdokfdpaa

/-! The reference's readers. -/
namespace Go.Proofs.Ytfhlmijdokfdpaa
open Go Go.RowKit

set_option maxRecDepth 100000 in
theorem find_d (p : Option Addr) (n cap : Nat) (l : List Port) (k : Int) (w : World)
    (hsl : Sv w p l) (hn : n = l.length) (hb : n ≤ 1000)
    : Calls Try.prog 34 #[.agg #[.slice p n cap], .int .i64 k] w fun e w' => e = .returned (.int .i64 (findI l k)) ∧ Below w.heap.size w w' := by
  refine enter (Hs.start w) Try.func34 rfl Try.ntmps34 rfl ?_
  refine at_seq ?_
  refine am [] [1] (fun γ1 => [(2, .pointer (some ⟨γ1 0, 0, none⟩))]) (fun γ1 L => bx (γ1 0) (#[.slice p n cap]) 24 :: L) (fun γ1 => []) (fun _ => by kernel_rfl) (fun γ1 => al0) (fun γ1 => ?_)
  refine done_seq ?_
  refine at_seq ?_
  refine at_seq ?_
  refine aq [(1, .go (owns 0 0 1))] [1] [(8, .slice p n cap), (9, .int .i64 ((n : Nat))), (10, .int .i64 0)] ([]) (fun _ => by kernel_rfl) al0 ?_
  refine done_seq ?_
  refine at_block ?_
  refine at_loop (α := Nat) [1, 8, 9, 10] (fun j => [(1, .int .i64 k), (8, .slice p n cap), (9, .int .i64 ((n : Nat))), (10, .int .i64 ((j : Nat)))]) (fun j => [bx (γ1 0) (#[.slice p n cap]) 24]) (fun j => j ≤ n ∧ ∀ (t : Nat) (y : Port), t < j → l[t]? = some y → ¬ y.num = k) (fun j => n - j) 0 (by kernel_rfl) rfl ⟨Nat.zero_le _, fun t y h => by omega⟩ ?_
  rintro j
  rintro ⟨hj, hI⟩
  refine at_seq ?_
  by_cases q4 : ((j : Nat) : Int) < ((n : Nat) : Int)
  ·
    refine aq [(0, .yes)] [1, 8, 9, 10] [(11, .bool true)] ([((j : Nat) : Int) < ((n : Nat) : Int)]) (fun _ => by kernel_rfl) (al1 q4) ?_
    refine done_seq ?_
    refine at_seq ?_
    refine at_true (by kernel_rfl) ?_
    refine at_skip ?_
    refine done_seq ?_
    refine at_seq ?_
    refine at_block ?_
    refine at_seq ?_
    obtain ⟨b7, o7, rfl⟩ := hsl.pos (i := j) (by omega)
    obtain ⟨x9, hx9⟩ := get_some (l := l) (m := j) (by omega)
    refine am [(1, .at b7 o7 j), (2, .go (outs b7 (o7 + j * 5) [.int .i64 x9.num, .int .i64 x9.vcpu, .int .i64 x9.peer, .bool x9.pending, .bool x9.masked])), (5, .go (owns 0 0 5))] [1, 8, 9, 10] (fun γ10 => [(5, .int .i64 ((j : Nat))), (6, .pointer (some ⟨γ10 0, 0, none⟩))]) (fun γ10 L => bx (γ10 0) (#[.int .i64 x9.num, .int .i64 x9.vcpu, .int .i64 x9.peer, .bool x9.pending, .bool x9.masked]) 40 :: L) (fun γ10 => [(some ⟨b7, o7, none⟩ : Option Addr) = some ⟨b7, o7, none⟩, ((j : Nat)) = ((j : Nat) : Int), j < n] ++ (cellsP w b7 (o7 + j * 5) [.int .i64 x9.num, .int .i64 x9.vcpu, .int .i64 x9.peer, .bool x9.pending, .bool x9.masked])) (fun _ => by kernel_rfl) (fun γ10 => (alA (al2 rfl (al2 rfl (al1 (by omega)))) (rd_pre (hsl.get hx9) _ rfl))) (fun γ10 => ?_)
    refine done_seq ?_
    refine at_seq ?_
    by_cases q12 : (x9.num : Int) = (k : Int)
    ·
      refine aq [(1, .go (owns 0 0 1)), (3, .yes)] [1, 5, 8, 9, 10] [(18, .bool true)] ([(x9.num : Int) = (k : Int)]) (fun _ => by kernel_rfl) (al1 q12) ?_
      refine done_seq ?_
      refine at_true (by kernel_rfl) ?_
      refine at_seq ?_
      refine aq [] [] [(4, .int .i64 ((j : Nat)))] ([]) (fun _ => by kernel_rfl) al0 ?_
      refine done_seq ?_
      refine at_return ([]) (.int .i64 ((j : Nat))) [] (by kernel_rfl) (by kernel_rfl) al0 ?_
      exact fun w' hw => ⟨by rw [find_hit hI hx9 (by assumption)], hw.below⟩
    ·
      refine aq [(1, .go (owns 0 0 1)), (3, .no)] [1, 5, 8, 9, 10] [(18, .bool false)] ([¬ ((x9.num : Int) = (k : Int))]) (fun _ => by kernel_rfl) (al1 q12) ?_
      refine done_seq ?_
      refine at_false (by kernel_rfl) ?_
      refine at_skip ?_
      refine done_block ?_
      refine done_seq ?_
      refine aq [(0, .fit)] [1, 8, 9] [(10, .int .i64 ((j + 1 : Nat)))] ([Fit .i64 ((j + 1 : Nat))]) (fun _ => by kernel_rfl) (al1 (fit64 (by omega) (by omega))) ?_
      refine Done.drop (L' := [bx (γ1 0) (#[.slice (some ⟨b7, o7, none⟩) n cap]) 24]) ?_ (List.Sublist.cons _ (List.Sublist.cons_cons _ (List.Sublist.refl _)))
      exact done_round [1, 8, 9, 10] (j + 1) (by kernel_rfl) rfl ⟨by omega, fun t y ht e => by
          by_cases htj : t = j
          · subst htj; rw [hx9] at e; cases e; assumption
          · exact hI t y (by omega) e⟩ (by first | omega | (simp only; omega))
  ·
    refine aq [(0, .no)] [1, 8, 9, 10] [(11, .bool false)] ([¬ (((j : Nat) : Int) < ((n : Nat) : Int))]) (fun _ => by kernel_rfl) (al1 q4) ?_
    refine done_seq ?_
    refine at_seq ?_
    refine at_false (by kernel_rfl) ?_
    refine at_leave _ (by rfl) ?_
    refine done_seq ?_
    refine at_seq ?_
    refine aq [] [] [(4, .int .i64 (-1))] ([]) (fun _ => by kernel_rfl) al0 ?_
    refine done_seq ?_
    refine at_return ([]) (.int .i64 (-1)) [] (by kernel_rfl) (by kernel_rfl) al0 ?_
    exact fun w' hw => ⟨by rw [← find_miss hI (by omega)], hw.below⟩

set_option maxRecDepth 100000 in
theorem rright_d (p : Option Addr) (n cap : Nat) (l : List Port) (w : World)
    (hsl : Sv w p l) (hn : n = l.length) (hb : n ≤ 1000)
    : Calls Try.prog 13 #[.agg #[.slice p n cap]] w fun e w' => e = .returned (.bool (rightB l)) ∧ Below w.heap.size w w' := by
  refine enter (Hs.start w) Try.func13 rfl Try.ntmps13 rfl ?_
  refine at_seq ?_
  refine am [] [] (fun γ1 => [(1, .pointer (some ⟨γ1 0, 0, none⟩))]) (fun γ1 L => bx (γ1 0) (#[.slice p n cap]) 24 :: L) (fun γ1 => []) (fun _ => by kernel_rfl) (fun γ1 => al0) (fun γ1 => ?_)
  refine done_seq ?_
  refine at_seq ?_
  refine at_seq ?_
  refine aq [(1, .go (owns 0 0 1))] [1] [(7, .slice p n cap), (8, .int .i64 ((n : Nat))), (9, .int .i64 0)] ([]) (fun _ => by kernel_rfl) al0 ?_
  refine done_seq ?_
  refine at_block ?_
  refine at_loop (α := Nat) [1, 7, 8, 9] (fun j => [(1, .pointer (some ⟨γ1 0, 0, none⟩)), (7, .slice p n cap), (8, .int .i64 ((n : Nat))), (9, .int .i64 ((j : Nat)))]) (fun j => [bx (γ1 0) (#[.slice p n cap]) 24]) (fun j => j ≤ n ∧ ∀ (t : Nat) (y : Port), t < j → l[t]? = some y → OkAt l t y) (fun j => n - j) 0 (by kernel_rfl) rfl ⟨Nat.zero_le _, fun t y h => by omega⟩ ?_
  rintro j
  rintro ⟨hj, hI⟩
  refine at_seq ?_
  by_cases q4 : ((j : Nat) : Int) < ((n : Nat) : Int)
  ·
    refine aq [(0, .yes)] [1, 7, 8, 9] [(10, .bool true)] ([((j : Nat) : Int) < ((n : Nat) : Int)]) (fun _ => by kernel_rfl) (al1 q4) ?_
    refine done_seq ?_
    refine at_seq ?_
    refine at_true (by kernel_rfl) ?_
    refine at_skip ?_
    refine done_seq ?_
    refine at_seq ?_
    refine at_block ?_
    refine at_seq ?_
    obtain ⟨b7, o7, rfl⟩ := hsl.pos (i := j) (by omega)
    obtain ⟨x9, hx9⟩ := get_some (l := l) (m := j) (by omega)
    refine am [(1, .at b7 o7 j), (2, .go (outs b7 (o7 + j * 5) [.int .i64 x9.num, .int .i64 x9.vcpu, .int .i64 x9.peer, .bool x9.pending, .bool x9.masked])), (5, .go (owns 0 0 5))] [1, 7, 8, 9] (fun γ10 => [(3, .int .i64 ((j : Nat))), (4, .pointer (some ⟨γ10 0, 0, none⟩))]) (fun γ10 L => bx (γ10 0) (#[.int .i64 x9.num, .int .i64 x9.vcpu, .int .i64 x9.peer, .bool x9.pending, .bool x9.masked]) 40 :: L) (fun γ10 => [(some ⟨b7, o7, none⟩ : Option Addr) = some ⟨b7, o7, none⟩, ((j : Nat)) = ((j : Nat) : Int), j < n] ++ (cellsP w b7 (o7 + j * 5) [.int .i64 x9.num, .int .i64 x9.vcpu, .int .i64 x9.peer, .bool x9.pending, .bool x9.masked])) (fun _ => by kernel_rfl) (fun γ10 => (alA (al2 rfl (al2 rfl (al1 (by omega)))) (rd_pre (hsl.get hx9) _ rfl))) (fun γ10 => ?_)
    refine done_seq ?_
    refine at_seq ?_
    refine at_seq ?_
    by_cases q12 : (x9.num : Int) < (1 : Int)
    ·
      refine cq [(1, .go (owns 0 0 1)), (2, .yes)] [1, 3, 4, 7, 8, 9] [(43, .bool true)] ([(x9.num : Int) < (1 : Int)]) rfl (by kernel_rfl) (by kernel_rfl) (by kernel_rfl) (al1 q12) ?_
      refine done_seq ?_
      refine at_true (by kernel_rfl) ?_
      refine at_seq ?_
      refine aq [] [] [(2, .bool false)] ([]) (fun _ => by kernel_rfl) al0 ?_
      refine done_seq ?_
      refine at_return ([]) (.bool false) [] (by kernel_rfl) (by kernel_rfl) al0 ?_
      exact fun w' hw => ⟨by rw [right_bad hx9 (fun ⟨a1, a2, a3, a4, a5⟩ => by first | omega | omega | (simp_all; done) | (rcases a5 with e | ⟨y', e1, e2, e3⟩; omega; rw [hg] at e1; cases e1) | (rcases a5 with e | ⟨y', e1, e2, e3⟩; omega; rw [hg] at e1; cases e1; rw [hjf] at e2; omega))], hw.below⟩
    ·
      by_cases q16 : (x9.num : Int) > (32 : Int)
      ·
        refine cq [(1, .go (owns 0 0 1)), (2, .no), (5, .go (owns 0 0 1)), (6, .yes)] [1, 3, 4, 7, 8, 9] [(43, .bool true)] ([¬ ((x9.num : Int) < (1 : Int))] ++ ([(x9.num : Int) > (32 : Int)])) rfl (by kernel_rfl) (by kernel_rfl) (by kernel_rfl) (alA (al1 q12) (al1 q16)) ?_
        refine done_seq ?_
        refine at_true (by kernel_rfl) ?_
        refine at_seq ?_
        refine aq [] [] [(2, .bool false)] ([]) (fun _ => by kernel_rfl) al0 ?_
        refine done_seq ?_
        refine at_return ([]) (.bool false) [] (by kernel_rfl) (by kernel_rfl) al0 ?_
        exact fun w' hw => ⟨by rw [right_bad hx9 (fun ⟨a1, a2, a3, a4, a5⟩ => by first | omega | omega | (simp_all; done) | (rcases a5 with e | ⟨y', e1, e2, e3⟩; omega; rw [hg] at e1; cases e1) | (rcases a5 with e | ⟨y', e1, e2, e3⟩; omega; rw [hg] at e1; cases e1; rw [hjf] at e2; omega))], hw.below⟩
      ·
        by_cases q20 : ((j : Nat) : Int) > (0 : Int)
        ·
          obtain ⟨x22, hx22⟩ := get_some (l := l) (m := j - 1) (by omega)
          by_cases q24 : (x22.num : Int) ≥ (x9.num : Int)
          ·
            refine cq [(1, .go (owns 0 0 1)), (2, .no), (5, .go (owns 0 0 1)), (6, .no), (10, .yes), (13, .go (owns 1 0 1)), (15, .fit), (16, .at b7 o7 (j - 1)), (18, .go (outs b7 (o7 + (j - 1) * 5) [.int .i64 x22.num])), (20, .go (owns 0 0 1)), (21, .yes)] [1, 3, 4, 7, 8, 9] [(43, .bool true)] ([¬ ((x9.num : Int) < (1 : Int))] ++ ([¬ ((x9.num : Int) > (32 : Int))] ++ ([((j : Nat) : Int) > (0 : Int)] ++ ([Fit .i64 (((j : Nat)) - 1)] ++ ([(some ⟨b7, o7, none⟩ : Option Addr) = some ⟨b7, o7, none⟩, (((j : Nat)) - 1) = ((j - 1 : Nat) : Int), j - 1 < n] ++ (cellsP w b7 (o7 + (j - 1) * 5) [.int .i64 x22.num] ++ ([(x22.num : Int) ≥ (x9.num : Int)]))))))) rfl (by kernel_rfl) (by kernel_rfl) (by kernel_rfl) (alA (al1 q12) (alA (al1 q16) (alA (al1 q20) (alA (al1 (fit64 (by omega) (by omega))) (alA (al2 rfl (al2 (by omega) (al1 (by omega)))) (alA (rd_pre (hsl.get hx22) _ rfl) (al1 q24))))))) ?_
            refine done_seq ?_
            refine at_true (by kernel_rfl) ?_
            refine at_seq ?_
            refine aq [] [] [(2, .bool false)] ([]) (fun _ => by kernel_rfl) al0 ?_
            refine done_seq ?_
            refine at_return ([]) (.bool false) [] (by kernel_rfl) (by kernel_rfl) al0 ?_
            exact fun w' hw => ⟨by rw [right_bad hx9 (fun ⟨a1, a2, a3, a4, a5⟩ => by first | omega | (have := a3 _ (by omega) hx22; omega) | (simp_all; done) | (rcases a5 with e | ⟨y', e1, e2, e3⟩; omega; rw [hg] at e1; cases e1) | (rcases a5 with e | ⟨y', e1, e2, e3⟩; omega; rw [hg] at e1; cases e1; rw [hjf] at e2; omega))], hw.below⟩
          ·
            refine at_calm rfl (by kernel_rfl) (by kernel_rfl) ?_
            refine cm 27 [(1, .go (owns 0 0 1)), (2, .no), (5, .go (owns 0 0 1)), (6, .no), (10, .yes), (13, .go (owns 1 0 1)), (15, .fit), (16, .at b7 o7 (j - 1)), (18, .go (outs b7 (o7 + (j - 1) * 5) [.int .i64 x22.num])), (20, .go (owns 0 0 1)), (21, .no), (26, .go (owns 0 1 1))] [1, 3, 4, 7, 8, 9] [(38, .bool false), (40, .int .i64 x9.vcpu)] ([¬ ((x9.num : Int) < (1 : Int))] ++ ([¬ ((x9.num : Int) > (32 : Int))] ++ ([((j : Nat) : Int) > (0 : Int)] ++ ([Fit .i64 (((j : Nat)) - 1)] ++ ([(some ⟨b7, o7, none⟩ : Option Addr) = some ⟨b7, o7, none⟩, (((j : Nat)) - 1) = ((j - 1 : Nat) : Int), j - 1 < n] ++ (cellsP w b7 (o7 + (j - 1) * 5) [.int .i64 x22.num] ++ ([¬ ((x22.num : Int) ≥ (x9.num : Int))]))))))) (by kernel_rfl) rfl (alA (al1 q12) (alA (al1 q16) (alA (al1 q20) (alA (al1 (fit64 (by omega) (by omega))) (alA (al2 rfl (al2 (by omega) (al1 (by omega)))) (alA (rd_pre (hsl.get hx22) _ rfl) (al1 q24))))))) ?_
            rcases q28 : vcpuB x9.vcpu with _ | _
            ·
              refine calm_callD (.bool false) (by kernel_rfl) (by kernel_rfl) (by kernel_rfl) (fun args w => Try.call33 args w) (fun w hw => by have := rvcpu_d x9.vcpu w; rw [q28] at this; exact this) ?_
              refine cm 2 [] [1, 3, 4, 7, 8, 9] [(43, .bool true)] ([]) (by kernel_rfl) rfl al0 ?_
              refine calm_nil' ?_
              refine done_seq ?_
              refine at_true (by kernel_rfl) ?_
              refine at_seq ?_
              refine aq [] [] [(2, .bool false)] ([]) (fun _ => by kernel_rfl) al0 ?_
              refine done_seq ?_
              refine at_return ([]) (.bool false) [] (by kernel_rfl) (by kernel_rfl) al0 ?_
              exact fun w' hw => ⟨by rw [right_bad hx9 (fun ⟨a1, a2, a3, a4, a5⟩ => by first | omega | (have := a3 _ (by omega) hx22; omega) | (simp_all; done) | (rcases a5 with e | ⟨y', e1, e2, e3⟩; omega; rw [hg] at e1; cases e1) | (rcases a5 with e | ⟨y', e1, e2, e3⟩; omega; rw [hg] at e1; cases e1; rw [hjf] at e2; omega))], hw.below⟩
            ·
              refine calm_callD (.bool true) (by kernel_rfl) (by kernel_rfl) (by kernel_rfl) (fun args w => Try.call33 args w) (fun w hw => by have := rvcpu_d x9.vcpu w; rw [q28] at this; exact this) ?_
              refine cm 2 [] [1, 3, 4, 7, 8, 9] [(43, .bool false)] ([]) (by kernel_rfl) rfl al0 ?_
              refine calm_nil' ?_
              refine done_seq ?_
              refine at_false (by kernel_rfl) ?_
              refine at_skip ?_
              refine done_seq ?_
              refine at_seq ?_
              refine at_seq ?_
              by_cases q33 : (x9.peer : Int) = (0 : Int)
              ·
                refine aq [(1, .go (owns 0 2 1)), (2, .yes)] [1, 3, 4, 7, 8, 9] [(46, .bool true)] ([(x9.peer : Int) = (0 : Int)]) (fun _ => by kernel_rfl) (al1 q33) ?_
                refine done_seq ?_
                refine at_true (by kernel_rfl) ?_
                refine at_leave _ (by rfl) ?_
                refine done_seq ?_
                refine aq [(0, .fit)] [1, 7, 8] [(9, .int .i64 ((j + 1 : Nat)))] ([Fit .i64 ((j + 1 : Nat))]) (fun _ => by kernel_rfl) (al1 (fit64 (by omega) (by omega))) ?_
                refine Done.drop (L' := [bx (γ1 0) (#[.slice (some ⟨b7, o7, none⟩) n cap]) 24]) ?_ (List.Sublist.cons _ (List.Sublist.cons_cons _ (List.Sublist.refl _)))
                exact done_round [1, 7, 8, 9] (j + 1) (by kernel_rfl) rfl ⟨by omega, fun t y' ht e => by
                    by_cases htj : t = j
                    · subst htj; rw [hx9] at e; cases e; exact ⟨by omega, by omega, fun y ht hy => by first | omega | (rw [hx22] at hy; cases hy; omega), by assumption, .inl (by assumption)⟩
                    · exact hI t y' (by omega) e⟩ (by first | omega | (simp only; omega))
              ·
                refine aq [(1, .go (owns 0 2 1)), (2, .no)] [1, 3, 4, 7, 8, 9] [(46, .bool false)] ([¬ ((x9.peer : Int) = (0 : Int))]) (fun _ => by kernel_rfl) (al1 q33) ?_
                refine done_seq ?_
                refine at_false (by kernel_rfl) ?_
                refine at_skip ?_
                refine done_seq ?_
                refine at_seq ?_
                refine at_ops ?_
                refine oq 3 [(0, .go (owns 1 0 1)), (2, .go (owns 0 2 1))] [1, 3, 4, 7, 8, 9] [(47, .agg #[.slice (some ⟨b7, o7, none⟩) n cap]), (49, .int .i64 x9.peer)] ([]) (fun _ => by kernel_rfl) al0 ?_
                rcases hg : getB l x9.peer with _ | y
                ·
                  refine ops_callD (.int .i64 (-1)) (by kernel_rfl) (by kernel_rfl) (by kernel_rfl) (fun args w => Try.call34 args w) (fun w hw => by have := find_d (some ⟨b7, o7, none⟩) n cap l x9.peer w (hsl.kept hw.below) hn hb; rw [find_none hg] at this; exact this) ?_
                  refine oq 1 [] [1, 3, 4, 7, 8, 9] [(5, .int .i64 (-1))] ([]) (fun _ => by kernel_rfl) al0 ?_
                  refine ops_nil ?_
                  refine done_seq ?_
                  refine at_seq ?_
                  refine cq [] [1, 7, 8, 9] [(68, .bool true)] ([]) rfl (by kernel_rfl) (by kernel_rfl) (by kernel_rfl) al0 ?_
                  refine done_seq ?_
                  refine at_true (by kernel_rfl) ?_
                  refine at_seq ?_
                  refine aq [] [] [(2, .bool false)] ([]) (fun _ => by kernel_rfl) al0 ?_
                  refine done_seq ?_
                  refine at_return ([]) (.bool false) [] (by kernel_rfl) (by kernel_rfl) al0 ?_
                  exact fun w' hw => ⟨by rw [right_bad hx9 (fun ⟨a1, a2, a3, a4, a5⟩ => by first | omega | (have := a3 _ (by omega) hx22; omega) | (simp_all; done) | (rcases a5 with e | ⟨y', e1, e2, e3⟩; omega; rw [hg] at e1; cases e1) | (rcases a5 with e | ⟨y', e1, e2, e3⟩; omega; rw [hg] at e1; cases e1; rw [hjf] at e2; omega))], hw.below⟩
                ·
                  obtain ⟨jf, hjf, hyf, _⟩ := find_some hg
                  have hjn : jf < l.length := (List.getElem?_eq_some_iff.1 hyf).1
                  refine ops_callD (.int .i64 ((jf : Nat))) (by kernel_rfl) (by kernel_rfl) (by kernel_rfl) (fun args w => Try.call34 args w) (fun w hw => by have := find_d (some ⟨b7, o7, none⟩) n cap l x9.peer w (hsl.kept hw.below) hn hb; rw [hjf] at this; exact this) ?_
                  refine oq 1 [] [1, 3, 4, 7, 8, 9] [(5, .int .i64 ((jf : Nat)))] ([]) (fun _ => by kernel_rfl) al0 ?_
                  refine ops_nil ?_
                  refine done_seq ?_
                  refine at_seq ?_
                  by_cases q43 : ((jf : Nat) : Int) = ((j : Nat) : Int)
                  ·
                    refine cq [(1, .no), (5, .yes)] [1, 7, 8, 9] [(68, .bool true)] ([¬ (((jf : Nat) : Int) < (0 : Int))] ++ ([((jf : Nat) : Int) = ((j : Nat) : Int)])) rfl (by kernel_rfl) (by kernel_rfl) (by kernel_rfl) (alA (al1 ((by omega))) (al1 q43)) ?_
                    refine done_seq ?_
                    refine at_true (by kernel_rfl) ?_
                    refine at_seq ?_
                    refine aq [] [] [(2, .bool false)] ([]) (fun _ => by kernel_rfl) al0 ?_
                    refine done_seq ?_
                    refine at_return ([]) (.bool false) [] (by kernel_rfl) (by kernel_rfl) al0 ?_
                    exact fun w' hw => ⟨by rw [right_bad hx9 (fun ⟨a1, a2, a3, a4, a5⟩ => by first | omega | (have := a3 _ (by omega) hx22; omega) | (simp_all; done) | (rcases a5 with e | ⟨y', e1, e2, e3⟩; omega; rw [hg] at e1; cases e1) | (rcases a5 with e | ⟨y', e1, e2, e3⟩; omega; rw [hg] at e1; cases e1; rw [hjf] at e2; omega))], hw.below⟩
                  ·
                    by_cases q47 : (y.peer : Int) ≠ (x9.num : Int)
                    ·
                      refine cq [(1, .no), (5, .no), (9, .go (owns 1 0 1)), (11, .at b7 o7 jf), (13, .go (outs b7 (o7 + jf * 5 + 2) [.int .i64 y.peer])), (15, .go (owns 0 0 1)), (16, .yes)] [1, 7, 8, 9] [(68, .bool true)] ([¬ (((jf : Nat) : Int) < (0 : Int))] ++ ([¬ (((jf : Nat) : Int) = ((j : Nat) : Int))] ++ ([(some ⟨b7, o7, none⟩ : Option Addr) = some ⟨b7, o7, none⟩, ((jf : Nat)) = ((jf : Nat) : Int), jf < n] ++ (cellsP w b7 (o7 + jf * 5 + 2) [.int .i64 y.peer] ++ ([(y.peer : Int) ≠ (x9.num : Int)]))))) rfl (by kernel_rfl) (by kernel_rfl) (by kernel_rfl) (alA (al1 ((by omega))) (alA (al1 q43) (alA (al2 rfl (al2 rfl (al1 (by omega)))) (alA (rd_part (hsl.get hyf) 2 _ rfl) (al1 q47))))) ?_
                      refine done_seq ?_
                      refine at_true (by kernel_rfl) ?_
                      refine at_seq ?_
                      refine aq [] [] [(2, .bool false)] ([]) (fun _ => by kernel_rfl) al0 ?_
                      refine done_seq ?_
                      refine at_return ([]) (.bool false) [] (by kernel_rfl) (by kernel_rfl) al0 ?_
                      exact fun w' hw => ⟨by rw [right_bad hx9 (fun ⟨a1, a2, a3, a4, a5⟩ => by first | omega | (have := a3 _ (by omega) hx22; omega) | (simp_all; done) | (rcases a5 with e | ⟨y', e1, e2, e3⟩; omega; rw [hg] at e1; cases e1) | (rcases a5 with e | ⟨y', e1, e2, e3⟩; omega; rw [hg] at e1; cases e1; rw [hjf] at e2; omega))], hw.below⟩
                    ·
                      refine cq [(1, .no), (5, .no), (9, .go (owns 1 0 1)), (11, .at b7 o7 jf), (13, .go (outs b7 (o7 + jf * 5 + 2) [.int .i64 y.peer])), (15, .go (owns 0 0 1)), (16, .no)] [1, 7, 8, 9] [(68, .bool false)] ([¬ (((jf : Nat) : Int) < (0 : Int))] ++ ([¬ (((jf : Nat) : Int) = ((j : Nat) : Int))] ++ ([(some ⟨b7, o7, none⟩ : Option Addr) = some ⟨b7, o7, none⟩, ((jf : Nat)) = ((jf : Nat) : Int), jf < n] ++ (cellsP w b7 (o7 + jf * 5 + 2) [.int .i64 y.peer] ++ ([¬ ((y.peer : Int) ≠ (x9.num : Int))]))))) rfl (by kernel_rfl) (by kernel_rfl) (by kernel_rfl) (alA (al1 ((by omega))) (alA (al1 q43) (alA (al2 rfl (al2 rfl (al1 (by omega)))) (alA (rd_part (hsl.get hyf) 2 _ rfl) (al1 q47))))) ?_
                      refine done_seq ?_
                      refine at_false (by kernel_rfl) ?_
                      refine at_skip ?_
                      refine done_block ?_
                      refine done_seq ?_
                      refine aq [(0, .fit)] [1, 7, 8] [(9, .int .i64 ((j + 1 : Nat)))] ([Fit .i64 ((j + 1 : Nat))]) (fun _ => by kernel_rfl) (al1 (fit64 (by omega) (by omega))) ?_
                      refine Done.drop (L' := [bx (γ1 0) (#[.slice (some ⟨b7, o7, none⟩) n cap]) 24]) ?_ (List.Sublist.cons _ (List.Sublist.cons_cons _ (List.Sublist.refl _)))
                      exact done_round [1, 7, 8, 9] (j + 1) (by kernel_rfl) rfl ⟨by omega, fun t y' ht e => by
                          by_cases htj : t = j
                          · subst htj; rw [hx9] at e; cases e; exact ⟨by omega, by omega, fun y ht hy => by first | omega | (rw [hx22] at hy; cases hy; omega), by assumption, .inr ⟨y, hg, by rw [hjf]; omega, by omega⟩⟩
                          · exact hI t y' (by omega) e⟩ (by first | omega | (simp only; omega))
        ·
          refine at_calm rfl (by kernel_rfl) (by kernel_rfl) ?_
          refine cm 27 [(1, .go (owns 0 0 1)), (2, .no), (5, .go (owns 0 0 1)), (6, .no), (10, .no), (26, .go (owns 0 1 1))] [1, 3, 4, 7, 8, 9] [(38, .bool false), (40, .int .i64 x9.vcpu)] ([¬ ((x9.num : Int) < (1 : Int))] ++ ([¬ ((x9.num : Int) > (32 : Int))] ++ ([¬ (((j : Nat) : Int) > (0 : Int))]))) (by kernel_rfl) rfl (alA (al1 q12) (alA (al1 q16) (al1 q20))) ?_
          rcases q53 : vcpuB x9.vcpu with _ | _
          ·
            refine calm_callD (.bool false) (by kernel_rfl) (by kernel_rfl) (by kernel_rfl) (fun args w => Try.call33 args w) (fun w hw => by have := rvcpu_d x9.vcpu w; rw [q53] at this; exact this) ?_
            refine cm 2 [] [1, 3, 4, 7, 8, 9] [(43, .bool true)] ([]) (by kernel_rfl) rfl al0 ?_
            refine calm_nil' ?_
            refine done_seq ?_
            refine at_true (by kernel_rfl) ?_
            refine at_seq ?_
            refine aq [] [] [(2, .bool false)] ([]) (fun _ => by kernel_rfl) al0 ?_
            refine done_seq ?_
            refine at_return ([]) (.bool false) [] (by kernel_rfl) (by kernel_rfl) al0 ?_
            exact fun w' hw => ⟨by rw [right_bad hx9 (fun ⟨a1, a2, a3, a4, a5⟩ => by first | omega | omega | (simp_all; done) | (rcases a5 with e | ⟨y', e1, e2, e3⟩; omega; rw [hg] at e1; cases e1) | (rcases a5 with e | ⟨y', e1, e2, e3⟩; omega; rw [hg] at e1; cases e1; rw [hjf] at e2; omega))], hw.below⟩
          ·
            refine calm_callD (.bool true) (by kernel_rfl) (by kernel_rfl) (by kernel_rfl) (fun args w => Try.call33 args w) (fun w hw => by have := rvcpu_d x9.vcpu w; rw [q53] at this; exact this) ?_
            refine cm 2 [] [1, 3, 4, 7, 8, 9] [(43, .bool false)] ([]) (by kernel_rfl) rfl al0 ?_
            refine calm_nil' ?_
            refine done_seq ?_
            refine at_false (by kernel_rfl) ?_
            refine at_skip ?_
            refine done_seq ?_
            refine at_seq ?_
            refine at_seq ?_
            by_cases q58 : (x9.peer : Int) = (0 : Int)
            ·
              refine aq [(1, .go (owns 0 2 1)), (2, .yes)] [1, 3, 4, 7, 8, 9] [(46, .bool true)] ([(x9.peer : Int) = (0 : Int)]) (fun _ => by kernel_rfl) (al1 q58) ?_
              refine done_seq ?_
              refine at_true (by kernel_rfl) ?_
              refine at_leave _ (by rfl) ?_
              refine done_seq ?_
              refine aq [(0, .fit)] [1, 7, 8] [(9, .int .i64 ((j + 1 : Nat)))] ([Fit .i64 ((j + 1 : Nat))]) (fun _ => by kernel_rfl) (al1 (fit64 (by omega) (by omega))) ?_
              refine Done.drop (L' := [bx (γ1 0) (#[.slice (some ⟨b7, o7, none⟩) n cap]) 24]) ?_ (List.Sublist.cons _ (List.Sublist.cons_cons _ (List.Sublist.refl _)))
              exact done_round [1, 7, 8, 9] (j + 1) (by kernel_rfl) rfl ⟨by omega, fun t y' ht e => by
                  by_cases htj : t = j
                  · subst htj; rw [hx9] at e; cases e; exact ⟨by omega, by omega, fun y ht hy => by omega, by assumption, .inl (by assumption)⟩
                  · exact hI t y' (by omega) e⟩ (by first | omega | (simp only; omega))
            ·
              refine aq [(1, .go (owns 0 2 1)), (2, .no)] [1, 3, 4, 7, 8, 9] [(46, .bool false)] ([¬ ((x9.peer : Int) = (0 : Int))]) (fun _ => by kernel_rfl) (al1 q58) ?_
              refine done_seq ?_
              refine at_false (by kernel_rfl) ?_
              refine at_skip ?_
              refine done_seq ?_
              refine at_seq ?_
              refine at_ops ?_
              refine oq 3 [(0, .go (owns 1 0 1)), (2, .go (owns 0 2 1))] [1, 3, 4, 7, 8, 9] [(47, .agg #[.slice (some ⟨b7, o7, none⟩) n cap]), (49, .int .i64 x9.peer)] ([]) (fun _ => by kernel_rfl) al0 ?_
              rcases hg : getB l x9.peer with _ | y
              ·
                refine ops_callD (.int .i64 (-1)) (by kernel_rfl) (by kernel_rfl) (by kernel_rfl) (fun args w => Try.call34 args w) (fun w hw => by have := find_d (some ⟨b7, o7, none⟩) n cap l x9.peer w (hsl.kept hw.below) hn hb; rw [find_none hg] at this; exact this) ?_
                refine oq 1 [] [1, 3, 4, 7, 8, 9] [(5, .int .i64 (-1))] ([]) (fun _ => by kernel_rfl) al0 ?_
                refine ops_nil ?_
                refine done_seq ?_
                refine at_seq ?_
                refine cq [] [1, 7, 8, 9] [(68, .bool true)] ([]) rfl (by kernel_rfl) (by kernel_rfl) (by kernel_rfl) al0 ?_
                refine done_seq ?_
                refine at_true (by kernel_rfl) ?_
                refine at_seq ?_
                refine aq [] [] [(2, .bool false)] ([]) (fun _ => by kernel_rfl) al0 ?_
                refine done_seq ?_
                refine at_return ([]) (.bool false) [] (by kernel_rfl) (by kernel_rfl) al0 ?_
                exact fun w' hw => ⟨by rw [right_bad hx9 (fun ⟨a1, a2, a3, a4, a5⟩ => by first | omega | omega | (simp_all; done) | (rcases a5 with e | ⟨y', e1, e2, e3⟩; omega; rw [hg] at e1; cases e1) | (rcases a5 with e | ⟨y', e1, e2, e3⟩; omega; rw [hg] at e1; cases e1; rw [hjf] at e2; omega))], hw.below⟩
              ·
                obtain ⟨jf, hjf, hyf, _⟩ := find_some hg
                have hjn : jf < l.length := (List.getElem?_eq_some_iff.1 hyf).1
                refine ops_callD (.int .i64 ((jf : Nat))) (by kernel_rfl) (by kernel_rfl) (by kernel_rfl) (fun args w => Try.call34 args w) (fun w hw => by have := find_d (some ⟨b7, o7, none⟩) n cap l x9.peer w (hsl.kept hw.below) hn hb; rw [hjf] at this; exact this) ?_
                refine oq 1 [] [1, 3, 4, 7, 8, 9] [(5, .int .i64 ((jf : Nat)))] ([]) (fun _ => by kernel_rfl) al0 ?_
                refine ops_nil ?_
                refine done_seq ?_
                refine at_seq ?_
                by_cases q68 : ((jf : Nat) : Int) = ((j : Nat) : Int)
                ·
                  refine cq [(1, .no), (5, .yes)] [1, 7, 8, 9] [(68, .bool true)] ([¬ (((jf : Nat) : Int) < (0 : Int))] ++ ([((jf : Nat) : Int) = ((j : Nat) : Int)])) rfl (by kernel_rfl) (by kernel_rfl) (by kernel_rfl) (alA (al1 ((by omega))) (al1 q68)) ?_
                  refine done_seq ?_
                  refine at_true (by kernel_rfl) ?_
                  refine at_seq ?_
                  refine aq [] [] [(2, .bool false)] ([]) (fun _ => by kernel_rfl) al0 ?_
                  refine done_seq ?_
                  refine at_return ([]) (.bool false) [] (by kernel_rfl) (by kernel_rfl) al0 ?_
                  exact fun w' hw => ⟨by rw [right_bad hx9 (fun ⟨a1, a2, a3, a4, a5⟩ => by first | omega | omega | (simp_all; done) | (rcases a5 with e | ⟨y', e1, e2, e3⟩; omega; rw [hg] at e1; cases e1) | (rcases a5 with e | ⟨y', e1, e2, e3⟩; omega; rw [hg] at e1; cases e1; rw [hjf] at e2; omega))], hw.below⟩
                ·
                  by_cases q72 : (y.peer : Int) ≠ (x9.num : Int)
                  ·
                    refine cq [(1, .no), (5, .no), (9, .go (owns 1 0 1)), (11, .at b7 o7 jf), (13, .go (outs b7 (o7 + jf * 5 + 2) [.int .i64 y.peer])), (15, .go (owns 0 0 1)), (16, .yes)] [1, 7, 8, 9] [(68, .bool true)] ([¬ (((jf : Nat) : Int) < (0 : Int))] ++ ([¬ (((jf : Nat) : Int) = ((j : Nat) : Int))] ++ ([(some ⟨b7, o7, none⟩ : Option Addr) = some ⟨b7, o7, none⟩, ((jf : Nat)) = ((jf : Nat) : Int), jf < n] ++ (cellsP w b7 (o7 + jf * 5 + 2) [.int .i64 y.peer] ++ ([(y.peer : Int) ≠ (x9.num : Int)]))))) rfl (by kernel_rfl) (by kernel_rfl) (by kernel_rfl) (alA (al1 ((by omega))) (alA (al1 q68) (alA (al2 rfl (al2 rfl (al1 (by omega)))) (alA (rd_part (hsl.get hyf) 2 _ rfl) (al1 q72))))) ?_
                    refine done_seq ?_
                    refine at_true (by kernel_rfl) ?_
                    refine at_seq ?_
                    refine aq [] [] [(2, .bool false)] ([]) (fun _ => by kernel_rfl) al0 ?_
                    refine done_seq ?_
                    refine at_return ([]) (.bool false) [] (by kernel_rfl) (by kernel_rfl) al0 ?_
                    exact fun w' hw => ⟨by rw [right_bad hx9 (fun ⟨a1, a2, a3, a4, a5⟩ => by first | omega | omega | (simp_all; done) | (rcases a5 with e | ⟨y', e1, e2, e3⟩; omega; rw [hg] at e1; cases e1) | (rcases a5 with e | ⟨y', e1, e2, e3⟩; omega; rw [hg] at e1; cases e1; rw [hjf] at e2; omega))], hw.below⟩
                  ·
                    refine cq [(1, .no), (5, .no), (9, .go (owns 1 0 1)), (11, .at b7 o7 jf), (13, .go (outs b7 (o7 + jf * 5 + 2) [.int .i64 y.peer])), (15, .go (owns 0 0 1)), (16, .no)] [1, 7, 8, 9] [(68, .bool false)] ([¬ (((jf : Nat) : Int) < (0 : Int))] ++ ([¬ (((jf : Nat) : Int) = ((j : Nat) : Int))] ++ ([(some ⟨b7, o7, none⟩ : Option Addr) = some ⟨b7, o7, none⟩, ((jf : Nat)) = ((jf : Nat) : Int), jf < n] ++ (cellsP w b7 (o7 + jf * 5 + 2) [.int .i64 y.peer] ++ ([¬ ((y.peer : Int) ≠ (x9.num : Int))]))))) rfl (by kernel_rfl) (by kernel_rfl) (by kernel_rfl) (alA (al1 ((by omega))) (alA (al1 q68) (alA (al2 rfl (al2 rfl (al1 (by omega)))) (alA (rd_part (hsl.get hyf) 2 _ rfl) (al1 q72))))) ?_
                    refine done_seq ?_
                    refine at_false (by kernel_rfl) ?_
                    refine at_skip ?_
                    refine done_block ?_
                    refine done_seq ?_
                    refine aq [(0, .fit)] [1, 7, 8] [(9, .int .i64 ((j + 1 : Nat)))] ([Fit .i64 ((j + 1 : Nat))]) (fun _ => by kernel_rfl) (al1 (fit64 (by omega) (by omega))) ?_
                    refine Done.drop (L' := [bx (γ1 0) (#[.slice (some ⟨b7, o7, none⟩) n cap]) 24]) ?_ (List.Sublist.cons _ (List.Sublist.cons_cons _ (List.Sublist.refl _)))
                    exact done_round [1, 7, 8, 9] (j + 1) (by kernel_rfl) rfl ⟨by omega, fun t y' ht e => by
                        by_cases htj : t = j
                        · subst htj; rw [hx9] at e; cases e; exact ⟨by omega, by omega, fun y ht hy => by omega, by assumption, .inr ⟨y, hg, by rw [hjf]; omega, by omega⟩⟩
                        · exact hI t y' (by omega) e⟩ (by first | omega | (simp only; omega))
  ·
    refine aq [(0, .no)] [1, 7, 8, 9] [(10, .bool false)] ([¬ (((j : Nat) : Int) < ((n : Nat) : Int))]) (fun _ => by kernel_rfl) (al1 q4) ?_
    refine done_seq ?_
    refine at_seq ?_
    refine at_false (by kernel_rfl) ?_
    refine at_leave _ (by rfl) ?_
    refine done_seq ?_
    refine at_seq ?_
    refine aq [] [] [(2, .bool true)] ([]) (fun _ => by kernel_rfl) al0 ?_
    refine done_seq ?_
    refine at_return ([]) (.bool true) [] (by kernel_rfl) (by kernel_rfl) al0 ?_
    exact fun w' hw => ⟨by rw [right_good fun t y e => hI t y (by have := (List.getElem?_eq_some_iff.1 e).1; omega) e], hw.below⟩

set_option maxRecDepth 100000 in
theorem rget_d (p : Option Addr) (n cap : Nat) (l : List Port) (k : Int) (w : World)
    (hsl : Sv w p l) (hn : n = l.length) (hb : n ≤ 1000)
    : Calls Try.prog 19 #[.agg #[.slice p n cap], .int .i64 k] w fun e w' => e = .returned (optV (getB l k)) ∧ Below w.heap.size w w' := by
  refine enter (Hs.start w) Try.func19 rfl Try.ntmps19 rfl ?_
  refine at_seq ?_
  refine am [] [1] (fun γ1 => [(2, .pointer (some ⟨γ1 0, 0, none⟩)), (4, .pointer (some ⟨γ1 1, 0, none⟩))]) (fun γ1 L => bx (γ1 1) (#[.int .i64 0, .int .i64 0, .int .i64 0, .bool false, .bool false]) 40 :: bx (γ1 0) (#[.slice p n cap]) 24 :: L) (fun γ1 => []) (fun _ => by kernel_rfl) (fun γ1 => al0) (fun γ1 => ?_)
  refine done_seq ?_
  refine at_seq ?_
  refine at_seq ?_
  refine at_ops ?_
  refine oq 2 [(0, .go (owns 1 0 1))] [2, 4] [(7, .agg #[.slice p n cap]), (8, .int .i64 k)] ([]) (fun _ => by kernel_rfl) al0 ?_
  rcases hg : getB l k with _ | y
  ·
    refine ops_callD (.int .i64 (-1)) (by kernel_rfl) (by kernel_rfl) (by kernel_rfl) (fun args w => Try.call34 args w) (fun w hw => by have := find_d p n cap l k w (hsl.kept hw.below) hn hb; rw [find_none hg] at this; exact this) ?_
    refine oq 1 [] [2, 4] [(6, .int .i64 (-1))] ([]) (fun _ => by kernel_rfl) al0 ?_
    refine ops_nil ?_
    refine done_seq ?_
    refine at_seq ?_
    refine aq [] [2, 4, 6] [(11, .bool false)] ([]) (fun _ => by kernel_rfl) al0 ?_
    refine done_seq ?_
    refine at_false (by kernel_rfl) ?_
    refine at_skip ?_
    refine done_seq ?_
    refine at_seq ?_
    refine aq [(1, .go (owns 0 0 5))] [4] [(5, .bool false)] ([]) (fun _ => by kernel_rfl) al0 ?_
    refine done_seq ?_
    refine at_return (owns 0 0 5) (.tuple #[.agg #[.int .i64 0, .int .i64 0, .int .i64 0, .bool false, .bool false], .bool false]) [] (by kernel_rfl) (by kernel_rfl) al0 ?_
    exact fun w' hw => ⟨rfl, hw.below⟩
  ·
    obtain ⟨jf, hjf, hyf, _⟩ := find_some hg
    have hjn : jf < l.length := (List.getElem?_eq_some_iff.1 hyf).1
    refine ops_callD (.int .i64 ((jf : Nat))) (by kernel_rfl) (by kernel_rfl) (by kernel_rfl) (fun args w => Try.call34 args w) (fun w hw => by have := find_d p n cap l k w (hsl.kept hw.below) hn hb; rw [hjf] at this; exact this) ?_
    refine oq 1 [] [2, 4] [(6, .int .i64 ((jf : Nat)))] ([]) (fun _ => by kernel_rfl) al0 ?_
    refine ops_nil ?_
    refine done_seq ?_
    refine at_seq ?_
    refine aq [(1, .yes)] [2, 4, 6] [(11, .bool true)] ([((jf : Nat) : Int) ≥ (0 : Int)]) (fun _ => by kernel_rfl) (al1 ((by omega))) ?_
    refine done_seq ?_
    refine at_true (by kernel_rfl) ?_
    refine at_seq ?_
    obtain ⟨b9, o9, rfl⟩ := hsl.pos (i := jf) (by omega)
    refine am [(1, .go (owns 1 0 1)), (3, .at b9 o9 jf), (4, .go (outs b9 (o9 + jf * 5) [.int .i64 y.num, .int .i64 y.vcpu, .int .i64 y.peer, .bool y.pending, .bool y.masked])), (5, .go (owns 0 0 5))] [4] (fun _ => [(5, .bool true)]) (fun _ L => (L.set 0 (bx (γ1 1) (#[.int .i64 y.num, .int .i64 y.vcpu, .int .i64 y.peer, .bool y.pending, .bool y.masked]) 40))) (fun _ => [(some ⟨b9, o9, none⟩ : Option Addr) = some ⟨b9, o9, none⟩, ((jf : Nat)) = ((jf : Nat) : Int), jf < n] ++ (cellsP w b9 (o9 + jf * 5) [.int .i64 y.num, .int .i64 y.vcpu, .int .i64 y.peer, .bool y.pending, .bool y.masked])) (fun _ => by kernel_rfl) (fun _ => (alA (al2 rfl (al2 rfl (al1 (by omega)))) (rd_pre (hsl.get hyf) _ rfl))) (fun _ => ?_)
    refine done_seq ?_
    refine at_return (owns 0 0 5) (.tuple #[.agg #[.int .i64 y.num, .int .i64 y.vcpu, .int .i64 y.peer, .bool y.pending, .bool y.masked], .bool true]) [] (by kernel_rfl) (by kernel_rfl) al0 ?_
    exact fun w' hw => ⟨rfl, hw.below⟩
end Go.Proofs.Ytfhlmijdokfdpaa

/-! The layer's readers. -/
namespace Go.Proofs.Ytfhlmijdokfdpaa
open Go Go.RowKit

set_option maxRecDepth 100000 in
theorem get_d (p : Option Addr) (n cap : Nat) (l : List Port) (k : Int) (w : World)
 (hsl : Sv w p l) (hn : n = l.length) (hb : n ≤ 1000)
 : Calls Try.prog 18 #[.agg #[.slice p n cap], .int .i64 k] w fun e w' => e = .returned (optV (eGet l k)) ∧ Below w.heap.size w w' := by
 refine enter (Hs.start w) Try.func18 rfl Try.ntmps18 rfl ?_
 refine at_seq ?_
 refine am [] [1] (fun γ1 => [(2, .pointer (some ⟨γ1 0, 0, none⟩)), (4, .pointer (some ⟨γ1 1, 0, none⟩))]) (fun γ1 L => bx (γ1 1) (#[.int .i64 0, .int .i64 0, .int .i64 0, .bool false, .bool false]) 40 :: bx (γ1 0) (#[.slice p n cap]) 24 :: L) (fun γ1 => []) (fun _ => by kernel_rfl) (fun γ1 => al0) (fun γ1 => ?_)
 refine done_seq ?_
 refine at_seq ?_
 refine at_seq ?_
 refine at_ops ?_
 refine oq 1 [(0, .go (owns 1 0 1))] [1, 2, 4] [(7, .agg #[.slice p n cap])] ([]) (fun _ => by kernel_rfl) al0 ?_
 rcases q3 : rightB l with _ | _
 ·
  refine ops_callD (.int .i64 260) (by kernel_rfl) (by kernel_rfl) (by kernel_rfl) (fun args w => Try.call16 args w) (fun w hw => by have := check_d p n cap l w (hsl.kept hw.below) hn hb; rw [q3] at this; exact this) ?_
  refine oq 1 [] [1, 2, 4] [(9, .bool true)] ([]) (fun _ => by kernel_rfl) al0 ?_
  refine ops_nil ?_
  refine done_seq ?_
  refine at_true (by kernel_rfl) ?_
  refine at_seq ?_
  refine aq [(1, .go (owns 0 0 5))] [4] [(5, .bool false)] ([]) (fun _ => by kernel_rfl) al0 ?_
  refine done_seq ?_
  refine at_return (owns 0 0 5) (.tuple #[.agg #[.int .i64 0, .int .i64 0, .int .i64 0, .bool false, .bool false], .bool false]) [] (by kernel_rfl) (by kernel_rfl) al0 ?_
  exact fun w' hw => ⟨by simp [eGet, optV, q3], hw.below⟩
 ·
  refine ops_callD (.int .i64 0) (by kernel_rfl) (by kernel_rfl) (by kernel_rfl) (fun args w => Try.call16 args w) (fun w hw => by have := check_d p n cap l w (hsl.kept hw.below) hn hb; rw [q3] at this; exact this) ?_
  refine oq 1 [] [1, 2, 4] [(9, .bool false)] ([]) (fun _ => by kernel_rfl) al0 ?_
  refine ops_nil ?_
  refine done_seq ?_
  refine at_false (by kernel_rfl) ?_
  refine at_skip ?_
  refine done_seq ?_
  refine at_seq ?_
  refine at_ops ?_
  refine oq 3 [(1, .go (owns 1 0 1))] [4] [(12, .slice p n cap), (13, .int .i64 k)] ([]) (fun _ => by kernel_rfl) al0 ?_
  rcases hg : getB l k with _ | y
  ·
   refine ops_callD (.pointer none) (by kernel_rfl) (by kernel_rfl) (by kernel_rfl) (fun args w => Try.call32 args w) (fun w hw => by have := port_d p n cap l k w (hsl.kept hw.below) hn hb (ris_all (right_ris q3)) (ris_asc l 0 (right_ris q3)); rw [portV_none hg] at this; exact this) ?_
   refine oq 1 [] [4] [(6, .pointer none)] ([]) (fun _ => by kernel_rfl) al0 ?_
   refine ops_nil ?_
   refine done_seq ?_
   refine at_seq ?_
   refine at_seq ?_
   refine aq [] [4, 6] [(16, .bool true)] ([]) (fun _ => by kernel_rfl) al0 ?_
   refine done_seq ?_
   refine at_true (by kernel_rfl) ?_
   refine at_seq ?_
   refine aq [(1, .go (owns 0 0 5))] [4] [(5, .bool false)] ([]) (fun _ => by kernel_rfl) al0 ?_
   refine done_seq ?_
   refine at_return (owns 0 0 5) (.tuple #[.agg #[.int .i64 0, .int .i64 0, .int .i64 0, .bool false, .bool false], .bool false]) [] (by kernel_rfl) (by kernel_rfl) al0 ?_
   exact fun w' hw => ⟨by simp [eGet, optV, q3, hg], hw.below⟩
  ·
   obtain ⟨hy1, hy2⟩ := get_pos (ris_asc l 0 (right_ris q3)) hg
   obtain ⟨b11, o11, rfl⟩ := hsl.pos (i := posB l k) hy2
   refine ops_callD (.pointer (some ⟨b11, o11 + (posB l k) * 5, none⟩)) (by kernel_rfl) (by kernel_rfl) (by kernel_rfl) (fun args w => Try.call32 args w) (fun w hw => by have := port_d (some ⟨b11, o11, none⟩) n cap l k w (hsl.kept hw.below) hn hb (ris_all (right_ris q3)) (ris_asc l 0 (right_ris q3)); rw [portV_some hg] at this; exact this) ?_
   refine oq 1 [] [4] [(6, .pointer (some ⟨b11, o11 + (posB l k) * 5, none⟩))] ([]) (fun _ => by kernel_rfl) al0 ?_
   refine ops_nil ?_
   refine done_seq ?_
   refine at_seq ?_
   refine at_seq ?_
   refine aq [] [4, 6] [(16, .bool false)] ([]) (fun _ => by kernel_rfl) al0 ?_
   refine done_seq ?_
   refine at_false (by kernel_rfl) ?_
   refine at_skip ?_
   refine done_seq ?_
   refine at_seq ?_
   refine am [(2, .go (outs b11 (o11 + (posB l k) * 5) [.int .i64 y.num, .int .i64 y.vcpu, .int .i64 y.peer, .bool y.pending, .bool y.masked])), (3, .go (owns 0 0 5))] [4] (fun _ => [(5, .bool true)]) (fun _ L => (L.set 0 (bx (γ1 1) (#[.int .i64 y.num, .int .i64 y.vcpu, .int .i64 y.peer, .bool y.pending, .bool y.masked]) 40))) (fun _ => cellsP w b11 (o11 + (posB l k) * 5) [.int .i64 y.num, .int .i64 y.vcpu, .int .i64 y.peer, .bool y.pending, .bool y.masked]) (fun _ => by kernel_rfl) (fun _ => (rd_pre (hsl.get hy1) _ rfl)) (fun _ => ?_)
   refine done_seq ?_
   refine at_return (owns 0 0 5) (.tuple #[.agg #[.int .i64 y.num, .int .i64 y.vcpu, .int .i64 y.peer, .bool y.pending, .bool y.masked], .bool true]) [] (by kernel_rfl) (by kernel_rfl) al0 ?_
   exact fun w' hw => ⟨by simp [eGet, optV, q3, hg], hw.below⟩

set_option maxRecDepth 100000 in
theorem poll_d (p : Option Addr) (n cap : Nat) (l : List Port) (own : Int) (pn : Option Addr) (m capn : Nat) (ns : List Int) (w : World)
 (hsl : Sv w p l) (hn : n = l.length) (hb : n ≤ 1000)
 (hns : Sv w pn ns) (hm : m = ns.length) (hmb : m ≤ 1000)
 : Calls Try.prog 12 #[.agg #[.slice p n cap], .int .i64 own, .slice pn m capn] w fun e w' => e = .returned (.tuple #[.bool (pollV l own ns).1, .int .i64 (pollV l own ns).2]) ∧ Below w.heap.size w w' := by
 refine enter (Hs.start w) Try.func12 rfl Try.ntmps12 rfl ?_
 refine at_seq ?_
 refine am [] [1, 2] (fun γ1 => [(3, .pointer (some ⟨γ1 0, 0, none⟩))]) (fun γ1 L => bx (γ1 0) (#[.slice p n cap]) 24 :: L) (fun γ1 => []) (fun _ => by kernel_rfl) (fun γ1 => al0) (fun γ1 => ?_)
 refine done_seq ?_
 refine at_seq ?_
 refine at_seq ?_
 refine at_ops ?_
 refine oq 1 [(0, .go (owns 0 0 1))] [1, 2, 3] [(14, .agg #[.slice p n cap])] ([]) (fun _ => by kernel_rfl) al0 ?_
 rcases q3 : rightB l with _ | _
 ·
  refine ops_callD (.int .i64 260) (by kernel_rfl) (by kernel_rfl) (by kernel_rfl) (fun args w => Try.call16 args w) (fun w hw => by have := check_d p n cap l w (hsl.kept hw.below) hn hb; rw [q3] at this; exact this) ?_
  refine oq 1 [] [1, 2, 3] [(8, .int .i64 260)] ([]) (fun _ => by kernel_rfl) al0 ?_
  refine ops_nil ?_
  refine done_seq ?_
  refine at_seq ?_
  refine aq [] [1, 2, 3, 8] [(17, .bool true)] ([]) (fun _ => by kernel_rfl) al0 ?_
  refine done_seq ?_
  refine at_true (by kernel_rfl) ?_
  refine at_seq ?_
  refine aq [] [] [(6, .bool false), (7, .int .i64 260)] ([]) (fun _ => by kernel_rfl) al0 ?_
  refine done_seq ?_
  refine at_return ([]) (.tuple #[.bool false, .int .i64 260]) [] (by kernel_rfl) (by kernel_rfl) al0 ?_
  exact fun w' hw => ⟨by simp [pollV, q3], hw.below⟩
 ·
  refine ops_callD (.int .i64 0) (by kernel_rfl) (by kernel_rfl) (by kernel_rfl) (fun args w => Try.call16 args w) (fun w hw => by have := check_d p n cap l w (hsl.kept hw.below) hn hb; rw [q3] at this; exact this) ?_
  refine oq 1 [] [1, 2, 3] [(8, .int .i64 0)] ([]) (fun _ => by kernel_rfl) al0 ?_
  refine ops_nil ?_
  refine done_seq ?_
  refine at_seq ?_
  refine aq [] [1, 2, 3, 8] [(17, .bool false)] ([]) (fun _ => by kernel_rfl) al0 ?_
  refine done_seq ?_
  refine at_false (by kernel_rfl) ?_
  refine at_skip ?_
  refine done_seq ?_
  refine at_seq ?_
  refine at_seq ?_
  refine at_ops ?_
  refine oq 1 [] [1, 2, 3] [(19, .int .i64 own)] ([]) (fun _ => by kernel_rfl) al0 ?_
  rcases q10 : vcpuB own with _ | _
  ·
   refine ops_callD (.bool false) (by kernel_rfl) (by kernel_rfl) (by kernel_rfl) (fun args w => Try.call31 args w) (fun w hw => by have := vcpu_d own w; rw [q10] at this; exact this) ?_
   refine oq 11 [] [1, 2, 3] [(31, .bool true)] ([]) (fun _ => by kernel_rfl) al0 ?_
   refine ops_nil ?_
   refine done_seq ?_
   refine at_true (by kernel_rfl) ?_
   refine at_seq ?_
   refine aq [] [] [(6, .bool false), (7, .int .i64 2)] ([]) (fun _ => by kernel_rfl) al0 ?_
   refine done_seq ?_
   refine at_return ([]) (.tuple #[.bool false, .int .i64 2]) [] (by kernel_rfl) (by kernel_rfl) al0 ?_
   exact fun w' hw => ⟨by rw [pollV_no (by assumption) (by rintro ⟨a, b, c⟩; first | omega | simp_all)], hw.below⟩
  ·
   refine ops_callD (.bool true) (by kernel_rfl) (by kernel_rfl) (by kernel_rfl) (fun args w => Try.call31 args w) (fun w hw => by have := vcpu_d own w; rw [q10] at this; exact this) ?_
   by_cases q14 : ((m : Nat) : Int) < (1 : Int)
   ·
    refine oq 11 [(6, .yes)] [1, 2, 3] [(31, .bool true)] ([((m : Nat) : Int) < (1 : Int)]) (fun _ => by kernel_rfl) (al1 q14) ?_
    refine ops_nil ?_
    refine done_seq ?_
    refine at_true (by kernel_rfl) ?_
    refine at_seq ?_
    refine aq [] [] [(6, .bool false), (7, .int .i64 2)] ([]) (fun _ => by kernel_rfl) al0 ?_
    refine done_seq ?_
    refine at_return ([]) (.tuple #[.bool false, .int .i64 2]) [] (by kernel_rfl) (by kernel_rfl) al0 ?_
    exact fun w' hw => ⟨by rw [pollV_no (by assumption) (by rintro ⟨a, b, c⟩; first | omega | simp_all)], hw.below⟩
   ·
    by_cases q18 : ((m : Nat) : Int) > (32 : Int)
    ·
     refine oq 11 [(6, .no), (11, .yes)] [1, 2, 3] [(31, .bool true)] ([¬ (((m : Nat) : Int) < (1 : Int))] ++ ([((m : Nat) : Int) > (32 : Int)])) (fun _ => by kernel_rfl) (alA (al1 q14) (al1 q18)) ?_
     refine ops_nil ?_
     refine done_seq ?_
     refine at_true (by kernel_rfl) ?_
     refine at_seq ?_
     refine aq [] [] [(6, .bool false), (7, .int .i64 2)] ([]) (fun _ => by kernel_rfl) al0 ?_
     refine done_seq ?_
     refine at_return ([]) (.tuple #[.bool false, .int .i64 2]) [] (by kernel_rfl) (by kernel_rfl) al0 ?_
     exact fun w' hw => ⟨by rw [pollV_no (by assumption) (by rintro ⟨a, b, c⟩; first | omega | simp_all)], hw.below⟩
    ·
     refine oq 11 [(6, .no), (11, .no)] [1, 2, 3] [(31, .bool false)] ([¬ (((m : Nat) : Int) < (1 : Int))] ++ ([¬ (((m : Nat) : Int) > (32 : Int))])) (fun _ => by kernel_rfl) (alA (al1 q14) (al1 q18)) ?_
     refine ops_nil ?_
     refine done_seq ?_
     refine at_false (by kernel_rfl) ?_
     refine at_skip ?_
     refine done_seq ?_
     refine at_seq ?_
     refine aq [] [1, 2, 3] [(9, .bool false), (10, .int .i64 0)] ([]) (fun _ => by kernel_rfl) al0 ?_
     refine done_seq ?_
     refine at_seq ?_
     refine at_seq ?_
     refine aq [] [1, 3, 9, 10] [(32, .slice pn m capn), (33, .int .i64 ((m : Nat))), (34, .int .i64 0)] ([]) (fun _ => by kernel_rfl) al0 ?_
     refine done_seq ?_
     refine at_block ?_
     refine at_loop (α := Nat × Bool × Int) [1, 3, 9, 10, 32, 33, 34] (fun ⟨j, pd, e⟩ => [(1, .int .i64 own), (3, .pointer (some ⟨γ1 0, 0, none⟩)), (9, .bool pd), (10, .int .i64 e), (32, .slice pn m capn), (33, .int .i64 ((m : Nat))), (34, .int .i64 ((j : Nat)))]) (fun ⟨j, pd, e⟩ => [bx (γ1 0) (#[.slice p n cap]) 24]) (fun ⟨j, pd, e⟩ => j ≤ m ∧ pollGo l own (ns.drop j) pd e = pollGo l own ns false 0) (fun ⟨j, pd, e⟩ => m - j) (0, false, 0) (by kernel_rfl) rfl ⟨Nat.zero_le _, rfl⟩ ?_
     rintro ⟨j, pd, e⟩
     rintro ⟨hj, hI⟩
     refine at_seq ?_
     by_cases q25 : ((j : Nat) : Int) < ((m : Nat) : Int)
     ·
      refine aq [(0, .yes)] [1, 3, 9, 10, 32, 33, 34] [(35, .bool true)] ([((j : Nat) : Int) < ((m : Nat) : Int)]) (fun _ => by kernel_rfl) (al1 q25) ?_
      refine done_seq ?_
      refine at_seq ?_
      refine at_true (by kernel_rfl) ?_
      refine at_skip ?_
      refine done_seq ?_
      refine at_seq ?_
      refine at_block ?_
      refine at_seq ?_
      obtain ⟨b28, o28, rfl⟩ := hns.pos (i := j) (by omega)
      obtain ⟨x30, hx30⟩ := get_some (l := ns) (m := j) (by omega)
      refine aq [(0, .at b28 o28 j), (1, .go (outs b28 (o28 + j * 1) [.int .i64 x30]))] [1, 3, 9, 10, 32, 33, 34] [(12, .int .i64 x30)] ([(some ⟨b28, o28, none⟩ : Option Addr) = some ⟨b28, o28, none⟩, ((j : Nat)) = ((j : Nat) : Int), j < m] ++ (cellsP w b28 (o28 + j * 1) [.int .i64 x30])) (fun _ => by kernel_rfl) (alA (al2 rfl (al2 rfl (al1 (by omega)))) (rd_pre (hns.get hx30) _ rfl)) ?_
      refine done_seq ?_
      refine at_seq ?_
      refine at_ops ?_
      refine oq 3 [(1, .go (owns 0 0 1))] [1, 3, 9, 10, 32, 33, 34] [(39, .slice p n cap), (40, .int .i64 x30)] ([]) (fun _ => by kernel_rfl) al0 ?_
      rcases hg : getB l x30 with _ | y
      ·
       refine ops_callD (.pointer none) (by kernel_rfl) (by kernel_rfl) (by kernel_rfl) (fun args w => Try.call32 args w) (fun w hw => by have := port_d p n cap l x30 w (hsl.kept hw.below) hn hb (ris_all (right_ris q3)) (ris_asc l 0 (right_ris q3)); rw [portV_none hg] at this; exact this) ?_
       refine oq 1 [] [1, 3, 9, 10, 32, 33, 34] [(13, .pointer none)] ([]) (fun _ => by kernel_rfl) al0 ?_
       refine ops_nil ?_
       refine done_seq ?_
       refine at_seq ?_
       refine at_seq ?_
       refine aq [] [1, 3, 9, 10, 13, 32, 33, 34] [(43, .bool true)] ([]) (fun _ => by kernel_rfl) al0 ?_
       refine done_seq ?_
       refine at_true (by kernel_rfl) ?_
       refine at_seq ?_
       refine aq [] [] [(6, .bool false), (7, .int .i64 4)] ([]) (fun _ => by kernel_rfl) al0 ?_
       refine done_seq ?_
       refine at_return ([]) (.tuple #[.bool false, .int .i64 4]) [] (by kernel_rfl) (by kernel_rfl) al0 ?_
       exact fun w' hw => ⟨by rw [pollV_of (by assumption) (by assumption) (by omega) (by omega), ← hI, drop_cons hx30]; simp [pollGo, hg], hw.below⟩
      ·
       obtain ⟨hy1, hy2⟩ := get_pos (ris_asc l 0 (right_ris q3)) hg
       obtain ⟨b36, o36, rfl⟩ := hsl.pos (i := posB l x30) hy2
       refine ops_callD (.pointer (some ⟨b36, o36 + (posB l x30) * 5, none⟩)) (by kernel_rfl) (by kernel_rfl) (by kernel_rfl) (fun args w => Try.call32 args w) (fun w hw => by have := port_d (some ⟨b36, o36, none⟩) n cap l x30 w (hsl.kept hw.below) hn hb (ris_all (right_ris q3)) (ris_asc l 0 (right_ris q3)); rw [portV_some hg] at this; exact this) ?_
       refine oq 1 [] [1, 3, 9, 10, 32, 33, 34] [(13, .pointer (some ⟨b36, o36 + (posB l x30) * 5, none⟩))] ([]) (fun _ => by kernel_rfl) al0 ?_
       refine ops_nil ?_
       refine done_seq ?_
       refine at_seq ?_
       refine at_seq ?_
       refine aq [] [1, 3, 9, 10, 13, 32, 33, 34] [(43, .bool false)] ([]) (fun _ => by kernel_rfl) al0 ?_
       refine done_seq ?_
       refine at_false (by kernel_rfl) ?_
       refine at_skip ?_
       refine done_seq ?_
       refine at_seq ?_
       refine at_seq ?_
       by_cases q40 : (y.vcpu : Int) ≠ (own : Int)
       ·
        refine aq [(3, .go (outs b36 (o36 + (posB l x30) * 5 + 1) [.int .i64 y.vcpu])), (5, .yes)] [1, 3, 9, 10, 13, 32, 33, 34] [(49, .bool true)] (cellsP w b36 (o36 + (posB l x30) * 5 + 1) [.int .i64 y.vcpu] ++ ([(y.vcpu : Int) ≠ (own : Int)])) (fun _ => by kernel_rfl) (alA (rd_part (hsl.get hy1) 1 _ rfl) (al1 q40)) ?_
        refine done_seq ?_
        refine at_true (by kernel_rfl) ?_
        refine aq [] [1, 3, 9, 13, 32, 33, 34] [(10, .int .i64 2)] ([]) (fun _ => by kernel_rfl) al0 ?_
        refine done_seq ?_
        rcases q44 : pd with _ | _
        ·
         refine aq [(5, .go (outs b36 (o36 + (posB l x30) * 5 + 3) [.bool y.pending]))] [1, 3, 10, 32, 33, 34] [(9, .bool y.pending)] (cellsP w b36 (o36 + (posB l x30) * 5 + 3) [.bool y.pending]) (fun _ => by kernel_rfl) (rd_part (hsl.get hy1) 3 _ rfl) ?_
         refine done_block ?_
         refine done_seq ?_
         refine aq [(0, .fit)] [1, 3, 9, 10, 32, 33] [(34, .int .i64 ((j + 1 : Nat)))] ([Fit .i64 ((j + 1 : Nat))]) (fun _ => by kernel_rfl) (al1 (fit64 (by omega) (by omega))) ?_
         exact done_round [1, 3, 9, 10, 32, 33, 34] (j + 1, y.pending, 2) (by kernel_rfl) rfl ⟨by omega, by rw [← hI, drop_cons hx30]; simp only [pollGo, hg]; rw [if_neg (by omega)]; simp [q44]⟩ (by first | omega | (simp only; omega))
        ·
         refine aq [] [1, 3, 10, 32, 33, 34] [(9, .bool true)] ([]) (fun _ => by kernel_rfl) al0 ?_
         refine done_block ?_
         refine done_seq ?_
         refine aq [(0, .fit)] [1, 3, 9, 10, 32, 33] [(34, .int .i64 ((j + 1 : Nat)))] ([Fit .i64 ((j + 1 : Nat))]) (fun _ => by kernel_rfl) (al1 (fit64 (by omega) (by omega))) ?_
         exact done_round [1, 3, 9, 10, 32, 33, 34] (j + 1, true, 2) (by kernel_rfl) rfl ⟨by omega, by rw [← hI, drop_cons hx30]; simp only [pollGo, hg]; rw [if_neg (by omega)]; simp [q44]⟩ (by first | omega | (simp only; omega))
       ·
        refine aq [(3, .go (outs b36 (o36 + (posB l x30) * 5 + 1) [.int .i64 y.vcpu])), (5, .no)] [1, 3, 9, 10, 13, 32, 33, 34] [(49, .bool false)] (cellsP w b36 (o36 + (posB l x30) * 5 + 1) [.int .i64 y.vcpu] ++ ([¬ ((y.vcpu : Int) ≠ (own : Int))])) (fun _ => by kernel_rfl) (alA (rd_part (hsl.get hy1) 1 _ rfl) (al1 q40)) ?_
        refine done_seq ?_
        refine at_false (by kernel_rfl) ?_
        refine at_skip ?_
        refine done_seq ?_
        rcases q51 : pd with _ | _
        ·
         refine aq [(5, .go (outs b36 (o36 + (posB l x30) * 5 + 3) [.bool y.pending]))] [1, 3, 10, 32, 33, 34] [(9, .bool y.pending)] (cellsP w b36 (o36 + (posB l x30) * 5 + 3) [.bool y.pending]) (fun _ => by kernel_rfl) (rd_part (hsl.get hy1) 3 _ rfl) ?_
         refine done_block ?_
         refine done_seq ?_
         refine aq [(0, .fit)] [1, 3, 9, 10, 32, 33] [(34, .int .i64 ((j + 1 : Nat)))] ([Fit .i64 ((j + 1 : Nat))]) (fun _ => by kernel_rfl) (al1 (fit64 (by omega) (by omega))) ?_
         exact done_round [1, 3, 9, 10, 32, 33, 34] (j + 1, y.pending, e) (by kernel_rfl) rfl ⟨by omega, by rw [← hI, drop_cons hx30]; simp only [pollGo, hg]; rw [if_pos (by omega)]; simp [q51]⟩ (by first | omega | (simp only; omega))
        ·
         refine aq [] [1, 3, 10, 32, 33, 34] [(9, .bool true)] ([]) (fun _ => by kernel_rfl) al0 ?_
         refine done_block ?_
         refine done_seq ?_
         refine aq [(0, .fit)] [1, 3, 9, 10, 32, 33] [(34, .int .i64 ((j + 1 : Nat)))] ([Fit .i64 ((j + 1 : Nat))]) (fun _ => by kernel_rfl) (al1 (fit64 (by omega) (by omega))) ?_
         exact done_round [1, 3, 9, 10, 32, 33, 34] (j + 1, true, e) (by kernel_rfl) rfl ⟨by omega, by rw [← hI, drop_cons hx30]; simp only [pollGo, hg]; rw [if_pos (by omega)]; simp [q51]⟩ (by first | omega | (simp only; omega))
     ·
      refine aq [(0, .no)] [1, 3, 9, 10, 32, 33, 34] [(35, .bool false)] ([¬ (((j : Nat) : Int) < ((m : Nat) : Int))]) (fun _ => by kernel_rfl) (al1 q25) ?_
      refine done_seq ?_
      refine at_seq ?_
      refine at_false (by kernel_rfl) ?_
      refine at_leave _ (by rfl) ?_
      refine done_seq ?_
      refine at_seq ?_
      rcases q58 : pd with _ | _
      ·
       refine aq [] [] [(6, .bool false), (7, .int .i64 e)] ([]) (fun _ => by kernel_rfl) al0 ?_
       refine done_seq ?_
       refine at_return ([]) (.tuple #[.bool false, .int .i64 e]) [] (by kernel_rfl) (by kernel_rfl) al0 ?_
       exact fun w' hw => ⟨by rw [pollV_of (by assumption) (by assumption) (by omega) (by omega), ← hI, List.drop_of_length_le (by omega)]; simp [pollGo, *], hw.below⟩
      ·
       by_cases q61 : (e : Int) = (0 : Int)
       ·
        refine aq [(3, .yes)] [] [(6, .bool true), (7, .int .i64 e)] ([(e : Int) = (0 : Int)]) (fun _ => by kernel_rfl) (al1 q61) ?_
        refine done_seq ?_
        refine at_return ([]) (.tuple #[.bool true, .int .i64 e]) [] (by kernel_rfl) (by kernel_rfl) al0 ?_
        exact fun w' hw => ⟨by rw [pollV_of (by assumption) (by assumption) (by omega) (by omega), ← hI, List.drop_of_length_le (by omega)]; simp [pollGo, *], hw.below⟩
       ·
        refine aq [(3, .no)] [] [(6, .bool false), (7, .int .i64 e)] ([¬ ((e : Int) = (0 : Int))]) (fun _ => by kernel_rfl) (al1 q61) ?_
        refine done_seq ?_
        refine at_return ([]) (.tuple #[.bool false, .int .i64 e]) [] (by kernel_rfl) (by kernel_rfl) al0 ?_
        exact fun w' hw => ⟨by rw [pollV_of (by assumption) (by assumption) (by omega) (by omega), ← hI, List.drop_of_length_le (by omega)]; simp [pollGo, *], hw.below⟩
end Go.Proofs.Ytfhlmijdokfdpaa

/-! Polls of the reference; the same rows. -/
namespace Go.Proofs.Ytfhlmijdokfdpaa
open Go Go.RowKit

set_option maxRecDepth 100000 in
theorem rpoll_d (p : Option Addr) (n cap : Nat) (l : List Port) (own : Int) (pn : Option Addr) (m capn : Nat) (ns : List Int) (w : World)
 (hsl : Sv w p l) (hn : n = l.length) (hb : n ≤ 1000)
 (hns : Sv w pn ns) (hm : m = ns.length) (hmb : m ≤ 1000)
 : Calls Try.prog 14 #[.agg #[.slice p n cap], .int .i64 own, .slice pn m capn] w fun e w' => e = .returned (.tuple #[.bool (rpollV l own ns).1, .int .i64 (rpollV l own ns).2]) ∧ Below w.heap.size w w' := by
 refine enter (Hs.start w) Try.func14 rfl Try.ntmps14 rfl ?_
 refine at_seq ?_
 refine am [] [1, 2] (fun γ1 => [(3, .pointer (some ⟨γ1 0, 0, none⟩))]) (fun γ1 L => bx (γ1 0) (#[.slice p n cap]) 24 :: L) (fun γ1 => []) (fun _ => by kernel_rfl) (fun γ1 => al0) (fun γ1 => ?_)
 refine done_seq ?_
 refine at_seq ?_
 refine at_seq ?_
 refine at_ops ?_
 refine oq 1 [] [1, 2, 3] [(14, .int .i64 own)] ([]) (fun _ => by kernel_rfl) al0 ?_
 rcases q3 : vcpuB own with _ | _
 ·
  refine ops_callD (.bool false) (by kernel_rfl) (by kernel_rfl) (by kernel_rfl) (fun args w => Try.call33 args w) (fun w hw => by have := rvcpu_d own w; rw [q3] at this; exact this) ?_
  refine oq 11 [] [1, 2, 3] [(26, .bool true)] ([]) (fun _ => by kernel_rfl) al0 ?_
  refine ops_nil ?_
  refine done_seq ?_
  refine at_true (by kernel_rfl) ?_
  refine at_seq ?_
  refine aq [] [] [(6, .bool false), (7, .int .i64 2)] ([]) (fun _ => by kernel_rfl) al0 ?_
  refine done_seq ?_
  refine at_return ([]) (.tuple #[.bool false, .int .i64 2]) [] (by kernel_rfl) (by kernel_rfl) al0 ?_
  exact fun w' hw => ⟨by rw [rpollV_no (by rintro ⟨a, b, c⟩; first | omega | simp_all)], hw.below⟩
 ·
  refine ops_callD (.bool true) (by kernel_rfl) (by kernel_rfl) (by kernel_rfl) (fun args w => Try.call33 args w) (fun w hw => by have := rvcpu_d own w; rw [q3] at this; exact this) ?_
  by_cases q7 : ((m : Nat) : Int) < (1 : Int)
  ·
   refine oq 11 [(6, .yes)] [1, 2, 3] [(26, .bool true)] ([((m : Nat) : Int) < (1 : Int)]) (fun _ => by kernel_rfl) (al1 q7) ?_
   refine ops_nil ?_
   refine done_seq ?_
   refine at_true (by kernel_rfl) ?_
   refine at_seq ?_
   refine aq [] [] [(6, .bool false), (7, .int .i64 2)] ([]) (fun _ => by kernel_rfl) al0 ?_
   refine done_seq ?_
   refine at_return ([]) (.tuple #[.bool false, .int .i64 2]) [] (by kernel_rfl) (by kernel_rfl) al0 ?_
   exact fun w' hw => ⟨by rw [rpollV_no (by rintro ⟨a, b, c⟩; first | omega | simp_all)], hw.below⟩
  ·
   by_cases q11 : ((m : Nat) : Int) > (32 : Int)
   ·
    refine oq 11 [(6, .no), (11, .yes)] [1, 2, 3] [(26, .bool true)] ([¬ (((m : Nat) : Int) < (1 : Int))] ++ ([((m : Nat) : Int) > (32 : Int)])) (fun _ => by kernel_rfl) (alA (al1 q7) (al1 q11)) ?_
    refine ops_nil ?_
    refine done_seq ?_
    refine at_true (by kernel_rfl) ?_
    refine at_seq ?_
    refine aq [] [] [(6, .bool false), (7, .int .i64 2)] ([]) (fun _ => by kernel_rfl) al0 ?_
    refine done_seq ?_
    refine at_return ([]) (.tuple #[.bool false, .int .i64 2]) [] (by kernel_rfl) (by kernel_rfl) al0 ?_
    exact fun w' hw => ⟨by rw [rpollV_no (by rintro ⟨a, b, c⟩; first | omega | simp_all)], hw.below⟩
   ·
    refine oq 11 [(6, .no), (11, .no)] [1, 2, 3] [(26, .bool false)] ([¬ (((m : Nat) : Int) < (1 : Int))] ++ ([¬ (((m : Nat) : Int) > (32 : Int))])) (fun _ => by kernel_rfl) (alA (al1 q7) (al1 q11)) ?_
    refine ops_nil ?_
    refine done_seq ?_
    refine at_false (by kernel_rfl) ?_
    refine at_skip ?_
    refine done_seq ?_
    refine at_seq ?_
    refine aq [] [1, 2, 3] [(8, .bool false), (9, .bool true)] ([]) (fun _ => by kernel_rfl) al0 ?_
    refine done_seq ?_
    refine at_seq ?_
    refine at_seq ?_
    refine aq [] [1, 3, 8, 9] [(27, .slice pn m capn), (28, .int .i64 ((m : Nat))), (29, .int .i64 0)] ([]) (fun _ => by kernel_rfl) al0 ?_
    refine done_seq ?_
    refine at_block ?_
    refine at_loop (α := Nat × Bool × Bool) [1, 3, 8, 9, 27, 28, 29] (fun ⟨j, pd, ow⟩ => [(1, .int .i64 own), (3, .pointer (some ⟨γ1 0, 0, none⟩)), (8, .bool pd), (9, .bool ow), (27, .slice pn m capn), (28, .int .i64 ((m : Nat))), (29, .int .i64 ((j : Nat)))]) (fun ⟨j, pd, ow⟩ => [bx (γ1 0) (#[.slice p n cap]) 24]) (fun ⟨j, pd, ow⟩ => j ≤ m ∧ rpollGo l own (ns.drop j) pd ow = rpollGo l own ns false true) (fun ⟨j, pd, ow⟩ => m - j) (0, false, true) (by kernel_rfl) rfl ⟨Nat.zero_le _, rfl⟩ ?_
    rintro ⟨j, pd, ow⟩
    rintro ⟨hj, hI⟩
    refine at_seq ?_
    by_cases q18 : ((j : Nat) : Int) < ((m : Nat) : Int)
    ·
     refine aq [(0, .yes)] [1, 3, 8, 9, 27, 28, 29] [(30, .bool true)] ([((j : Nat) : Int) < ((m : Nat) : Int)]) (fun _ => by kernel_rfl) (al1 q18) ?_
     refine done_seq ?_
     refine at_seq ?_
     refine at_true (by kernel_rfl) ?_
     refine at_skip ?_
     refine done_seq ?_
     refine at_seq ?_
     refine at_block ?_
     refine at_seq ?_
     obtain ⟨b21, o21, rfl⟩ := hns.pos (i := j) (by omega)
     obtain ⟨x23, hx23⟩ := get_some (l := ns) (m := j) (by omega)
     refine aq [(0, .at b21 o21 j), (1, .go (outs b21 (o21 + j * 1) [.int .i64 x23]))] [1, 3, 8, 9, 27, 28, 29] [(11, .int .i64 x23)] ([(some ⟨b21, o21, none⟩ : Option Addr) = some ⟨b21, o21, none⟩, ((j : Nat)) = ((j : Nat) : Int), j < m] ++ (cellsP w b21 (o21 + j * 1) [.int .i64 x23])) (fun _ => by kernel_rfl) (alA (al2 rfl (al2 rfl (al1 (by omega)))) (rd_pre (hns.get hx23) _ rfl)) ?_
     refine done_seq ?_
     refine at_seq ?_
     refine at_ops ?_
     refine oq 2 [(0, .go (owns 0 0 1))] [1, 3, 8, 9, 27, 28, 29] [(34, .agg #[.slice p n cap]), (35, .int .i64 x23)] ([]) (fun _ => by kernel_rfl) al0 ?_
     rcases hg : getB l x23 with _ | y
     ·
      refine ops_callD (.tuple #[.agg #[.int .i64 0, .int .i64 0, .int .i64 0, .bool false, .bool false], .bool false]) (by kernel_rfl) (by kernel_rfl) (by kernel_rfl) (fun args w => Try.call19 args w) (fun w hw => by have := rget_d p n cap l x23 w (hsl.kept hw.below) hn hb; rw [hg] at this; exact this) ?_
      refine om 6 [(7, .go (owns 0 0 5))] [1, 3, 8, 9, 27, 28, 29] (fun γ26 => [(12, .pointer (some ⟨γ26 0, 0, none⟩)), (13, .bool false)]) (fun γ26 L => bx (γ26 0) (#[.int .i64 0, .int .i64 0, .int .i64 0, .bool false, .bool false]) 40 :: L) (fun γ26 => []) (fun _ => by kernel_rfl) (fun γ26 => al0) (fun γ26 => ?_)
      refine ops_nil ?_
      refine done_seq ?_
      refine at_seq ?_
      refine at_seq ?_
      refine aq [] [1, 3, 8, 9, 12, 27, 28, 29] [(40, .bool true)] ([]) (fun _ => by kernel_rfl) al0 ?_
      refine done_seq ?_
      refine at_true (by kernel_rfl) ?_
      refine at_seq ?_
      refine aq [] [] [(6, .bool false), (7, .int .i64 4)] ([]) (fun _ => by kernel_rfl) al0 ?_
      refine done_seq ?_
      refine at_return ([]) (.tuple #[.bool false, .int .i64 4]) [] (by kernel_rfl) (by kernel_rfl) al0 ?_
      exact fun w' hw => ⟨by rw [rpollV_of (by assumption) (by omega) (by omega), ← hI, drop_cons hx23]; simp [rpollGo, hg], hw.below⟩
     ·
      refine ops_callD (.tuple #[.agg #[.int .i64 y.num, .int .i64 y.vcpu, .int .i64 y.peer, .bool y.pending, .bool y.masked], .bool true]) (by kernel_rfl) (by kernel_rfl) (by kernel_rfl) (fun args w => Try.call19 args w) (fun w hw => by have := rget_d p n cap l x23 w (hsl.kept hw.below) hn hb; rw [hg] at this; exact this) ?_
      refine om 6 [(7, .go (owns 0 0 5))] [1, 3, 8, 9, 27, 28, 29] (fun γ29 => [(12, .pointer (some ⟨γ29 0, 0, none⟩)), (13, .bool true)]) (fun γ29 L => bx (γ29 0) (#[.int .i64 y.num, .int .i64 y.vcpu, .int .i64 y.peer, .bool y.pending, .bool y.masked]) 40 :: L) (fun γ29 => []) (fun _ => by kernel_rfl) (fun γ29 => al0) (fun γ29 => ?_)
      refine ops_nil ?_
      refine done_seq ?_
      refine at_seq ?_
      refine at_seq ?_
      refine aq [] [1, 3, 8, 9, 12, 27, 28, 29] [(40, .bool false)] ([]) (fun _ => by kernel_rfl) al0 ?_
      refine done_seq ?_
      refine at_false (by kernel_rfl) ?_
      refine at_skip ?_
      refine done_seq ?_
      rcases q32 : pd with _ | _
      ·
       rcases q34 : ow with _ | _
       ·
        refine cq [(3, .go (owns 0 3 1))] [1, 3, 27, 28, 29] [(8, .bool y.pending), (9, .bool false)] ([]) rfl (by kernel_rfl) (by kernel_rfl) (by kernel_rfl) al0 ?_
        refine done_block ?_
        refine done_seq ?_
        refine aq [(0, .fit)] [1, 3, 8, 9, 27, 28] [(29, .int .i64 ((j + 1 : Nat)))] ([Fit .i64 ((j + 1 : Nat))]) (fun _ => by kernel_rfl) (al1 (fit64 (by omega) (by omega))) ?_
        refine Done.drop (L' := [bx (γ1 0) (#[.slice p n cap]) 24]) ?_ (List.Sublist.cons _ (List.Sublist.cons_cons _ (List.Sublist.refl _)))
        exact done_round [1, 3, 8, 9, 27, 28, 29] (j + 1, y.pending, false) (by kernel_rfl) rfl ⟨by omega, by rw [← hI, drop_cons hx23]; simp only [rpollGo, hg]; simp [*]⟩ (by first | omega | (simp only; omega))
       ·
        by_cases q38 : (y.vcpu : Int) = (own : Int)
        ·
         refine cq [(3, .go (owns 0 3 1)), (8, .go (owns 0 1 1)), (10, .yes)] [1, 3, 27, 28, 29] [(8, .bool y.pending), (9, .bool true)] ([(y.vcpu : Int) = (own : Int)]) rfl (by kernel_rfl) (by kernel_rfl) (by kernel_rfl) (al1 q38) ?_
         refine done_block ?_
         refine done_seq ?_
         refine aq [(0, .fit)] [1, 3, 8, 9, 27, 28] [(29, .int .i64 ((j + 1 : Nat)))] ([Fit .i64 ((j + 1 : Nat))]) (fun _ => by kernel_rfl) (al1 (fit64 (by omega) (by omega))) ?_
         refine Done.drop (L' := [bx (γ1 0) (#[.slice p n cap]) 24]) ?_ (List.Sublist.cons _ (List.Sublist.cons_cons _ (List.Sublist.refl _)))
         exact done_round [1, 3, 8, 9, 27, 28, 29] (j + 1, y.pending, true) (by kernel_rfl) rfl ⟨by omega, by rw [← hI, drop_cons hx23]; simp only [rpollGo, hg]; simp [*]⟩ (by first | omega | (simp only; omega))
        ·
         refine cq [(3, .go (owns 0 3 1)), (8, .go (owns 0 1 1)), (10, .no)] [1, 3, 27, 28, 29] [(8, .bool y.pending), (9, .bool false)] ([¬ ((y.vcpu : Int) = (own : Int))]) rfl (by kernel_rfl) (by kernel_rfl) (by kernel_rfl) (al1 q38) ?_
         refine done_block ?_
         refine done_seq ?_
         refine aq [(0, .fit)] [1, 3, 8, 9, 27, 28] [(29, .int .i64 ((j + 1 : Nat)))] ([Fit .i64 ((j + 1 : Nat))]) (fun _ => by kernel_rfl) (al1 (fit64 (by omega) (by omega))) ?_
         refine Done.drop (L' := [bx (γ1 0) (#[.slice p n cap]) 24]) ?_ (List.Sublist.cons _ (List.Sublist.cons_cons _ (List.Sublist.refl _)))
         exact done_round [1, 3, 8, 9, 27, 28, 29] (j + 1, y.pending, false) (by kernel_rfl) rfl ⟨by omega, by rw [← hI, drop_cons hx23]; simp only [rpollGo, hg]; simp [*]⟩ (by first | omega | (simp only; omega))
      ·
       rcases q44 : ow with _ | _
       ·
        refine cq [] [1, 3, 27, 28, 29] [(8, .bool true), (9, .bool false)] ([]) rfl (by kernel_rfl) (by kernel_rfl) (by kernel_rfl) al0 ?_
        refine done_block ?_
        refine done_seq ?_
        refine aq [(0, .fit)] [1, 3, 8, 9, 27, 28] [(29, .int .i64 ((j + 1 : Nat)))] ([Fit .i64 ((j + 1 : Nat))]) (fun _ => by kernel_rfl) (al1 (fit64 (by omega) (by omega))) ?_
        refine Done.drop (L' := [bx (γ1 0) (#[.slice p n cap]) 24]) ?_ (List.Sublist.cons _ (List.Sublist.cons_cons _ (List.Sublist.refl _)))
        exact done_round [1, 3, 8, 9, 27, 28, 29] (j + 1, true, false) (by kernel_rfl) rfl ⟨by omega, by rw [← hI, drop_cons hx23]; simp only [rpollGo, hg]; simp [*]⟩ (by first | omega | (simp only; omega))
       ·
        by_cases q48 : (y.vcpu : Int) = (own : Int)
        ·
         refine cq [(8, .go (owns 0 1 1)), (10, .yes)] [1, 3, 27, 28, 29] [(8, .bool true), (9, .bool true)] ([(y.vcpu : Int) = (own : Int)]) rfl (by kernel_rfl) (by kernel_rfl) (by kernel_rfl) (al1 q48) ?_
         refine done_block ?_
         refine done_seq ?_
         refine aq [(0, .fit)] [1, 3, 8, 9, 27, 28] [(29, .int .i64 ((j + 1 : Nat)))] ([Fit .i64 ((j + 1 : Nat))]) (fun _ => by kernel_rfl) (al1 (fit64 (by omega) (by omega))) ?_
         refine Done.drop (L' := [bx (γ1 0) (#[.slice p n cap]) 24]) ?_ (List.Sublist.cons _ (List.Sublist.cons_cons _ (List.Sublist.refl _)))
         exact done_round [1, 3, 8, 9, 27, 28, 29] (j + 1, true, true) (by kernel_rfl) rfl ⟨by omega, by rw [← hI, drop_cons hx23]; simp only [rpollGo, hg]; simp [*]⟩ (by first | omega | (simp only; omega))
        ·
         refine cq [(8, .go (owns 0 1 1)), (10, .no)] [1, 3, 27, 28, 29] [(8, .bool true), (9, .bool false)] ([¬ ((y.vcpu : Int) = (own : Int))]) rfl (by kernel_rfl) (by kernel_rfl) (by kernel_rfl) (al1 q48) ?_
         refine done_block ?_
         refine done_seq ?_
         refine aq [(0, .fit)] [1, 3, 8, 9, 27, 28] [(29, .int .i64 ((j + 1 : Nat)))] ([Fit .i64 ((j + 1 : Nat))]) (fun _ => by kernel_rfl) (al1 (fit64 (by omega) (by omega))) ?_
         refine Done.drop (L' := [bx (γ1 0) (#[.slice p n cap]) 24]) ?_ (List.Sublist.cons _ (List.Sublist.cons_cons _ (List.Sublist.refl _)))
         exact done_round [1, 3, 8, 9, 27, 28, 29] (j + 1, true, false) (by kernel_rfl) rfl ⟨by omega, by rw [← hI, drop_cons hx23]; simp only [rpollGo, hg]; simp [*]⟩ (by first | omega | (simp only; omega))
    ·
     refine aq [(0, .no)] [1, 3, 8, 9, 27, 28, 29] [(30, .bool false)] ([¬ (((j : Nat) : Int) < ((m : Nat) : Int))]) (fun _ => by kernel_rfl) (al1 q18) ?_
     refine done_seq ?_
     refine at_seq ?_
     refine at_false (by kernel_rfl) ?_
     refine at_leave _ (by rfl) ?_
     refine done_seq ?_
     refine at_seq ?_
     refine at_seq ?_
     rcases q55 : ow with _ | _
     ·
      refine aq [] [8] [(55, .bool true)] ([]) (fun _ => by kernel_rfl) al0 ?_
      refine done_seq ?_
      refine at_true (by kernel_rfl) ?_
      refine at_seq ?_
      refine aq [] [] [(6, .bool false), (7, .int .i64 2)] ([]) (fun _ => by kernel_rfl) al0 ?_
      refine done_seq ?_
      refine at_return ([]) (.tuple #[.bool false, .int .i64 2]) [] (by kernel_rfl) (by kernel_rfl) al0 ?_
      exact fun w' hw => ⟨by rw [rpollV_of (by assumption) (by omega) (by omega), ← hI, List.drop_of_length_le (by omega)]; simp [rpollGo, *], hw.below⟩
     ·
      refine aq [] [8] [(55, .bool false)] ([]) (fun _ => by kernel_rfl) al0 ?_
      refine done_seq ?_
      refine at_false (by kernel_rfl) ?_
      refine at_skip ?_
      refine done_seq ?_
      refine at_seq ?_
      refine aq [] [] [(6, .bool pd), (7, .int .i64 0)] ([]) (fun _ => by kernel_rfl) al0 ?_
      refine done_seq ?_
      refine at_return ([]) (.tuple #[.bool pd, .int .i64 0]) [] (by kernel_rfl) (by kernel_rfl) al0 ?_
      exact fun w' hw => ⟨by rw [rpollV_of (by assumption) (by omega) (by omega), ← hI, List.drop_of_length_le (by omega)]; simp [rpollGo, *], hw.below⟩

set_option maxRecDepth 100000 in
theorem equal_d (p : Option Addr) (n cap : Nat) (l : List Port) (q : Option Addr) (m cap2 : Nat) (l2 : List Port) (w : World)
 (hsl : Sv w p l) (hn : n = l.length) (hb : n ≤ 1000)
 (hsl2 : Sv w q l2) (hm : m = l2.length) (hmb : m ≤ 1000)
 : Calls Try.prog 35 #[.slice p n cap, .slice q m cap2] w fun e w' => e = .returned (.bool (decide (l = l2))) ∧ Below w.heap.size w w' := by
 refine enter (Hs.start w) Try.func35 rfl Try.ntmps35 rfl ?_
 refine at_seq ?_
 refine aq [] [0, 1] [] ([]) (fun _ => by kernel_rfl) al0 ?_
 refine done_seq ?_
 refine at_seq ?_
 refine at_seq ?_
 by_cases q3 : ((n : Nat) : Int) ≠ ((m : Nat) : Int)
 ·
  refine aq [(4, .yes)] [0, 1] [(10, .bool true)] ([((n : Nat) : Int) ≠ ((m : Nat) : Int)]) (fun _ => by kernel_rfl) (al1 q3) ?_
  refine done_seq ?_
  refine at_true (by kernel_rfl) ?_
  refine at_seq ?_
  refine aq [] [] [(4, .bool false)] ([]) (fun _ => by kernel_rfl) al0 ?_
  refine done_seq ?_
  refine at_return ([]) (.bool false) [] (by kernel_rfl) (by kernel_rfl) al0 ?_
  exact fun w' hw => ⟨by rw [same_len (l := l) (l2 := l2) (by omega)], hw.below⟩
 ·
  refine aq [(4, .no)] [0, 1] [(10, .bool false)] ([¬ (((n : Nat) : Int) ≠ ((m : Nat) : Int))]) (fun _ => by kernel_rfl) (al1 q3) ?_
  refine done_seq ?_
  refine at_false (by kernel_rfl) ?_
  refine at_skip ?_
  refine done_seq ?_
  refine at_seq ?_
  refine at_seq ?_
  refine aq [] [0, 1] [(12, .int .i64 ((n : Nat))), (13, .int .i64 0)] ([]) (fun _ => by kernel_rfl) al0 ?_
  refine done_seq ?_
  refine at_block ?_
  refine at_loop (α := Nat) [0, 1, 12, 13] (fun j => [(0, .slice p n cap), (1, .slice q m cap2), (12, .int .i64 ((n : Nat))), (13, .int .i64 ((j : Nat)))]) (fun j => []) (fun j => j ≤ n ∧ l.take j = l2.take j) (fun j => n - j) 0 (by kernel_rfl) rfl ⟨Nat.zero_le _, rfl⟩ ?_
  rintro j
  rintro ⟨hj, hI⟩
  refine at_seq ?_
  by_cases q9 : ((j : Nat) : Int) < ((n : Nat) : Int)
  ·
   refine aq [(0, .yes)] [0, 1, 12, 13] [(14, .bool true)] ([((j : Nat) : Int) < ((n : Nat) : Int)]) (fun _ => by kernel_rfl) (al1 q9) ?_
   refine done_seq ?_
   refine at_seq ?_
   refine at_true (by kernel_rfl) ?_
   refine at_skip ?_
   refine done_seq ?_
   refine at_seq ?_
   refine at_block ?_
   refine at_seq ?_
   refine aq [] [0, 1, 12, 13] [(5, .int .i64 ((j : Nat)))] ([]) (fun _ => by kernel_rfl) al0 ?_
   refine done_seq ?_
   refine at_seq ?_
   obtain ⟨b13, o13, rfl⟩ := hsl.pos (i := j) (by omega)
   obtain ⟨x15, hx15⟩ := get_some (l := l) (m := j) (by omega)
   obtain ⟨b17, o17, rfl⟩ := hsl2.pos (i := j) (by omega)
   obtain ⟨x19, hx19⟩ := get_some (l := l2) (m := j) (by omega)
   by_cases q21 : x15 = x19
   ·
    refine cq [(2, .at b13 o13 j), (3, .go (outs b13 (o13 + j * 5) [.int .i64 x15.num, .int .i64 x15.vcpu, .int .i64 x15.peer, .bool x15.pending, .bool x15.masked])), (6, .at b17 o17 j), (7, .go (outs b17 (o17 + j * 5) [.int .i64 x19.num, .int .i64 x19.vcpu, .int .i64 x19.peer, .bool x19.pending, .bool x19.masked])), (8, .eqs false)] [0, 1, 12, 13] [(24, .bool false)] ([(some ⟨b13, o13, none⟩ : Option Addr) = some ⟨b13, o13, none⟩, ((j : Nat)) = ((j : Nat) : Int), j < n] ++ (cellsP w b13 (o13 + j * 5) [.int .i64 x15.num, .int .i64 x15.vcpu, .int .i64 x15.peer, .bool x15.pending, .bool x15.masked] ++ ([(some ⟨b17, o17, none⟩ : Option Addr) = some ⟨b17, o17, none⟩, ((j : Nat)) = ((j : Nat) : Int), j < m] ++ (cellsP w b17 (o17 + j * 5) [.int .i64 x19.num, .int .i64 x19.vcpu, .int .i64 x19.peer, .bool x19.pending, .bool x19.masked] ++ ([EqRun Try.prog .neq 40 (.tmp 19) (.tmp 23) (.agg #[.int .i64 x15.num, .int .i64 x15.vcpu, .int .i64 x15.peer, .bool x15.pending, .bool x15.masked]) (.agg #[.int .i64 x19.num, .int .i64 x19.vcpu, .int .i64 x19.peer, .bool x19.pending, .bool x19.masked]) false]))))) rfl (by kernel_rfl) (by kernel_rfl) (by kernel_rfl) (alA (al2 rfl (al2 rfl (al1 (by omega)))) (alA (rd_pre (hsl.get hx15) _ rfl) (alA (al2 rfl (al2 rfl (al1 (by omega)))) (alA (rd_pre (hsl2.get hx19) _ rfl) (al1 (port_ne_t (a := x15) (b := x19) q21)))))) ?_
    refine done_seq ?_
    refine at_false (by kernel_rfl) ?_
    refine at_skip ?_
    refine done_block ?_
    refine done_seq ?_
    refine aq [(0, .fit)] [0, 1, 12] [(13, .int .i64 ((j + 1 : Nat)))] ([Fit .i64 ((j + 1 : Nat))]) (fun _ => by kernel_rfl) (al1 (fit64 (by omega) (by omega))) ?_
    exact done_round [0, 1, 12, 13] (j + 1) (by kernel_rfl) rfl ⟨by omega, same_on hI hx15 hx19 (by assumption)⟩ (by first | omega | (simp only; omega))
   ·
    refine cq [(2, .at b13 o13 j), (3, .go (outs b13 (o13 + j * 5) [.int .i64 x15.num, .int .i64 x15.vcpu, .int .i64 x15.peer, .bool x15.pending, .bool x15.masked])), (6, .at b17 o17 j), (7, .go (outs b17 (o17 + j * 5) [.int .i64 x19.num, .int .i64 x19.vcpu, .int .i64 x19.peer, .bool x19.pending, .bool x19.masked])), (8, .eqs true)] [0, 1, 12, 13] [(24, .bool true)] ([(some ⟨b13, o13, none⟩ : Option Addr) = some ⟨b13, o13, none⟩, ((j : Nat)) = ((j : Nat) : Int), j < n] ++ (cellsP w b13 (o13 + j * 5) [.int .i64 x15.num, .int .i64 x15.vcpu, .int .i64 x15.peer, .bool x15.pending, .bool x15.masked] ++ ([(some ⟨b17, o17, none⟩ : Option Addr) = some ⟨b17, o17, none⟩, ((j : Nat)) = ((j : Nat) : Int), j < m] ++ (cellsP w b17 (o17 + j * 5) [.int .i64 x19.num, .int .i64 x19.vcpu, .int .i64 x19.peer, .bool x19.pending, .bool x19.masked] ++ ([EqRun Try.prog .neq 40 (.tmp 19) (.tmp 23) (.agg #[.int .i64 x15.num, .int .i64 x15.vcpu, .int .i64 x15.peer, .bool x15.pending, .bool x15.masked]) (.agg #[.int .i64 x19.num, .int .i64 x19.vcpu, .int .i64 x19.peer, .bool x19.pending, .bool x19.masked]) true]))))) rfl (by kernel_rfl) (by kernel_rfl) (by kernel_rfl) (alA (al2 rfl (al2 rfl (al1 (by omega)))) (alA (rd_pre (hsl.get hx15) _ rfl) (alA (al2 rfl (al2 rfl (al1 (by omega)))) (alA (rd_pre (hsl2.get hx19) _ rfl) (al1 (port_ne_f (a := x15) (b := x19) q21)))))) ?_
    refine done_seq ?_
    refine at_true (by kernel_rfl) ?_
    refine at_seq ?_
    refine aq [] [] [(4, .bool false)] ([]) (fun _ => by kernel_rfl) al0 ?_
    refine done_seq ?_
    refine at_return ([]) (.bool false) [] (by kernel_rfl) (by kernel_rfl) al0 ?_
    exact fun w' hw => ⟨by rw [same_no hx15 hx19 (by assumption)], hw.below⟩
  ·
   refine aq [(0, .no)] [0, 1, 12, 13] [(14, .bool false)] ([¬ (((j : Nat) : Int) < ((n : Nat) : Int))]) (fun _ => by kernel_rfl) (al1 q9) ?_
   refine done_seq ?_
   refine at_seq ?_
   refine at_false (by kernel_rfl) ?_
   refine at_leave _ (by rfl) ?_
   refine done_seq ?_
   refine at_seq ?_
   refine aq [] [] [(4, .bool true)] ([]) (fun _ => by kernel_rfl) al0 ?_
   refine done_seq ?_
   refine at_return ([]) (.bool true) [] (by kernel_rfl) (by kernel_rfl) al0 ?_
   exact fun w' hw => ⟨by rw [same_yes hI (by omega) (by omega)], hw.below⟩

set_option maxRecDepth 100000 in
theorem rsame_d (p : Option Addr) (n cap : Nat) (l : List Port) (q : Option Addr) (m cap2 : Nat) (l2 : List Port) (w : World)
 (hsl : Sv w p l) (hn : n = l.length) (hb : n ≤ 1000)
 (hsl2 : Sv w q l2) (hm : m = l2.length) (hmb : m ≤ 1000)
 : Calls Try.prog 15 #[.agg #[.slice p n cap], .agg #[.slice q m cap2]] w fun e w' => e = .returned (.bool (decide (l = l2))) ∧ Below w.heap.size w w' := by
 refine enter (Hs.start w) Try.func15 rfl Try.ntmps15 rfl ?_
 refine at_seq ?_
 refine am [] [] (fun γ1 => [(2, .pointer (some ⟨γ1 0, 0, none⟩)), (3, .pointer (some ⟨γ1 1, 0, none⟩))]) (fun γ1 L => bx (γ1 1) (#[.slice q m cap2]) 24 :: bx (γ1 0) (#[.slice p n cap]) 24 :: L) (fun γ1 => []) (fun _ => by kernel_rfl) (fun γ1 => al0) (fun γ1 => ?_)
 refine done_seq ?_
 refine at_seq ?_
 refine at_seq ?_
 by_cases q3 : ((n : Nat) : Int) ≠ ((m : Nat) : Int)
 ·
  refine aq [(1, .go (owns 1 0 1)), (4, .go (owns 0 0 1)), (6, .yes)] [2, 3] [(12, .bool true)] ([((n : Nat) : Int) ≠ ((m : Nat) : Int)]) (fun _ => by kernel_rfl) (al1 q3) ?_
  refine done_seq ?_
  refine at_true (by kernel_rfl) ?_
  refine at_seq ?_
  refine aq [] [] [(4, .bool false)] ([]) (fun _ => by kernel_rfl) al0 ?_
  refine done_seq ?_
  refine at_return ([]) (.bool false) [] (by kernel_rfl) (by kernel_rfl) al0 ?_
  exact fun w' hw => ⟨by rw [same_len (l := l) (l2 := l2) (by omega)], hw.below⟩
 ·
  refine aq [(1, .go (owns 1 0 1)), (4, .go (owns 0 0 1)), (6, .no)] [2, 3] [(12, .bool false)] ([¬ (((n : Nat) : Int) ≠ ((m : Nat) : Int))]) (fun _ => by kernel_rfl) (al1 q3) ?_
  refine done_seq ?_
  refine at_false (by kernel_rfl) ?_
  refine at_skip ?_
  refine done_seq ?_
  refine at_seq ?_
  refine at_seq ?_
  refine aq [(1, .go (owns 1 0 1))] [2, 3] [(15, .int .i64 ((n : Nat))), (16, .int .i64 0)] ([]) (fun _ => by kernel_rfl) al0 ?_
  refine done_seq ?_
  refine at_block ?_
  refine at_loop (α := Nat) [2, 3, 15, 16] (fun j => [(2, .pointer (some ⟨γ1 0, 0, none⟩)), (3, .pointer (some ⟨γ1 1, 0, none⟩)), (15, .int .i64 ((n : Nat))), (16, .int .i64 ((j : Nat)))]) (fun j => [bx (γ1 1) (#[.slice q m cap2]) 24, bx (γ1 0) (#[.slice p n cap]) 24]) (fun j => j ≤ n ∧ l.take j = l2.take j) (fun j => n - j) 0 (by kernel_rfl) rfl ⟨Nat.zero_le _, rfl⟩ ?_
  rintro j
  rintro ⟨hj, hI⟩
  refine at_seq ?_
  by_cases q9 : ((j : Nat) : Int) < ((n : Nat) : Int)
  ·
   refine aq [(0, .yes)] [2, 3, 15, 16] [(17, .bool true)] ([((j : Nat) : Int) < ((n : Nat) : Int)]) (fun _ => by kernel_rfl) (al1 q9) ?_
   refine done_seq ?_
   refine at_seq ?_
   refine at_true (by kernel_rfl) ?_
   refine at_skip ?_
   refine done_seq ?_
   refine at_seq ?_
   refine at_block ?_
   refine at_seq ?_
   refine aq [] [2, 3, 15, 16] [(5, .int .i64 ((j : Nat)))] ([]) (fun _ => by kernel_rfl) al0 ?_
   refine done_seq ?_
   refine at_seq ?_
   obtain ⟨b13, o13, rfl⟩ := hsl.pos (i := j) (by omega)
   obtain ⟨x15, hx15⟩ := get_some (l := l) (m := j) (by omega)
   obtain ⟨b17, o17, rfl⟩ := hsl2.pos (i := j) (by omega)
   obtain ⟨x19, hx19⟩ := get_some (l := l2) (m := j) (by omega)
   by_cases q21 : x15 = x19
   ·
    refine cq [(1, .go (owns 1 0 1)), (3, .at b13 o13 j), (4, .go (outs b13 (o13 + j * 5) [.int .i64 x15.num, .int .i64 x15.vcpu, .int .i64 x15.peer, .bool x15.pending, .bool x15.masked])), (6, .go (owns 0 0 1)), (8, .at b17 o17 j), (9, .go (outs b17 (o17 + j * 5) [.int .i64 x19.num, .int .i64 x19.vcpu, .int .i64 x19.peer, .bool x19.pending, .bool x19.masked])), (10, .eqs false)] [2, 3, 15, 16] [(29, .bool false)] ([(some ⟨b13, o13, none⟩ : Option Addr) = some ⟨b13, o13, none⟩, ((j : Nat)) = ((j : Nat) : Int), j < n] ++ (cellsP w b13 (o13 + j * 5) [.int .i64 x15.num, .int .i64 x15.vcpu, .int .i64 x15.peer, .bool x15.pending, .bool x15.masked] ++ ([(some ⟨b17, o17, none⟩ : Option Addr) = some ⟨b17, o17, none⟩, ((j : Nat)) = ((j : Nat) : Int), j < m] ++ (cellsP w b17 (o17 + j * 5) [.int .i64 x19.num, .int .i64 x19.vcpu, .int .i64 x19.peer, .bool x19.pending, .bool x19.masked] ++ ([EqRun Try.prog .neq 40 (.tmp 23) (.tmp 28) (.agg #[.int .i64 x15.num, .int .i64 x15.vcpu, .int .i64 x15.peer, .bool x15.pending, .bool x15.masked]) (.agg #[.int .i64 x19.num, .int .i64 x19.vcpu, .int .i64 x19.peer, .bool x19.pending, .bool x19.masked]) false]))))) rfl (by kernel_rfl) (by kernel_rfl) (by kernel_rfl) (alA (al2 rfl (al2 rfl (al1 (by omega)))) (alA (rd_pre (hsl.get hx15) _ rfl) (alA (al2 rfl (al2 rfl (al1 (by omega)))) (alA (rd_pre (hsl2.get hx19) _ rfl) (al1 (port_ne_t (a := x15) (b := x19) q21)))))) ?_
    refine done_seq ?_
    refine at_false (by kernel_rfl) ?_
    refine at_skip ?_
    refine done_block ?_
    refine done_seq ?_
    refine aq [(0, .fit)] [2, 3, 15] [(16, .int .i64 ((j + 1 : Nat)))] ([Fit .i64 ((j + 1 : Nat))]) (fun _ => by kernel_rfl) (al1 (fit64 (by omega) (by omega))) ?_
    exact done_round [2, 3, 15, 16] (j + 1) (by kernel_rfl) rfl ⟨by omega, same_on hI hx15 hx19 (by assumption)⟩ (by first | omega | (simp only; omega))
   ·
    refine cq [(1, .go (owns 1 0 1)), (3, .at b13 o13 j), (4, .go (outs b13 (o13 + j * 5) [.int .i64 x15.num, .int .i64 x15.vcpu, .int .i64 x15.peer, .bool x15.pending, .bool x15.masked])), (6, .go (owns 0 0 1)), (8, .at b17 o17 j), (9, .go (outs b17 (o17 + j * 5) [.int .i64 x19.num, .int .i64 x19.vcpu, .int .i64 x19.peer, .bool x19.pending, .bool x19.masked])), (10, .eqs true)] [2, 3, 15, 16] [(29, .bool true)] ([(some ⟨b13, o13, none⟩ : Option Addr) = some ⟨b13, o13, none⟩, ((j : Nat)) = ((j : Nat) : Int), j < n] ++ (cellsP w b13 (o13 + j * 5) [.int .i64 x15.num, .int .i64 x15.vcpu, .int .i64 x15.peer, .bool x15.pending, .bool x15.masked] ++ ([(some ⟨b17, o17, none⟩ : Option Addr) = some ⟨b17, o17, none⟩, ((j : Nat)) = ((j : Nat) : Int), j < m] ++ (cellsP w b17 (o17 + j * 5) [.int .i64 x19.num, .int .i64 x19.vcpu, .int .i64 x19.peer, .bool x19.pending, .bool x19.masked] ++ ([EqRun Try.prog .neq 40 (.tmp 23) (.tmp 28) (.agg #[.int .i64 x15.num, .int .i64 x15.vcpu, .int .i64 x15.peer, .bool x15.pending, .bool x15.masked]) (.agg #[.int .i64 x19.num, .int .i64 x19.vcpu, .int .i64 x19.peer, .bool x19.pending, .bool x19.masked]) true]))))) rfl (by kernel_rfl) (by kernel_rfl) (by kernel_rfl) (alA (al2 rfl (al2 rfl (al1 (by omega)))) (alA (rd_pre (hsl.get hx15) _ rfl) (alA (al2 rfl (al2 rfl (al1 (by omega)))) (alA (rd_pre (hsl2.get hx19) _ rfl) (al1 (port_ne_f (a := x15) (b := x19) q21)))))) ?_
    refine done_seq ?_
    refine at_true (by kernel_rfl) ?_
    refine at_seq ?_
    refine aq [] [] [(4, .bool false)] ([]) (fun _ => by kernel_rfl) al0 ?_
    refine done_seq ?_
    refine at_return ([]) (.bool false) [] (by kernel_rfl) (by kernel_rfl) al0 ?_
    exact fun w' hw => ⟨by rw [same_no hx15 hx19 (by assumption)], hw.below⟩
  ·
   refine aq [(0, .no)] [2, 3, 15, 16] [(17, .bool false)] ([¬ (((j : Nat) : Int) < ((n : Nat) : Int))]) (fun _ => by kernel_rfl) (al1 q9) ?_
   refine done_seq ?_
   refine at_seq ?_
   refine at_false (by kernel_rfl) ?_
   refine at_leave _ (by rfl) ?_
   refine done_seq ?_
   refine at_seq ?_
   refine aq [] [] [(4, .bool true)] ([]) (fun _ => by kernel_rfl) al0 ?_
   refine done_seq ?_
   refine at_return ([]) (.bool true) [] (by kernel_rfl) (by kernel_rfl) al0 ?_
   exact fun w' hw => ⟨by rw [same_yes hI (by omega) (by omega)], hw.below⟩

set_option maxRecDepth 100000 in
theorem same_d (p : Option Addr) (n cap : Nat) (l : List Port) (q : Option Addr) (m cap2 : Nat) (l2 : List Port) (w : World)
 (hsl : Sv w p l) (hn : n = l.length) (hb : n ≤ 1000)
 (hsl2 : Sv w q l2) (hm : m = l2.length) (hmb : m ≤ 1000)
 : Calls Try.prog 17 #[.agg #[.slice p n cap], .agg #[.slice q m cap2]] w fun e w' => e = .returned (.bool (decide (l = l2))) ∧ Below w.heap.size w w' := by
 refine enter (Hs.start w) Try.func17 rfl Try.ntmps17 rfl ?_
 refine at_seq ?_
 refine am [] [] (fun γ1 => [(2, .pointer (some ⟨γ1 0, 0, none⟩)), (3, .pointer (some ⟨γ1 1, 0, none⟩))]) (fun γ1 L => bx (γ1 1) (#[.slice q m cap2]) 24 :: bx (γ1 0) (#[.slice p n cap]) 24 :: L) (fun γ1 => []) (fun _ => by kernel_rfl) (fun γ1 => al0) (fun γ1 => ?_)
 refine done_seq ?_
 refine at_seq ?_
 refine at_ops ?_
 refine oq 4 [(1, .go (owns 1 0 1)), (3, .go (owns 0 0 1))] [] [(6, .slice p n cap), (8, .slice q m cap2)] ([]) (fun _ => by kernel_rfl) al0 ?_
 refine ops_callD (.bool (decide (l = l2))) (by kernel_rfl) (by kernel_rfl) (by kernel_rfl) (fun args w => Try.call35 args w) (fun w hw => equal_d p n cap l q m cap2 l2 w (hsl.kept hw.below) hn hb (hsl2.kept hw.below) hm hmb) ?_
 refine oq 1 [] [] [(4, .bool (decide (l = l2)))] ([]) (fun _ => by kernel_rfl) al0 ?_
 refine ops_nil ?_
 refine done_seq ?_
 refine at_return ([]) (.bool (decide (l = l2))) [] (by kernel_rfl) (by kernel_rfl) al0 ?_
 exact fun w' hw => ⟨rfl, hw.below⟩
end Go.Proofs.Ytfhlmijdokfdpaa

/-! The walker: regions that draw their order and act. What only reckons is taken first; what acts comes alone, or each that may come up is tried. -/
namespace Go.Proofs.Ytfhlmijdokfdpaa
open Go Go.RowKit

/-- A step that asks no world. -/
def evP (P : Program) {α : Type} : Sem α → Option α
  | .pure a => some a
  | .program k => evP P (k P)
  | .mark _ k => evP P k
  | .choose q k => if q.forced then evP P (k 0) else none
  | _ => none
theorem evP_run {P : Program} {α : Type} : ∀ (s : Sem α) (r : α), evP P s = some r → ∀ w, s.run P w = .ok r w := by
  intro s
  induction s with
  | pure a => intro r h w; simp only [evP, Option.some.injEq] at h; subst h; rfl
  | program k ih => intro r h w; exact ih P r h w
  | mark m k ih => intro r h w; exact ih r h w
  | choose q k ih =>
    intro r h w
    simp only [evP] at h
    split at h <;> try cases h
    rename_i hf
    simp only [Sem.run, hf, if_true]
    exact ih 0 r h w
  | _ => intro r h; simp [evP] at h

/-- No call of a function. -/
def calm1 (o : Oper) : Bool := match o.op with
  | .call c => match c.callee with
    | .builtin _ => true
    | _ => false
  | _ => true
theorem about_calm {P : Program} {w : World} {ρ : Operand → Value} {o : Oper} (h : calm1 o = true) : o.about P w ρ = none := by
  unfold calm1 at h
  unfold Oper.about
  split at h
  · rename_i c hop
    split at h <;> try cases h
    rename_i b hc
    rw [hop]
    simp [resolve, hc, Target.leads]
  · rename_i hop
    cases ho : o.op <;> simp only [ho] at hop ⊢
    exact absurd rfl (hop _)

/-- One operation that asks no world. -/
def evT (P : Program) (n : Nat) (o : Oper) (h : Hint) (l : Sl) : Option (Sl × List Prop) :=
  if calm1 o then match h with
    | .go [] => if okD n o.dst && knownO l o then match evP P (execOp (look l) o) with
      | some (.value v) => some (putL o.dst v l, [])
      | _ => none else none
    | .go _ => none
    | .is _ _ => none
    | h => match evOp true P default (fun x => x) n o h ⟨l, [], 0⟩ with
      | some r => some (r.s.l, r.rq)
      | none => none
  else none

section
variable {P : Program} {n : Nat} {D : List Deferred} {o : Oper} {l : Sl} {a : Act}
theorem evT_run {h : Hint} {r : Sl × List Prop} (he : evT P n o h l = some r) (ha : SlR n D l a) (hq : ∀ p ∈ r.2, p) : ∃ v, (∀ w, (execOp a.eval o).run P w = .ok (.value v) w) ∧ SlR n D r.1 (a.put o.dst v) ∧ calm1 o = true := by
  simp only [evT] at he
  split at he <;> try cases he
  rename_i hc
  split at he
  · split at he <;> try cases he
    rename_i hk
    simp only [Bool.and_eq_true] at hk
    split at he <;> try cases he
    rename_i v hv
    exact ⟨v, fun w => by rw [look_exec ha hk.2]; exact evP_run _ _ hv w, ha.put hk.1 v, hc⟩
  · cases he
  · cases he
  · rename_i hn1 hn2 hn3
    split at he <;> try cases he
    rename_i q hev
    -- the hints that reckon: each by its own law, in whatever world
    simp only [evOp] at hev
    split at hev <;> try cases hev
    rename_i hk
    simp only [Bool.and_eq_true] at hk
    split at hev
    · rename_i src
      cases src with
      | nil => exact absurd rfl (hn1 ·)
      | cons s t => exact absurd rfl (hn2 _ ·)
    · rename_i src v
      exact absurd rfl (hn3 _ _ ·)
    · rename_i b
      split at hev <;> try cases hev
      rename_i op T x y U hop
      exact ⟨_, fun w => by rw [look_exec ha hk.2]; exact run_eqs hop (hq _ (List.mem_singleton.2 rfl)) w, ha.put hk.1 _, hc⟩
    · rename_i v
      split at hev <;> try cases hev
      rename_i T x lo hi mx hop
      exact ⟨_, fun w => by rw [look_exec ha hk.2]; exact run_sl hop (hq _ (List.mem_singleton.2 rfl)) w, ha.put hk.1 _, hc⟩
    · split at hev <;> try cases hev
      · rename_i S T x hop
        split at hev <;> try cases hev
        rename_i k k' c hT hx
        split at hev <;> try cases hev
        rename_i hS
        exact ⟨_, fun w => by rw [look_exec ha hk.2]; exact run_conv hop (Option.isSome_iff_exists.1 hS) hT hx (hq _ (List.mem_singleton.2 rfl)) w, ha.put hk.1 _, hc⟩
      rename_i op T x y U hop
      split at hev <;> try cases hev
      rename_i k p k' q hx hy
      split at hev <;> try cases hev
      rename_i hkk
      split at hev <;> try cases hev
      rename_i c hcc
      subst hkk
      exact ⟨_, fun w => by rw [look_exec ha hk.2]; exact run_arith hop hx hy hcc (hq _ (List.mem_singleton.2 rfl)) w, ha.put hk.1 _, hc⟩
    · rename_i b of m
      split at hev <;> try cases hev
      rename_i T x y hop
      split at hev <;> try cases hev
      rename_i e p len cap k i hu hx hy
      split at hev <;> try cases hev
      rename_i inf hi
      exact ⟨_, fun w => by rw [look_exec ha hk.2]; exact run_at hop hx hy hu hi (hq _ (by simp)) (hq _ (by simp)) (hq _ (by simp)) w, ha.put hk.1 _, hc⟩
    · split at hev <;> try cases hev
      rename_i op T x y U hop
      split at hev <;> try cases hev
      rename_i k p k' q hx hy
      split at hev <;> try cases hev
      rename_i hkk
      obtain ⟨rfl, hcc⟩ := hkk
      exact ⟨_, fun w => by rw [look_exec ha hk.2]; exact run_cmp hop hx hy hcc true (hq _ (List.mem_singleton.2 rfl)) w, ha.put hk.1 _, hc⟩
    · split at hev <;> try cases hev
      rename_i op T x y U hop
      split at hev <;> try cases hev
      rename_i k p k' q hx hy
      split at hev <;> try cases hev
      rename_i hkk
      obtain ⟨rfl, hcc⟩ := hkk
      exact ⟨_, fun w => by rw [look_exec ha hk.2]; exact run_cmp hop hx hy hcc false (hq _ (List.mem_singleton.2 rfl)) w, ha.put hk.1 _, hc⟩
end

/-- Operations is, in this order: each may come up, asks no world, and can be taken first. -/
def evTs (P : Program) (n : Nat) (all : List Oper) (hs : List (Nat × Hint)) : List Nat → Array Bool → Sl → Option (Array Bool × Sl × List Prop)
  | [], listed, l => some (listed, l, [])
  | i :: is, listed, l => match all[i]? with
    | none => none
    | some o => if (Region.ready .any all.toArray listed).contains i && Region.free .any all.toArray listed i then match wantL all l o with
        | none => none
        | some false => if okD n o.dst && calm1 o then evTs P n all hs is (listed.setIfInBounds i true) (putL o.dst undef l) else none
        | some true => match evT P n o ((hs.lookup i).getD (.go [])) l with
          | none => none
          | some r => match evTs P n all hs is (listed.setIfInBounds i true) r.1 with
            | none => none
            | some r2 => some (r2.1, r2.2.1, r.2 ++ r2.2.2)
      else none

/-- A panic's goal does not look at the slots. -/
def PanicB (R : Exit → Act → World → Prop) : Prop := ∀ c (a a' : Act) w, a.defers = a'.defers → R (.panic c) a w → R (.panic c) a' w
theorem panic_body {P : Program} {fn : Func} {R : Ending → World → Prop} : PanicB (bodyPost P fn R) := fun c a a' w h hr => ⟨h ▸ hr.1, hr.2⟩
theorem panic_post {rd : Option Nat} {P : Program} {R : Exit → Act → World → Prop} (h : PanicB R) : ∀ k, PanicB (postF rd P R k)
  | [] => h
  | .seq _ :: k => panic_post h k
  | .block _ :: k => panic_post h k
  | .loop _ :: k => panic_post h k

structure Any (E : Env) (k : List Fr) (all : List Oper) (f : Nat) (listed : Array Bool) (l : Sl) (L : List Ob) : Prop where
  out : ∀ a w, SlR E.n E.D l a → Hs E.w0 L w → wpAnyIn (fen E.rd) 0 E.P .any all.toArray (postF E.rd E.P E.R k) f listed a w

section
variable {E : Env} {k : List Fr} {l : Sl} {L : List Ob} {all : List Oper} {listed : Array Bool} {f : Nat}
theorem evTs_run (hrd : E.rd = none) (hp : PanicB E.R) (hsel : Region.noSelect all.toArray = true) {hs : List (Nat × Hint)} : ∀ (is : List Nat) (listed : Array Bool) (l : Sl) (r : Array Bool × Sl × List Prop) (a : Act) (w : World), evTs E.P E.n all hs is listed l = some r → SlR E.n E.D l a → (∀ p ∈ r.2.2, p) →
    (∀ a', SlR E.n E.D r.2.1 a' → wpAnyIn (fen E.rd) 0 E.P .any all.toArray (postF E.rd E.P E.R k) f r.1 a' w) → wpAnyIn (fen E.rd) 0 E.P .any all.toArray (postF E.rd E.P E.R k) (f + is.length) listed a w
  | [], listed, l, r, a, w, h, ha, _, hK => by
    simp only [evTs, Option.some.injEq] at h; subst h
    exact hK a ha
  | i :: is, listed, l, r, a, w, h, ha, hq, hK => by
    simp only [evTs] at h
    split at h <;> try cases h
    rename_i o hio
    split at h <;> try cases h
    rename_i hrf
    simp only [Bool.and_eq_true] at hrf
    have hio' : all.toArray[i]? = some o := by simpa using hio
    have hQ : ∀ (v : Value) c a w, postF E.rd E.P E.R k (.panic c) (a.put o.dst v) w → postF E.rd E.P E.R k (.panic c) a w := fun v c a w h => panic_post hp k c (a.put o.dst v) a w (by unfold Act.put; split <;> rfl) h
    rw [show f + (i :: is).length = (f + is.length) + 1 by simp; omega]
    split at h <;> try cases h
    · rename_i hwant
      split at h <;> try cases h
      rename_i hd
      simp only [Bool.and_eq_true] at hd
      have hg := wantL_spec ha hwant
      refine wpAnyIn_first (by rw [hrd]; rfl) hio' (Region.noSelect_spec hsel) (hQ undef) _ _ _ _ (Region.free_spec hio' hrf.2) (by simpa using hrf.1) ⟨.inr ⟨hg, rfl⟩, fun w => about_calm hd.2⟩ ?_
      exact evTs_run hrd hp hsel is _ _ r _ w h (ha.put hd.1 undef) hq hK
    · rename_i hwant
      split at h <;> try cases h
      rename_i q hev
      split at h <;> try cases h
      rename_i r2 hev'
      have hg := wantL_spec ha hwant
      obtain ⟨v, h1, h2, h3⟩ := evT_run hev ha (fun p hp => hq p (List.mem_append_left _ hp))
      refine wpAnyIn_first (by rw [hrd]; rfl) hio' (Region.noSelect_spec hsel) (hQ v) _ _ _ _ (Region.free_spec hio' hrf.2) (by simpa using hrf.1) ⟨.inl ⟨hg, h1⟩, fun w => about_calm h3⟩ ?_
      exact evTs_run hrd hp hsel is _ _ r2 _ w hev' h2 (fun p hp => hq p (List.mem_append_right _ hp)) hK

theorem at_any {id : Nat} (hm : E.P.follows .mixedOrders = true) (h : Any E k all all.length (Array.replicate all.length false) l L) : At E k (.region id all.toArray true) l L :=
  ⟨fun a w ha hs => wpIn_region_any hm (by simpa using h.out a { w with drawn := w.drawn + 1 } ha ⟨hs.rows, hs.low, hs.apart, hs.below.drew⟩)⟩
/-- What only reckons, taken first. -/
theorem any_take (is : List Nat) (hs : List (Nat × Hint)) (ts : List Nat) (ch : Sl) (rq : List Prop) (li : Array Bool) (hrd : E.rd = none) (hp' : ∃ fn R, E.R = bodyPost E.P fn R) (hsel : Region.noSelect all.toArray = true)
    (h : (evTs E.P E.n all hs is listed l).map (fun r => (r.1, keepL r.2.1 (ch.map (·.1) ++ ts), r.2.2)) = some (li, some (ch ++ restL l ts), rq)) (h3 : AllP rq) (h4 : Any E k all f li (ch ++ restL l ts) L) : Any E k all (f + is.length) listed l L := by
  have hp : PanicB E.R := by obtain ⟨fn, R, e⟩ := hp'; rw [e]; exact panic_body
  refine ⟨fun a w ha hw => ?_⟩
  cases hev : evTs E.P E.n all hs is listed l with
  | none => rw [hev] at h; cases h
  | some r =>
    rw [hev] at h
    simp only [Option.map_some, Option.some.injEq, Prod.mk.injEq] at h
    obtain ⟨rfl, h2, h5⟩ := h
    exact evTs_run hrd hp hsel is listed l r a w hev ha (by rw [h5]; exact allP_mem h3) fun a' ha' => h4.out a' w (ha'.sub (keepL_mem h2)) hw
theorem any_one_aux {F : Fence} {n : Nat} {P : Program} {o : Oper} {a : Act} {w : World} {ops : Array Oper} {I : Act → World → Prop} {Q : Exit → Act → World → Prop} (h : o.wpIn F n P a w (wpListIn F n P ops (Exit.then I Q) []) (Exit.then I Q)) : o.wpIn F n P a w I Q := h
/-- The one that may come up. -/
theorem any_one (i : Nat) (o : Oper) (hr : Region.ready .any all.toArray listed = [i]) (ho : all[i]? = some o)
    (h : Ops E (.loop (fun a w => wpAnyIn (fen E.rd) 0 E.P .any all.toArray (postF E.rd E.P E.R k) f (listed.setIfInBounds i true) a w) :: k) all [o] i l L) : Any E k all (f + 1) listed l L := by
  refine ⟨fun a w ha hs => ?_⟩
  unfold wpAnyIn
  refine ⟨fun h0 => (by rw [hr] at h0; cases h0), fun j hj => ?_⟩
  rw [hr] at hj
  obtain rfl := List.mem_singleton.1 hj
  have := h.out a w ha hs
  unfold wpOpIn
  have ho' : all.toArray[j]? = some o := by simpa using ho
  simp only [ho']
  unfold wpListIn at this
  split
  · rename_i hw
    rw [if_pos hw] at this
    exact any_one_aux this
  · rename_i hw
    rw [if_neg hw] at this
    exact ⟨this.1, this.2⟩
/-- Each that may come up, one after the other. -/
def EachF (E : Env) (k : List Fr) (all : List Oper) (f : Nat) (listed : Array Bool) (l : Sl) (L : List Ob) : List Nat → Prop
  | [] => True
  | i :: is => (∃ o, all[i]? = some o ∧ Ops E (.loop (fun a w => wpAnyIn (fen E.rd) 0 E.P .any all.toArray (postF E.rd E.P E.R k) f (listed.setIfInBounds i true) a w) :: k) all [o] i l L) ∧ EachF E k all f listed l L is
theorem each_mem : ∀ {is : List Nat}, EachF E k all f listed l L is → ∀ i ∈ is, ∃ o, all[i]? = some o ∧ Ops E (.loop (fun a w => wpAnyIn (fen E.rd) 0 E.P .any all.toArray (postF E.rd E.P E.R k) f (listed.setIfInBounds i true) a w) :: k) all [o] i l L
  | [], _, _, h => by cases h
  | j :: is, h, i, hi => by
    rcases List.mem_cons.1 hi with rfl | hi
    · exact h.1
    · exact each_mem h.2 i hi
theorem any_fork (is : List Nat) (hr : Region.ready .any all.toArray listed = is) (hne : is ≠ []) (h : EachF E k all f listed l L is) : Any E k all (f + 1) listed l L := by
  refine ⟨fun a w ha hs => ?_⟩
  unfold wpAnyIn
  refine ⟨fun h0 => (by rw [hr] at h0; exact absurd h0 hne), fun j hj => ?_⟩
  rw [hr] at hj
  obtain ⟨o, ho, h1⟩ := each_mem h j hj
  have := h1.out a w ha hs
  unfold wpOpIn
  have ho' : all.toArray[j]? = some o := by simpa using ho
  simp only [ho']
  unfold wpListIn at this
  split
  · rename_i hw
    rw [if_pos hw] at this
    exact any_one_aux this
  · rename_i hw
    rw [if_neg hw] at this
    exact ⟨this.1, this.2⟩
/-- Behind one operation. -/
theorem done_any {i : Nat} (h : Any E k all f (listed.setIfInBounds i true) l L) : Done E (.loop (fun a w => wpAnyIn (fen E.rd) 0 E.P .any all.toArray (postF E.rd E.P E.R k) f (listed.setIfInBounds i true) a w) :: k) l L :=
  done_loop fun a w ha hs => h.out a w ha hs
theorem any_nil (hr : Region.ready .any all.toArray listed = []) (h : Done E k l L) : Any E k all 0 listed l L :=
  ⟨fun a w ha hs => ⟨hr, h.out a w ha hs⟩⟩
/-- The state behind a piece of code, told: the ways through it meet again. -/
def Meet (E : Env) (l : Sl) (L : List Ob) : Act → World → Prop := fun a w => SlR E.n E.D l a ∧ Hs E.w0 L w
theorem at_meet {c : Code} (l' : Sl) (L' : List Ob) (h1 : At E (.loop (Meet E l' L') :: k) c l L) (h2 : Done E k l' L') : At E k c l L :=
  ⟨fun a w ha hs => by
    refine wpIn_mono (h1.out a w ha hs) fun e a w q => ?_
    cases e with
    | normal => exact h2.out a w q.1 q.2
    | _ => exact q⟩
theorem done_meet {l' : Sl} {L' : List Ob} (ts : List Nat) (hl : keepL l ts = some l') (hL : L = L') : Done E (.loop (Meet E l' L') :: k) l L :=
  done_loop fun a w ha hs => ⟨ha.sub (keepL_mem hl), hL ▸ hs⟩
theorem each_nil : EachF E k all f listed l L [] := trivial
theorem each_cons {i : Nat} {is : List Nat} (o : Oper) (ho : all[i]? = some o) (h : Ops E (.loop (fun a w => wpAnyIn (fen E.rd) 0 E.P .any all.toArray (postF E.rd E.P E.R k) f (listed.setIfInBounds i true) a w) :: k) all [o] i l L) (t : EachF E k all f listed l L is) : EachF E k all f listed l L (i :: is) := ⟨⟨o, ho, h⟩, t⟩
/-- A state that all ways come to, told. -/
theorem any_cut (f' : Nat) (listed' : Array Bool) (l' : Sl) (L' : List Ob) (h2 : Any E k all f' listed' l' L') (h1 : Any E k all f' listed' l' L' → Any E k all f listed l L) : Any E k all f listed l L := h1 h2
/-- The same, where the ways make new blocks. -/
theorem any_cutG (f' : Nat) (listed' : Array Bool) (l' : (Nat → Nat) → Sl) (L' : (Nat → Nat) → List Ob) (h2 : ∀ γ, Any E k all f' listed' (l' γ) (L' γ)) (h1 : (∀ γ, Any E k all f' listed' (l' γ) (L' γ)) → Any E k all f listed l L) : Any E k all f listed l L := h1 h2
theorem any_weak {f' : Nat} {listed' : Array Bool} {l' : Sl} {L' : List Ob} (h : Any E k all f' listed' l' L') (ts : List Nat) (hl : keepL l ts = some l') (hL : L = L') (hf : f = f') (hli : listed = listed') : Any E k all f listed l L := by
  subst hL hf hli
  exact ⟨fun a w ha hs => h.out a w (ha.sub (keepL_mem hl)) hs⟩

/-- A call walked into. -/
theorem ops_inline {os : List Oper} {o : Oper} {i : Nat} {g : FuncId} {args : Array Value} {fn : Func} {c : Code} {n' : Nat} (hw : wantL all l o = some true) (hd : okD E.n o.dst = true) (hc : calleeL l o = some (g, args)) (he : ∀ args w, (callFunc g args).run E.P w = .ok (.enter g args) w)
    (hf : E.P.funcs[g]? = some fn) (hb : fn.body = some c) (hn : fn.ntmps = n') (hs : Nat.ble args.size n' = true)
    (h : At ⟨E.P, none, [], bodyPost E.P fn (fun e w' => ∃ v L', e = .returned v ∧ Hs E.w0 L' w' ∧ Ops E k all os (i + 1) (putL o.dst v l) L'), E.w0, n'⟩ [] c (argL args) L) : Ops E k all (o :: os) i l L := by
  refine ⟨fun a w ha hs' => ?_⟩
  have hg := wantL_spec ha hw
  refine wpListIn_step fun K hK => ?_
  rw [if_pos hg]
  refine ⟨fun _ _ => trivial, ?_⟩
  rw [Oper.semAt_eq _ _ _ (callee_known hc), run_callee ha hc he w]
  refine ⟨fun h => (by cases h), fen_calls ?_⟩
  refine (enter hs' hf hb hn hs h).mono fun e w' ⟨v, L', he, hs2, hO⟩ => ?_
  subst he
  exact hK _ _ (hO.out _ _ (ha.put hd v) hs2)
theorem at_back {P : Program} {fn : Func} {w0 : World} {n : Nat} {X : Value → List Ob → Prop} (src : List Src) (v : Value) (rq : List Prop) (h1 : rSeen (retV P w0 fn.results.toList l L src) = some (v, rq)) (h2 : rtL (retV P w0 fn.results.toList l L src) = rtR (retV P w0 fn.results.toList l L src)) (h3 : AllP rq)
    (h : X v L) : At ⟨P, none, [], bodyPost P fn (fun e w' => ∃ v L', e = .returned v ∧ Hs w0 L' w' ∧ X v L'), w0, n⟩ k .ret l L :=
  at_return src v rq h1 h2 h3 fun _ hw => ⟨v, L, rfl, hw, h⟩
theorem done_back {P : Program} {fn : Func} {w0 : World} {n : Nat} {X : Value → List Ob → Prop} (hr : fn.results = #[]) (h : X (.tuple #[]) L) : Done ⟨P, none, [], bodyPost P fn (fun e w' => ∃ v L', e = .returned v ∧ Hs w0 L' w' ∧ X v L'), w0, n⟩ [] l L :=
  done_return hr fun _ hw => ⟨_, L, rfl, hw, h⟩
/-- any_take, in a function's own body. -/
theorem any_tk {P : Program} {fn : Func} {R : Ending → World → Prop} {w0 : World} {n : Nat} (is : List Nat) (hs : List (Nat × Hint)) (ts : List Nat) (ch : Sl) (rq : List Prop) (li : Array Bool) (hsel : Region.noSelect all.toArray = true)
    (h : (evTs P n all hs is listed l).map (fun r => (r.1, keepL r.2.1 (ch.map (·.1) ++ ts), r.2.2)) = some (li, some (ch ++ restL l ts), rq)) (h3 : AllP rq) (h4 : Any ⟨P, none, [], bodyPost P fn R, w0, n⟩ k all f li (ch ++ restL l ts) L) : Any ⟨P, none, [], bodyPost P fn R, w0, n⟩ k all (f + is.length) listed l L :=
  any_take (E := ⟨P, none, [], bodyPost P fn R, w0, n⟩) is hs ts ch rq li rfl ⟨fn, R, rfl⟩ hsel h h3 h4
end
end Go.Proofs.Ytfhlmijdokfdpaa

/-! The walker: slice expressions; cells of one's own row laid over. -/
namespace Go.Proofs.Ytfhlmijdokfdpaa
open Go Go.RowKit

theorem addr_add (b o n : Nat) : (⟨b, o, none⟩ : Addr).add n = ⟨b, o + n, none⟩ := by
  unfold Addr.add
  split
  · rename_i h; rw [h]; rfl
  · rfl
section
variable {P : Program} {T e : TypeId} {p : Option Addr} {n cap k by_ : Nat} {inf : TypeInfo}
theorem run_bound {k : IntKind} {h y : Nat} {c : BoundsCode} (hh : h ≤ y) (w : World) : (Instr.sliceBound (.int k (h : Int)) y c).run P w = .ok h w := by
  have : (0 : Int) ≤ h ∧ (h : Int) ≤ y := ⟨by omega, by omega⟩
  simp [Instr.sliceBound, asIntOf, this, hh]
/-- s[:h] -/
theorem sl_hi {h : Nat} (hu : P.underlying T = some (.slice e)) (hi : P.info? e = some inf) (hh : h ≤ cap) : SlRun P T (.slice p n cap) none (some (.int .i64 (h : Int))) none (.slice p h cap) := by
  intro w
  have e1 : (if cap = 0 then p else p.map (·.add (0 * inf.size))) = p := by
    split
    · rfl
    · cases p with
      | none => rfl
      | some a => simp [Addr.add]
  simp [Instr.sliceAt, Instr.slice, underlying, hu, Instr.sliceBounds, run_bound hh, sizeOf, typeInfo, hi]
  simpa using e1
/-- s[lo:], at an address, lo below the capacity. -/
theorem sl_lo {b o lo : Nat} (hu : P.underlying T = some (.slice e)) (hi : P.info? e = some inf) (hlo : lo ≤ n) (hc : lo < cap) : SlRun P T (.slice (some ⟨b, o, none⟩) n cap) (some (.int .i64 (lo : Int))) none none (.slice (some ⟨b, o + lo * inf.size, none⟩) (n - lo) (cap - lo)) := by
  intro w
  have hne : ¬ cap = lo := by omega
  simp [Instr.sliceAt, Instr.slice, underlying, hu, Instr.sliceBounds, run_bound hlo, sizeOf, typeInfo, hi, hne, addr_add]
theorem slE_hi {h : Nat} (hE : elemB P T e k by_ = true) (hh : h ≤ cap) : SlRun P T (.slice p n cap) none (some (.int .i64 (h : Int))) none (.slice p h cap) := by
  obtain ⟨hu, i, z, hi, _⟩ := elemB_spec hE
  exact sl_hi hu hi hh
theorem slE_lo {b o lo : Nat} (hE : elemB P T e k by_ = true) (hlo : lo ≤ n) (hc : lo < cap) : SlRun P T (.slice (some ⟨b, o, none⟩) n cap) (some (.int .i64 (lo : Int))) none none (.slice (some ⟨b, o + lo * k, none⟩) (n - lo) (cap - lo)) := by
  obtain ⟨hu, i, z, hi, _, _, hk, _⟩ := elemB_spec hE
  subst hk
  exact sl_lo hu hi hlo hc
theorem Sv.take {α : Type} [Enc α] {w : World} {l : List α} (h : Sv w p l) (m : Nat) : Sv w p (l.take m) :=
  ⟨fun hne => h.addr fun e => hne (by rw [e]; simp), fun b o e i hi => by
    have hi' : i < l.length := by rw [List.length_take] at hi; omega
    have := h.cell b o e i hi'
    rwa [List.getElem_take]⟩
end
end Go.Proofs.Ytfhlmijdokfdpaa

/-! Copies. -/
namespace Go.Proofs.Ytfhlmijdokfdpaa
open Go Go.RowKit

set_option maxRecDepth 100000 in
theorem copy_d (p : Option Addr) (n cap : Nat) (l : List Port) (w : World)
 (hsl : Sv w p l) (hn : n = l.length) (hb : n ≤ 1000)
 : Calls Try.prog 26 #[.agg #[.slice p n cap]] w fun e w' => ∃ q capq Y, e = .returned (.agg #[.slice q n capq]) ∧ SlO 40 Y q n capq l ∧ Below w.heap.size w w' ∧ Hs w Y w' := by
 refine enter (Hs.start w) Try.func26 rfl Try.ntmps26 rfl ?_
 refine at_seq ?_
 refine am [] [] (fun γ1 => [(1, .pointer (some ⟨γ1 0, 0, none⟩)), (2, .pointer (some ⟨γ1 1, 0, none⟩))]) (fun γ1 L => bx (γ1 1) (#[.slice none 0 0]) 24 :: bx (γ1 0) (#[.slice p n cap]) 24 :: L) (fun γ1 => []) (fun _ => by kernel_rfl) (fun γ1 => al0) (fun γ1 => ?_)
 refine done_seq ?_
 refine at_seq ?_
 refine at_ops ?_
 refine om 3 [(2, .go (owns 2 0 1))] [2] (fun γ2 => [(3, .slice (some ⟨γ2 0, 0, none⟩) 0 0), (5, .slice p n cap)]) (fun γ2 L => bx (γ2 0) (#[]) 40 :: L) (fun γ2 => []) (fun _ => by kernel_rfl) (fun γ2 => al0) (fun γ2 => ?_)
 refine ops_append (α := Port) [bx (γ1 1) (#[.slice none 0 0]) 24, bx (γ1 0) (#[.slice p n cap]) 24] ([bx (γ2 0) (#[]) 40]) ([]) (mvE rfl) rfl (by kernel_rfl) (by kernel_rfl) (p := (some ⟨γ2 0, 0, none⟩)) (n := 0) (cap := 0) (m := n) (yv := .slice p n cap) (by kernel_rfl) (by kernel_rfl) (T := 40) (by_ := 32) (by kernel_rfl) ([]) l (SlO.lit (by rfl) (by rfl) (by simp [maxLen])) (fun w hw => src_svn Try.underlying22 (hsl.kept hw.below) hn) hn (by have hmx : maxLen = 9223372036854775807 := rfl; omega) (by have hmx : maxLen = 9223372036854775807 := rfl; omega) (fun Y3 p3 cap3 hO3 => ?_)
 refine om 2 [(5, .go (owns 0 0 1))] [2] (fun _ => []) (fun _ L => (L.set 0 (bx (γ1 1) (#[.slice p3 (0 + n) cap3]) 24))) (fun _ => []) (fun _ => by kernel_rfl) (fun _ => al0) (fun _ => ?_)
 refine ops_nil ?_
 refine done_seq ?_
 refine at_return (owns 0 0 1) (.agg #[.slice p3 (0 + n) cap3]) [] (by kernel_rfl) (by kernel_rfl) al0 ?_
 exact fun w' hw => ⟨_, _, _, by rw [Nat.zero_add], by simpa using hO3, hw.below, ((hw.tailN 2).sub (List.sublist_append_left Y3 ([])))⟩

set_option maxRecDepth 100000 in
theorem short_d (p : Option Addr) (n cap : Nat) (l : List Port) (w : World)
 (hsl : Sv w p l) (hn : n = l.length) (hcap : n ≤ cap) (hbig : cap ≤ 9223372036854775807)
 : Calls Try.prog 11 #[.agg #[.slice p n cap]] w fun e w' => ∃ q m capq Y, e = .returned (.agg #[.slice q m capq]) ∧ SlO 40 Y q m capq (l.take 33) ∧ m ≤ 33 ∧ Below w.heap.size w w' ∧ Hs w Y w' := by
 refine enter (Hs.start w) Try.func11 rfl Try.ntmps11 rfl ?_
 refine at_seq ?_
 refine am [] [] (fun γ1 => [(1, .pointer (some ⟨γ1 0, 0, none⟩)), (2, .pointer (some ⟨γ1 1, 0, none⟩))]) (fun γ1 L => bx (γ1 1) (#[.slice none 0 0]) 24 :: bx (γ1 0) (#[.slice p n cap]) 24 :: L) (fun γ1 => []) (fun _ => by kernel_rfl) (fun γ1 => al0) (fun γ1 => ?_)
 refine done_seq ?_
 refine at_seq ?_
 by_cases q3 : (33 : Int) < ((n : Nat) : Int)
 ·
  refine at_ops ?_
  refine oq 8 [(1, .go (owns 1 0 1)), (3, .go (owns 1 0 1)), (5, .is [] (.int .i64 33)), (6, .sl (.slice p 33 cap))] [2] [(10, .agg #[.slice p 33 cap])] ([Value.int .i64 (if (33 : Int) < ((n : Nat) : Int) then 33 else (n : Nat)) = .int .i64 33] ++ ([SlRun Try.prog 22 (.slice p n cap) none (some (.int .i64 33)) none (.slice p 33 cap)])) (fun _ => by kernel_rfl) (alA (al1 (by rw [if_pos q3])) (al1 (slE_hi (P := Try.prog) (h := 33) (T := 22) (e := 40) (k := 5) (by_ := 32) (by kernel_rfl) (by omega)))) ?_
  refine ops_call (fun v L' => ∃ q capq Y, v = .agg #[.slice q 33 capq] ∧ L' = List.take 2 ([bx (γ1 1) (#[.slice none 0 0]) 24, bx (γ1 0) (#[.slice p n cap]) 24]) ++ (Y ++ List.drop 2 ([bx (γ1 1) (#[.slice none 0 0]) 24, bx (γ1 0) (#[.slice p n cap]) 24])) ∧ SlO 40 Y q 33 capq ((l.take 33))) (by kernel_rfl) (by kernel_rfl) (by kernel_rfl) (fun args w => Try.call26 args w) (fun w hw => (copy_d p 33 cap ((l.take 33)) w ((hsl.kept hw.below).take 33) (by rw [List.length_take]; omega) (by omega)).mono fun e w' ⟨q, capq, Y, he, hO, hb, hY⟩ => ⟨_, _, he, ⟨q, capq, Y, rfl, rfl, hO⟩, hw.join hb hY 2⟩) ?_
  rintro v5 L5 ⟨q5, cq5, Y5, rfl, rfl, hO5⟩
  refine om 1 [(9, .go (owns 0 0 1))] [2] (fun _ => []) (fun _ L => (L.set 0 (bx (γ1 1) (#[.slice q5 33 cq5]) 24))) (fun _ => []) (fun _ => by kernel_rfl) (fun _ => al0) (fun _ => ?_)
  refine ops_nil ?_
  refine done_seq ?_
  refine at_return (owns 0 0 1) (.agg #[.slice q5 33 cq5]) [] (by kernel_rfl) (by kernel_rfl) al0 ?_
  exact fun w' hw => ⟨_, _, _, _, rfl, by rw [show l.take 33 = (l.take 33) from by rfl]; exact hO5, by omega, hw.below, ((hw.tailN 2).sub (List.sublist_append_left Y5 ([])))⟩
 ·
  refine at_ops ?_
  refine oq 8 [(1, .go (owns 1 0 1)), (3, .go (owns 1 0 1)), (5, .is [] (.int .i64 ((n : Nat)))), (6, .sl (.slice p n cap))] [2] [(10, .agg #[.slice p n cap])] ([Value.int .i64 (if (33 : Int) < ((n : Nat) : Int) then 33 else (n : Nat)) = .int .i64 ((n : Nat))] ++ ([SlRun Try.prog 22 (.slice p n cap) none (some (.int .i64 ((n : Nat)))) none (.slice p n cap)])) (fun _ => by kernel_rfl) (alA (al1 (by rw [if_neg q3])) (al1 (slE_hi (P := Try.prog) (h := n) (T := 22) (e := 40) (k := 5) (by_ := 32) (by kernel_rfl) (by omega)))) ?_
  refine ops_call (fun v L' => ∃ q capq Y, v = .agg #[.slice q n capq] ∧ L' = List.take 2 ([bx (γ1 1) (#[.slice none 0 0]) 24, bx (γ1 0) (#[.slice p n cap]) 24]) ++ (Y ++ List.drop 2 ([bx (γ1 1) (#[.slice none 0 0]) 24, bx (γ1 0) (#[.slice p n cap]) 24])) ∧ SlO 40 Y q n capq ((l.take n))) (by kernel_rfl) (by kernel_rfl) (by kernel_rfl) (fun args w => Try.call26 args w) (fun w hw => (copy_d p n cap ((l.take n)) w ((hsl.kept hw.below).take n) (by rw [List.length_take]; omega) (by omega)).mono fun e w' ⟨q, capq, Y, he, hO, hb, hY⟩ => ⟨_, _, he, ⟨q, capq, Y, rfl, rfl, hO⟩, hw.join hb hY 2⟩) ?_
  rintro v8 L8 ⟨q8, cq8, Y8, rfl, rfl, hO8⟩
  refine om 1 [(9, .go (owns 0 0 1))] [2] (fun _ => []) (fun _ L => (L.set 0 (bx (γ1 1) (#[.slice q8 n cq8]) 24))) (fun _ => []) (fun _ => by kernel_rfl) (fun _ => al0) (fun _ => ?_)
  refine ops_nil ?_
  refine done_seq ?_
  refine at_return (owns 0 0 1) (.agg #[.slice q8 n cq8]) [] (by kernel_rfl) (by kernel_rfl) al0 ?_
  exact fun w' hw => ⟨_, _, _, _, rfl, by rw [show l.take 33 = (l.take n) from by rw [List.take_of_length_le (by omega), List.take_of_length_le (by omega)]]; exact hO8, by omega, hw.below, ((hw.tailN 2).sub (List.sublist_append_left Y8 ([])))⟩
end Go.Proofs.Ytfhlmijdokfdpaa

/-! Functions of package slices. -/
namespace Go.Proofs.Ytfhlmijdokfdpaa
open Go Go.RowKit

set_option maxRecDepth 100000 in
theorem clone_d (p : Option Addr) (n cap : Nat) (l : List Port) (w : World)
    (hsl : Sv w p l) (hn : n = l.length) (hb : n ≤ 1000)
    : Calls Try.prog 72 #[.slice p n cap] w fun e w' => ∃ q capq Y, e = .returned (.slice q n capq) ∧ SlO 40 Y q n capq l ∧ Below w.heap.size w w' ∧ Hs w Y w' := by
  refine enter (Hs.start w) Try.func72 rfl Try.ntmps72 rfl ?_
  refine at_seq ?_
  refine aq [] [0] [] ([]) (fun _ => by kernel_rfl) al0 ?_
  refine done_seq ?_
  refine at_seq ?_
  refine at_seq ?_
  rcases p with _ | a3
  ·
    refine aq [] [0] [(4, .bool true)] ([]) (fun _ => by kernel_rfl) al0 ?_
    refine done_seq ?_
    refine at_true (by kernel_rfl) ?_
    refine at_seq ?_
    refine aq [] [] [(2, .slice none 0 0)] ([]) (fun _ => by kernel_rfl) al0 ?_
    refine done_seq ?_
    refine at_return ([]) (.slice none 0 0) [] (by kernel_rfl) (by kernel_rfl) al0 ?_
    exact fun w' hw => ⟨none, 0, [], by rw [hn, hsl.none]; rfl, by rw [hn, hsl.none]; exact SlO.nil, hw.below, hw.sub (List.nil_sublist _)⟩
  ·
    refine aq [] [0] [(4, .bool false)] ([]) (fun _ => by kernel_rfl) al0 ?_
    refine done_seq ?_
    refine at_false (by kernel_rfl) ?_
    refine at_skip ?_
    refine done_seq ?_
    refine at_seq ?_
    refine at_ops ?_
    refine om 2 [] [] (fun γ7 => [(5, .slice (some ⟨γ7 0, 0, none⟩) 0 0), (6, .slice (some a3) n cap)]) (fun γ7 L => bx (γ7 0) (#[]) 40 :: L) (fun γ7 => []) (fun _ => by kernel_rfl) (fun γ7 => al0) (fun γ7 => ?_)
    refine ops_append (α := Port) [] ([bx (γ7 0) (#[]) 40]) ([]) (mvE rfl) rfl (by kernel_rfl) (by kernel_rfl) (p := (some ⟨γ7 0, 0, none⟩)) (n := 0) (cap := 0) (m := n) (yv := .slice (some a3) n cap) (by kernel_rfl) (by kernel_rfl) (T := 40) (by_ := 32) (by kernel_rfl) ([]) l (SlO.lit (by rfl) (by rfl) (by simp [maxLen])) (fun w hw => src_svn Try.underlying22 (hsl.kept hw.below) hn) hn (by have hmx : maxLen = 9223372036854775807 := rfl; omega) (by have hmx : maxLen = 9223372036854775807 := rfl; omega) (fun Y8 p8 cap8 hO8 => ?_)
    refine oq 1 [] [] [(2, .slice p8 (0 + n) cap8)] ([]) (fun _ => by kernel_rfl) al0 ?_
    refine ops_nil ?_
    refine done_seq ?_
    refine at_return ([]) (.slice p8 (0 + n) cap8) [] (by kernel_rfl) (by kernel_rfl) al0 ?_
    exact fun w' hw => ⟨_, _, _, by rw [Nat.zero_add], by simpa using hO8, hw.below, ((hw.tailN 0).sub (List.sublist_append_left Y8 ([])))⟩

set_option maxRecDepth 100000 in
theorem index_d (p : Option Addr) (n cap : Nat) (l : List Int) (k : Int) (w : World)
    (hsl : Sv w p l) (hn : n = l.length) (hb : n ≤ 1000)
    : Calls Try.prog 53 #[.slice p n cap, .int .i64 k] w fun e w' => e = .returned (.int .i64 (idxI l k)) ∧ Below w.heap.size w w' := by
  refine enter (Hs.start w) Try.func53 rfl Try.ntmps53 rfl ?_
  refine at_seq ?_
  refine aq [] [0, 1] [] ([]) (fun _ => by kernel_rfl) al0 ?_
  refine done_seq ?_
  refine at_seq ?_
  refine at_seq ?_
  refine aq [] [0, 1] [(7, .int .i64 ((n : Nat))), (8, .int .i64 0)] ([]) (fun _ => by kernel_rfl) al0 ?_
  refine done_seq ?_
  refine at_block ?_
  refine at_loop (α := Nat) [0, 1, 7, 8] (fun j => [(0, .slice p n cap), (1, .int .i64 k), (7, .int .i64 ((n : Nat))), (8, .int .i64 ((j : Nat)))]) (fun j => []) (fun j => j ≤ n ∧ ∀ (t : Nat) (y : Int), t < j → l[t]? = some y → ¬ y = k) (fun j => n - j) 0 (by kernel_rfl) rfl ⟨Nat.zero_le _, fun t y h => by omega⟩ ?_
  rintro j
  rintro ⟨hj, hI⟩
  refine at_seq ?_
  by_cases q4 : ((j : Nat) : Int) < ((n : Nat) : Int)
  ·
    refine aq [(0, .yes)] [0, 1, 7, 8] [(9, .bool true)] ([((j : Nat) : Int) < ((n : Nat) : Int)]) (fun _ => by kernel_rfl) (al1 q4) ?_
    refine done_seq ?_
    refine at_seq ?_
    refine at_true (by kernel_rfl) ?_
    refine at_skip ?_
    refine done_seq ?_
    refine at_seq ?_
    refine at_block ?_
    refine at_seq ?_
    refine aq [] [0, 1, 7, 8] [(5, .int .i64 ((j : Nat)))] ([]) (fun _ => by kernel_rfl) al0 ?_
    refine done_seq ?_
    refine at_seq ?_
    obtain ⟨b8, o8, rfl⟩ := hsl.pos (i := j) (by omega)
    obtain ⟨x10, hx10⟩ := get_some (l := l) (m := j) (by omega)
    by_cases q12 : (k : Int) = (x10 : Int)
    ·
      refine aq [(3, .at b8 o8 j), (4, .go (outs b8 (o8 + j * 1) [.int .i64 x10])), (5, .yes)] [0, 1, 5, 7, 8] [(16, .bool true)] ([(some ⟨b8, o8, none⟩ : Option Addr) = some ⟨b8, o8, none⟩, ((j : Nat)) = ((j : Nat) : Int), j < n] ++ (cellsP w b8 (o8 + j * 1) [.int .i64 x10] ++ ([(k : Int) = (x10 : Int)]))) (fun _ => by kernel_rfl) (alA (al2 rfl (al2 rfl (al1 (by omega)))) (alA (rd_pre (hsl.get hx10) _ rfl) (al1 q12))) ?_
      refine done_seq ?_
      refine at_true (by kernel_rfl) ?_
      refine at_seq ?_
      refine aq [] [] [(4, .int .i64 ((j : Nat)))] ([]) (fun _ => by kernel_rfl) al0 ?_
      refine done_seq ?_
      refine at_return ([]) (.int .i64 ((j : Nat))) [] (by kernel_rfl) (by kernel_rfl) al0 ?_
      exact fun w' hw => ⟨by rw [idx_hit hI hx10 (by omega)], hw.below⟩
    ·
      refine aq [(3, .at b8 o8 j), (4, .go (outs b8 (o8 + j * 1) [.int .i64 x10])), (5, .no)] [0, 1, 5, 7, 8] [(16, .bool false)] ([(some ⟨b8, o8, none⟩ : Option Addr) = some ⟨b8, o8, none⟩, ((j : Nat)) = ((j : Nat) : Int), j < n] ++ (cellsP w b8 (o8 + j * 1) [.int .i64 x10] ++ ([¬ ((k : Int) = (x10 : Int))]))) (fun _ => by kernel_rfl) (alA (al2 rfl (al2 rfl (al1 (by omega)))) (alA (rd_pre (hsl.get hx10) _ rfl) (al1 q12))) ?_
      refine done_seq ?_
      refine at_false (by kernel_rfl) ?_
      refine at_skip ?_
      refine done_block ?_
      refine done_seq ?_
      refine aq [(0, .fit)] [0, 1, 7] [(8, .int .i64 ((j + 1 : Nat)))] ([Fit .i64 ((j + 1 : Nat))]) (fun _ => by kernel_rfl) (al1 (fit64 (by omega) (by omega))) ?_
      exact done_round [0, 1, 7, 8] (j + 1) (by kernel_rfl) rfl ⟨by omega, fun t y ht e => by
          by_cases htj : t = j
          · subst htj; rw [hx10] at e; cases e; omega
          · exact hI t y (by omega) e⟩ (by first | omega | (simp only; omega))
  ·
    refine aq [(0, .no)] [0, 1, 7, 8] [(9, .bool false)] ([¬ (((j : Nat) : Int) < ((n : Nat) : Int))]) (fun _ => by kernel_rfl) (al1 q4) ?_
    refine done_seq ?_
    refine at_seq ?_
    refine at_false (by kernel_rfl) ?_
    refine at_leave _ (by rfl) ?_
    refine done_seq ?_
    refine at_seq ?_
    refine aq [] [] [(4, .int .i64 (-1))] ([]) (fun _ => by kernel_rfl) al0 ?_
    refine done_seq ?_
    refine at_return ([]) (.int .i64 (-1)) [] (by kernel_rfl) (by kernel_rfl) al0 ?_
    exact fun w' hw => ⟨by rw [← idx_miss hI (by omega)], hw.below⟩

set_option maxRecDepth 100000 in
theorem contains_d (p : Option Addr) (n cap : Nat) (l : List Int) (k : Int) (w : World)
    (hsl : Sv w p l) (hn : n = l.length) (hb : n ≤ 1000)
    : Calls Try.prog 27 #[.slice p n cap, .int .i64 k] w fun e w' => e = .returned (.bool (decide (k ∈ l))) ∧ Below w.heap.size w w' := by
  refine enter (Hs.start w) Try.func27 rfl Try.ntmps27 rfl ?_
  refine at_seq ?_
  refine aq [] [0, 1] [] ([]) (fun _ => by kernel_rfl) al0 ?_
  refine done_seq ?_
  refine at_seq ?_
  refine at_ops ?_
  refine oq 2 [] [] [(5, .slice p n cap), (6, .int .i64 k)] ([]) (fun _ => by kernel_rfl) al0 ?_
  refine ops_callD (.int .i64 (idxI l k)) (by kernel_rfl) (by kernel_rfl) (by kernel_rfl) (fun args w => Try.call53 args w) (fun w hw => index_d p n cap l k w (hsl.kept hw.below) hn hb) ?_
  by_cases q4 : (idxI l k : Int) ≥ (0 : Int)
  ·
    refine oq 2 [(3, .yes)] [] [(4, .bool true)] ([(idxI l k : Int) ≥ (0 : Int)]) (fun _ => by kernel_rfl) (al1 q4) ?_
    refine ops_nil ?_
    refine done_seq ?_
    refine at_return ([]) (.bool true) [] (by kernel_rfl) (by kernel_rfl) al0 ?_
    exact fun w' hw => ⟨by rw [idx_in (by assumption)], hw.below⟩
  ·
    refine oq 2 [(3, .no)] [] [(4, .bool false)] ([¬ ((idxI l k : Int) ≥ (0 : Int))]) (fun _ => by kernel_rfl) (al1 q4) ?_
    refine ops_nil ?_
    refine done_seq ?_
    refine at_return ([]) (.bool false) [] (by kernel_rfl) (by kernel_rfl) al0 ?_
    exact fun w' hw => ⟨by rw [idx_out (by assumption)], hw.below⟩
end Go.Proofs.Ytfhlmijdokfdpaa

/-! The walker: copy, clear, append of a made slice: cells of one's own row laid over. -/
namespace Go.Proofs.Ytfhlmijdokfdpaa
open Go Go.RowKit

/-- The cells c with vs laid over from o on. -/
def sets : Array Value → Nat → List Value → Array Value
  | c, _, [] => c
  | c, o, v :: vs => sets (c.setIfInBounds o v) (o + 1) vs
theorem sets_size : ∀ (vs : List Value) (c : Array Value) (o : Nat), (sets c o vs).size = c.size
  | [], _, _ => rfl
  | v :: vs, c, o => by rw [sets, sets_size vs]; simp
theorem sets_get : ∀ (vs : List Value) (c : Array Value) (o j : Nat), o + vs.length ≤ c.size → (sets c o vs)[j]? = if o ≤ j ∧ j < o + vs.length then vs[j - o]? else c[j]?
  | [], c, o, j, _ => by rw [if_neg (by simp only [List.length_nil]; omega)]; rfl
  | v :: vs, c, o, j, h => by
    simp only [List.length_cons] at h ⊢
    rw [sets, sets_get vs _ _ _ (by simp; omega)]
    by_cases h1 : o = j
    · subst h1
      rw [if_neg (by omega), if_pos (by omega)]
      simp [show o < c.size by omega]
    · by_cases h2 : o + 1 ≤ j ∧ j < o + 1 + vs.length
      · rw [if_pos h2, if_pos (by omega), show j - o = (j - (o + 1)) + 1 by omega, List.getElem?_cons_succ]
      · rw [if_neg h2, if_neg (by omega), Array.getElem?_setIfInBounds_ne h1]
theorem turn_sets (g : Nat) (T : TypeId) : ∀ (vs : List Value) (o : Nat) (w : World) (c : Array Value), w.heap[g]? = some (.cells c T (0, 0)) → o + vs.length ≤ c.size → Turn g (.cells (sets c o vs) T (0, 0)) w (w.setCells g o vs)
  | [], _, w, c, h, _ => ⟨h, fun _ _ => rfl, rfl, rfl, rfl, rfl⟩
  | v :: vs, o, w, c, h, hl => by
    simp only [List.length_cons] at hl
    have t1 := turn_cell h o v
    have t2 := turn_sets g T vs (o + 1) (w.setCell ⟨g, o, none⟩ v) _ t1.row (by simp; omega)
    exact ⟨t2.row, fun k hk => (t2.rest k hk).trans (t1.rest k hk), t2.size.trans t1.size, t2.os.trans t1.os, t2.tape.trans t1.tape, t2.output.trans t1.output⟩

section
variable {P : Program} {w : World} {t tx T ty : TypeId} {k by_ : Nat}
/-- copy into one's own row. -/
theorem run_copyO (hE : elemB P t T k by_ = true) {g o dn dc m cnt : Nat} {c : Array Value} {T' : TypeId} {y : Value} {vs : List Value} (hg : w.heap[g]? = some (.cells c T' (0, 0))) (hm : ∀ w', (Builtin.lenOf y).run P w' = .ok m w') (hcnt : cnt = min m dn)
    (hf : (Builtin.firstCells k cnt y).run P w = .ok vs.toArray w) (ho : o + vs.length ≤ c.size) (h1 : ∀ u ∈ vs, u.oneCell' = true) :
    (Builtin.copy_ #[t, tx] ty #[.slice (some ⟨g, o, none⟩) dn dc, y]).run P w = .ok (.int .i64 cnt) (w.setCells g o vs) := by
  obtain ⟨ht, i, z, hi, _, _, hk, _⟩ := elemB_spec hE
  subst hk
  have hst := run_storeCells_cells (P := P) g o vs 0 w (fun j hj => by rw [Nat.add_zero, cell_own hg, Array.getElem?_eq_getElem (by omega)]; rfl) (fun j hj => froz_own hg _) h1
  simp only [Nat.add_zero] at hst
  have e : Nat.min m dn = cnt := hcnt.symm
  simp [Builtin.copy_, run_underlying ht, sizeOf, typeInfo, hi, hm, e, hf, hst, goInt]
theorem run_copy0 (hE : elemB P t T k by_ = true) {dn dc m : Nat} {y : Value} {vs : List Value} {p : Option Addr} (hm : ∀ w', (Builtin.lenOf y).run P w' = .ok m w') (hcnt : min m dn = 0)
    (hf : (Builtin.firstCells k 0 y).run P w = .ok #[] w) : (Builtin.copy_ #[t, tx] ty #[.slice p dn dc, y]).run P w = .ok (.int .i64 0) w := by
  obtain ⟨ht, i, z, hi, _, _, hk, _⟩ := elemB_spec hE
  subst hk
  have e : Nat.min m dn = 0 := hcnt
  cases p <;> simp [Builtin.copy_, run_underlying ht, sizeOf, typeInfo, hi, hm, e, hf, goInt, storeCells]
/-- The first elements of a slice that reads as l. -/
theorem first_sv {α : Type} [Enc α] {p : Option Addr} {m cap cnt : Nat} {l : List α} (h : Sv w p l) (hc : cnt ≤ l.length) : (Builtin.firstCells (Enc.k α) cnt (.slice p m cap)).run P w = .ok ((l.take cnt).flatMap Enc.enc).toArray w := by
  by_cases h0 : cnt = 0
  · subst h0
    cases p with
    | none => simp [Builtin.firstCells]
    | some a => simp [Builtin.firstCells, loadCells, loadCellsFrom]
  · obtain ⟨b, o, rfl⟩ := h.addr fun e => by subst e; simp at hc; omega
    have hlen : (l.take cnt).length = cnt := by rw [List.length_take]; omega
    refine run_firstCells_some w _ cnt ⟨b, o, none⟩ m cap _ (by rw [flat_len, hlen]) fun j v hj => ?_
    have hlt : j < cnt * Enc.k α := by
      have := (List.getElem?_eq_some_iff.1 hj).1
      rwa [flat_len, hlen] at this
    have hk : 0 < Enc.k α := Enc.pos
    have hi : j / Enc.k α < (l.take cnt).length := by rw [hlen]; exact Nat.div_lt_of_lt_mul (by rwa [Nat.mul_comm])
    have ej : j / Enc.k α * Enc.k α + j % Enc.k α = j := by rw [Nat.mul_comm]; exact Nat.div_add_mod ..
    have h2 := flat_get (l.take cnt) _ hi _ (Nat.mod_lt j hk)
    rw [ej, hj] at h2
    have h3 := (h.take cnt).cell b o rfl _ hi (j % Enc.k α) v h2.symm
    rw [addr_add]
    rwa [Nat.add_assoc, ej] at h3
/-- The first cells of a stretch of one's own row. -/
theorem first_row {g o m cap cnt : Nat} {c : Array Value} {T' : TypeId} (hg : w.heap[g]? = some (.cells c T' (0, 0))) (hl : o + cnt * k ≤ c.size) : (Builtin.firstCells k cnt (.slice (some ⟨g, o, none⟩) m cap)).run P w = .ok ((c.toList.drop o).take (cnt * k)).toArray w := by
  refine run_firstCells_some w _ cnt ⟨g, o, none⟩ m cap _ (by rw [List.length_take, List.length_drop, Array.length_toList]; omega) fun j v hj => ?_
  rw [addr_add, cell_own hg]
  rw [List.getElem?_take] at hj
  split at hj
  · rw [List.getElem?_drop] at hj; simpa using hj
  · cases hj
theorem len_slice {p : Option Addr} {m cap : Nat} : ∀ w', (Builtin.lenOf (.slice p m cap)).run P w' = .ok m w' := fun _ => rfl
end

section
variable {E : Env} {k : List Fr} {l : Sl} {L : List Ob} {all os : List Oper} {o : Oper} {i : Nat}
/-- copy into row j. -/
theorem ops_copy (j : Nat) {x y : Operand} {t tx T T' : TypeId} {ks by_ : Nat} (ho : o.op = .call { callee := .builtin .copy, args := #[x, y], argTypes := #[t, tx] }) (hw : wantL all l o = some true) (hd : (okD E.n o.dst && knownO l o) = true)
    {g of dn dc m cnt : Nat} {c : Array Value} {yv : Value} (vs : List Value) (hx : look l x = .slice (some ⟨g, of, none⟩) dn dc) (hy : look l y = yv) (hE : elemB E.P t T ks by_ = true) (hj : L[j]? = some (bx g c T'))
    (hm : ∀ w', (Builtin.lenOf yv).run E.P w' = .ok m w') (hcnt : cnt = min m dn) (hf : ∀ w, Hs E.w0 L w → (Builtin.firstCells ks cnt yv).run E.P w = .ok vs.toArray w) (hs : of + vs.length ≤ c.size) (h1 : ∀ u ∈ vs, u.oneCell' = true)
    (h : Ops E k all os (i + 1) (putL o.dst (.int .i64 cnt) l) (L.set j (bx g (sets c of vs) T'))) : Ops E k all (o :: os) i l L := by
  refine ⟨fun a w ha hw' => ?_⟩
  simp only [Bool.and_eq_true] at hd
  have hg := wantL_spec ha hw
  refine wpListIn_step fun K hK => ?_
  rw [if_pos hg]
  have hrow : w.heap[g]? = some (.cells c T' (0, 0)) := hw'.row j hj
  have hr := run_copyO (tx := tx) (ty := o.type) hE (dc := dc) hrow hm hcnt (hf w hw') hs h1
  refine ⟨fun _ _ => trivial, ?_⟩
  rw [Oper.semAt_eq _ _ _ (fun c e => by rw [ho] at e; cases e), look_exec ha hd.2]
  have e : (execOp (look l) o).run E.P w = .ok (.value (.int .i64 cnt)) (w.setCells g of vs) := by
    simp [execOp, ho, resolve, invoke, builtin, hx, hy, hr]
  rw [e]
  exact hK _ _ (h.out _ _ (ha.put hd.1 _) (hw'.turn j hj (turn_sets g T' vs of w c hrow hs)))
theorem run_append_grow_zero {P : Program} (w : World) (t tx ty e : TypeId) (i : TypeInfo) (z : Value) (ht : P.underlying t = some (.slice e)) (hk : P.underlying tx = some (.int .i64)) (hi : P.info? e = some i) (hz : i.zero = some z) (h0 : 0 < i.size) (base : Option Addr) (sLen sCap : Nat) (olds : List Value)
    (hold : (Builtin.firstCells i.size sLen (.slice base sLen sCap)).run P w.drew = .ok olds.toArray w.drew) (n : Nat) (hn0 : 0 < n)
    (hg : sCap < sLen + n) (h63 : ((sLen + n : Nat) : Int) ≤ 9223372036854775807) (hfit : Builtin.nextslicecap (sLen + n) sCap * i.bytes ≤ 281474976710656) (hnb : n * i.bytes ≤ 281474976710656) :
    (Builtin.append_ #[t, tx] ty #[.slice base sLen sCap, .int .i64 (n : Int)]).run P w =
      .ok (.slice (some ⟨w.heap.size, 0, none⟩) (sLen + n) (grownCap w (sLen + n) sCap e))
        (w.drew.alloc (.cells (olds.toArray ++ Builtin.zeroCells z.cells n ++ Builtin.zeroCells z.cells (grownCap w (sLen + n) sCap e - (sLen + n))) e)) := by
  have hn : ¬ (sLen + n ≤ sCap) := by omega
  have h63' : ¬ (9223372036854775807 < ((sLen : Int) + (n : Int))) := by omega
  have h48' : ¬ (281474976710656 < Builtin.nextslicecap (sLen + n) sCap * i.bytes) := by omega
  have hw : IntKind.i64.wrap (n : Int) = n := wrap_fit ⟨by simp only [kmin]; omega, by simp only [kmax]; omega⟩
  have h1 : ¬ ((n : Int) < 0) := by omega
  have h2 : ¬ (281474976710656 < (n : Int) * (i.bytes : Int)) := by rw [← Int.natCast_mul]; omega
  have h3 : ¬ (n * i.size = 0) := by
    intro h
    rcases Nat.mul_eq_zero.1 h with h | h <;> omega
  have h3a : ¬ (n = 0) := by omega
  have h3b : ¬ (i.size = 0) := by omega
  simp [Builtin.append_, run_underlying ht, run_underlying hk, sizeOf, typeInfo, zeroValue, hi, hz, asInt, asIntOf, hw, h1, h2, h3a, h3b, hn, h63', h48', Question.forced, hold, newRow, grownCap]
  intro h
  exact absurd h h3

/-- append(x, make(S, n)...) where it does not fit. -/
theorem ops_appendZ {x y : Operand} {t tx T : TypeId} {ks by_ : Nat} (ho : o.op = .call { callee := .builtin .append, args := #[x, y], argTypes := #[t, tx] }) (hw : wantL all l o = some true) (hd : (okD E.n o.dst && knownO l o) = true)
    {p : Option Addr} {m cap n : Nat} (olds : List Value) (hx : look l x = .slice p m cap) (hy : look l y = .int .i64 (n : Int)) (hE : elemB E.P t T ks by_ = true) (hk : E.P.underlying tx = some (.int .i64)) (hk0 : 0 < ks)
    (hol : olds.length = m * ks) (hf : ∀ w, Hs E.w0 L w → (Builtin.firstCells ks m (.slice p m cap)).run E.P w = .ok olds.toArray w) (hn0 : 0 < n) (hg : cap < m + n) (hmax : m + n ≤ maxLen) (hb : (m + n) * by_ ≤ 140737488355328)
    (h : ∀ g c' cap', c'.size = cap' * ks → m + n ≤ cap' → cap' ≤ maxLen → c'.toList.take (m * ks) = olds → Ops E k all os (i + 1) (putL o.dst (.slice (some ⟨g, 0, none⟩) (m + n) cap') l) (bx g c' T :: L)) : Ops E k all (o :: os) i l L := by
  refine ⟨fun a w ha hw' => ?_⟩
  simp only [Bool.and_eq_true] at hd
  have hwg := wantL_spec ha hw
  obtain ⟨ht, inf, z, hi, hz, hzs, hks, hby⟩ := elemB_spec hE
  subst hks hby
  refine wpListIn_step fun K hK => ?_
  rw [if_pos hwg]
  have hfit := growslice_fits (need := m + n) (old := cap) (bytes := inf.bytes) (by omega) hb
  have hnb : n * inf.bytes ≤ 281474976710656 := Nat.le_trans (Nat.mul_le_mul_right _ (Nat.le_add_left n m)) (by omega)
  have hr := run_append_grow_zero (P := E.P) w t tx o.type T inf z ht hk hi hz hk0 p m cap olds (hf w.drew hw'.drew) n hn0 hg (by simp only [maxLen] at hmax; omega) hfit hnb
  refine ⟨fun _ _ => trivial, ?_⟩
  rw [Oper.semAt_eq _ _ _ (fun c e => by rw [ho] at e; cases e), look_exec ha hd.2]
  have e : (execOp (look l) o).run E.P w = .ok (.value (.slice (some ⟨w.heap.size, 0, none⟩) (m + n) (grownCap w (m + n) cap T))) (w.drew.alloc (.cells (olds.toArray ++ Builtin.zeroCells z.cells n ++ Builtin.zeroCells z.cells (grownCap w (m + n) cap T - (m + n))) T)) := by
    simp [execOp, ho, resolve, invoke, builtin, hx, hy, hr]
  rw [e]
  have hge := grownCap_ge w (m + n) cap T
  refine hK _ _ ((h _ _ _ ?_ hge (grownCap_le_maxLen w (m + n) cap T hmax) ?_).out _ _ (ha.put hd.1 _) (hw'.drew.cons _))
  · rw [Array.size_append, Array.size_append, size_zeroCells, size_zeroCells, hzs]
    simp only [List.size_toArray, hol, ← Nat.add_mul]
    congr 1; omega
  · rw [Array.toList_append, Array.toList_append]
    simp only [List.toList_toArray, List.append_assoc]
    rw [List.take_append_of_le_length (by rw [hol]; exact Nat.le_refl _), List.take_of_length_le (by rw [hol]; exact Nat.le_refl _)]
end
end Go.Proofs.Ytfhlmijdokfdpaa

/-! The walker: what an insertion leaves in a row of cells; calls that the model answers itself. -/
namespace Go.Proofs.Ytfhlmijdokfdpaa
open Go Go.RowKit

section
variable {α : Type} [Enc α] {l vl : List α} {i n m cap cap2 : Nat} {cs c2 : Array Value}
theorem flat_take : ∀ (l : List α) (i : Nat), (l.take i).flatMap Enc.enc = (l.flatMap Enc.enc).take (i * Enc.k α)
  | [], i => by simp
  | x :: l, 0 => by simp
  | x :: l, i + 1 => by
    have hx := Enc.len (α := α) x
    have e1 : (i + 1) * Enc.k α = i * Enc.k α + Enc.k α := by rw [Nat.add_mul]; omega
    have e2 : (Enc.enc x).take ((i + 1) * Enc.k α) = Enc.enc x := List.take_of_length_le (by omega)
    rw [List.take_succ_cons, List.flatMap_cons, List.flatMap_cons, flat_take l i, List.take_append, hx, e2]
    congr 2
    omega
theorem flat_drop : ∀ (l : List α) (i : Nat), (l.drop i).flatMap Enc.enc = (l.flatMap Enc.enc).drop (i * Enc.k α)
  | [], i => by simp
  | x :: l, 0 => by simp
  | x :: l, i + 1 => by
    have hx := Enc.len (α := α) x
    have e1 : (i + 1) * Enc.k α = i * Enc.k α + Enc.k α := by rw [Nat.add_mul]; omega
    have e2 : (Enc.enc x).drop ((i + 1) * Enc.k α) = [] := List.drop_eq_nil_of_le (by omega)
    rw [List.drop_succ_cons, List.flatMap_cons, flat_drop l i, List.drop_append, hx, e2, List.nil_append]
    congr 1
    omega
theorem ins_own (hn : n = l.length) (hm : m = vl.length) (hi : i ≤ n) (hsz : c2.size = cap * Enc.k α) (hle : n + m ≤ cap) (hmax : cap ≤ maxLen)
    (h1 : ∀ j, j < i * Enc.k α → c2[j]? = (l.flatMap Enc.enc)[j]?) (h2 : ∀ j, j < m * Enc.k α → c2[i * Enc.k α + j]? = (vl.flatMap Enc.enc)[j]?)
    (h3 : ∀ j, j < (n - i) * Enc.k α → c2[(i + m) * Enc.k α + j]? = (l.flatMap Enc.enc)[i * Enc.k α + j]?) : OwnS (Enc.k α) ((l.take i ++ vl ++ l.drop i).flatMap Enc.enc) (n + m) cap c2 := by
  have hlen : (l.take i ++ vl ++ l.drop i).length = n + m := by simp; omega
  refine ⟨by rw [flat_len, hlen], hle, hmax, hsz, ?_⟩
  have e1 : (l.take i ++ vl ++ l.drop i).flatMap Enc.enc = (l.flatMap Enc.enc).take (i * Enc.k α) ++ vl.flatMap Enc.enc ++ (l.flatMap Enc.enc).drop (i * Enc.k α) := by
    rw [List.flatMap_append, List.flatMap_append, flat_take, flat_drop]
  rw [e1]
  have lt1 : ((l.flatMap Enc.enc).take (i * Enc.k α)).length = i * Enc.k α := by
    rw [List.length_take, flat_len]
    have := Nat.mul_le_mul_right (Enc.k α) (show i ≤ l.length by omega)
    omega
  have lt2 : (vl.flatMap Enc.enc).length = m * Enc.k α := by rw [flat_len, hm]
  have lt3 : (l.flatMap Enc.enc).length = n * Enc.k α := by rw [flat_len, hn]
  have a1 : (n + m) * Enc.k α = n * Enc.k α + m * Enc.k α := Nat.add_mul ..
  have a2 : (i + m) * Enc.k α = i * Enc.k α + m * Enc.k α := Nat.add_mul ..
  have a3 : (n - i) * Enc.k α = n * Enc.k α - i * Enc.k α := Nat.sub_mul ..
  have a4 : i * Enc.k α ≤ n * Enc.k α := Nat.mul_le_mul_right _ hi
  apply List.ext_getElem?
  intro j
  rw [List.getElem?_take]
  by_cases hj : j < (n + m) * Enc.k α
  · rw [if_pos hj, Array.getElem?_toList]
    by_cases j1 : j < i * Enc.k α
    · rw [h1 j j1, List.append_assoc, List.getElem?_append_left (by omega), List.getElem?_take, if_pos j1]
    · by_cases j2 : j < i * Enc.k α + m * Enc.k α
      · have := h2 (j - i * Enc.k α) (by omega)
        rw [show i * Enc.k α + (j - i * Enc.k α) = j by omega] at this
        rw [this, List.getElem?_append_left (by rw [List.length_append]; omega), List.getElem?_append_right (by omega), lt1]
      · have := h3 (j - (i + m) * Enc.k α) (by omega)
        rw [show (i + m) * Enc.k α + (j - (i + m) * Enc.k α) = j by omega] at this
        rw [this, List.getElem?_append_right (by rw [List.length_append]; omega), List.getElem?_drop, List.length_append, lt1, lt2]
        congr 1
        omega
  · rw [if_neg hj, List.getElem?_eq_none (by simp only [List.length_append, List.length_drop, lt1, lt2, lt3]; omega)]
theorem flat_pre (h : OwnS (Enc.k α) (l.flatMap Enc.enc) n cap cs) (j : Nat) (hj : j < n * Enc.k α) : cs[j]? = (l.flatMap Enc.enc)[j]? := h.get j hj
/-- It grew. -/
theorem ins_grow (h : OwnS (Enc.k α) (l.flatMap Enc.enc) n cap cs) (hn : n = l.length) (hm : m = vl.length) (hi : i ≤ n) (hsz : c2.size = cap2 * Enc.k α) (hle : n + m ≤ cap2) (hmax : cap2 ≤ maxLen) (hpre : c2.toList.take (i * Enc.k α) = (cs.toList.drop 0).take (i * Enc.k α)) :
    OwnS (Enc.k α) ((l.take i ++ vl ++ l.drop i).flatMap Enc.enc) (n + m) cap2 (sets (sets c2 (0 + i * Enc.k α) (vl.flatMap Enc.enc)) (0 + (i + m) * Enc.k α) ((cs.toList.drop (0 + i * Enc.k α)).take ((n - i) * Enc.k α))) := by
  have lt2 : (vl.flatMap Enc.enc).length = m * Enc.k α := by rw [flat_len, hm]
  have a1 : (n + m) * Enc.k α = n * Enc.k α + m * Enc.k α := Nat.add_mul ..
  have a2 : (i + m) * Enc.k α = i * Enc.k α + m * Enc.k α := Nat.add_mul ..
  have a3 : (n - i) * Enc.k α = n * Enc.k α - i * Enc.k α := Nat.sub_mul ..
  have a4 : i * Enc.k α ≤ n * Enc.k α := Nat.mul_le_mul_right _ hi
  have a5 : (n + m) * Enc.k α ≤ cap2 * Enc.k α := Nat.mul_le_mul_right _ hle
  have a6 : n * Enc.k α ≤ cap * Enc.k α := Nat.mul_le_mul_right _ h.le
  have lt4 : ((cs.toList.drop (0 + i * Enc.k α)).take ((n - i) * Enc.k α)).length = (n - i) * Enc.k α := by rw [List.length_take, List.length_drop, Array.length_toList, h.csz]; omega
  have g1 := fun j => sets_get (vl.flatMap Enc.enc) c2 (0 + i * Enc.k α) j (by omega)
  have g2 := fun j => sets_get ((cs.toList.drop (0 + i * Enc.k α)).take ((n - i) * Enc.k α)) (sets c2 (0 + i * Enc.k α) (vl.flatMap Enc.enc)) (0 + (i + m) * Enc.k α) j (by rw [sets_size]; omega)
  refine ins_own hn hm hi (by rw [sets_size, sets_size]; exact hsz) hle hmax (fun j hj => ?_) (fun j hj => ?_) (fun j hj => ?_)
  · rw [g2, if_neg (by omega), g1, if_neg (by omega), ← h.get j (by omega)]
    have := congrArg (fun z => z[j]?) hpre
    simp only [List.getElem?_take, if_pos hj, List.drop_zero, Array.getElem?_toList] at this
    exact this
  · rw [g2, if_neg (by omega), g1, if_pos (by omega)]
    congr 1; omega
  · rw [g2, if_pos (by omega), List.getElem?_take, if_pos (by omega), List.getElem?_drop, Array.getElem?_toList, ← h.get _ (by omega)]
    congr 1; omega
/-- It had room. -/
theorem ins_room (h : OwnS (Enc.k α) (l.flatMap Enc.enc) n cap cs) (hn : n = l.length) (hm : m = vl.length) (hi : i ≤ n) (hle : n + m ≤ cap) :
    OwnS (Enc.k α) ((l.take i ++ vl ++ l.drop i).flatMap Enc.enc) (n + m) cap (sets (sets cs (0 + (i + m) * Enc.k α) ((cs.toList.drop (0 + i * Enc.k α)).take ((n - i) * Enc.k α))) (0 + i * Enc.k α) (vl.flatMap Enc.enc)) := by
  have lt2 : (vl.flatMap Enc.enc).length = m * Enc.k α := by rw [flat_len, hm]
  have a1 : (n + m) * Enc.k α = n * Enc.k α + m * Enc.k α := Nat.add_mul ..
  have a2 : (i + m) * Enc.k α = i * Enc.k α + m * Enc.k α := Nat.add_mul ..
  have a3 : (n - i) * Enc.k α = n * Enc.k α - i * Enc.k α := Nat.sub_mul ..
  have a4 : i * Enc.k α ≤ n * Enc.k α := Nat.mul_le_mul_right _ hi
  have a5 : (n + m) * Enc.k α ≤ cap * Enc.k α := Nat.mul_le_mul_right _ hle
  have hsz := h.csz
  have lt4 : ((cs.toList.drop (0 + i * Enc.k α)).take ((n - i) * Enc.k α)).length = (n - i) * Enc.k α := by rw [List.length_take, List.length_drop, Array.length_toList, h.csz]; omega
  have g1 := fun j => sets_get ((cs.toList.drop (0 + i * Enc.k α)).take ((n - i) * Enc.k α)) cs (0 + (i + m) * Enc.k α) j (by omega)
  have g2 := fun j => sets_get (vl.flatMap Enc.enc) (sets cs (0 + (i + m) * Enc.k α) ((cs.toList.drop (0 + i * Enc.k α)).take ((n - i) * Enc.k α))) (0 + i * Enc.k α) j (by rw [sets_size]; omega)
  refine ins_own hn hm hi (by rw [sets_size, sets_size]; exact hsz) hle h.max (fun j hj => ?_) (fun j hj => ?_) (fun j hj => ?_)
  · rw [g2, if_neg (by omega), g1, if_neg (by omega), h.get j (by omega)]
  · rw [g2, if_pos (by omega)]
    congr 1; omega
  · rw [g2, if_neg (by omega), g1, if_pos (by omega), List.getElem?_take, if_pos (by omega), List.getElem?_drop, Array.getElem?_toList, ← h.get _ (by omega)]
    congr 1; omega
end

section
variable {E : Env} {k : List Fr} {l : Sl} {L : List Ob} {all os : List Oper} {o : Oper} {i : Nat}
/-- A call that the model answers by itself. -/
theorem ops_ext (v : Value) {f : FuncId} {args : Array Value} (hw : wantL all l o = some true) (hd : okD E.n o.dst = true) (hc : calleeL l o = some (f, args)) (he : ∀ w, Hs E.w0 L w → (callFunc f args).run E.P w = .ok (.value v) w)
    (h : Ops E k all os (i + 1) (putL o.dst v l) L) : Ops E k all (o :: os) i l L := by
  refine ⟨fun a w ha hs => ?_⟩
  have hg := wantL_spec ha hw
  refine wpListIn_step fun K hK => ?_
  rw [if_pos hg]
  refine ⟨fun _ _ => trivial, ?_⟩
  have hr : (execOp a.eval o).run E.P w = .ok (.value v) w := by
    have hc' := hc
    unfold calleeL at hc'
    split at hc' <;> try cases hc'
    rename_i hk
    rw [look_exec ha hk]
    split at hc' <;> try cases hc'
    rename_i c hop
    split at hc' <;> try cases hc'
    rename_i x hx
    split at hc' <;> try cases hc'
    rename_i g first cap hv
    have := he w hs
    simp only [execOp, hop, resolve, hx, hv, Deferred.ofValue, Sem.run_bind, Sem.run_pure, Result.andThen_ok, invoke]
    simpa using this
  rw [Oper.semAt_eq _ _ _ (callee_known hc), hr]
  exact hK _ _ (h.out _ _ (ha.put hd v) hs)
end
end Go.Proofs.Ytfhlmijdokfdpaa

/-! The walker: small laws for insertion and deletion. -/
namespace Go.Proofs.Ytfhlmijdokfdpaa
open Go Go.RowKit

section
variable {α : Type} [Enc α] {l : List α} {i n m cap : Nat} {cs : Array Value} {w w0 : World}
theorem flat_one (l : List α) : ∀ u ∈ l.flatMap Enc.enc, u.oneCell' = true := fun u hu => by
  obtain ⟨x, _, hx⟩ := List.mem_flatMap.1 hu
  exact Enc.one x u hx
theorem row_one (h : OwnS (Enc.k α) (l.flatMap Enc.enc) n cap cs) (hi : i ≤ n) : ∀ u ∈ (cs.toList.drop (0 + i * Enc.k α)).take ((n - i) * Enc.k α), u.oneCell' = true := fun u hu => by
  obtain ⟨j, hj⟩ := List.mem_iff_getElem?.1 hu
  have a3 : (n - i) * Enc.k α = n * Enc.k α - i * Enc.k α := Nat.sub_mul ..
  have a4 : i * Enc.k α ≤ n * Enc.k α := Nat.mul_le_mul_right _ hi
  rw [List.getElem?_take] at hj
  split at hj
  · rename_i hlt
    rw [List.getElem?_drop, Array.getElem?_toList, h.get _ (by omega)] at hj
    exact flat_one l u (List.mem_of_getElem? hj)
  · cases hj
theorem row_len (h : OwnS (Enc.k α) (l.flatMap Enc.enc) n cap cs) (hi : i ≤ n) : ((cs.toList.drop (0 + i * Enc.k α)).take ((n - i) * Enc.k α)).length = (n - i) * Enc.k α := by
  have a3 : (n - i) * Enc.k α = n * Enc.k α - i * Enc.k α := Nat.sub_mul ..
  have a4 : i * Enc.k α ≤ n * Enc.k α := Nat.mul_le_mul_right _ hi
  have a6 : n * Enc.k α ≤ cap * Enc.k α := Nat.mul_le_mul_right _ h.le
  rw [List.length_take, List.length_drop, Array.length_toList, h.csz]; omega
theorem row_room (h : OwnS (Enc.k α) (l.flatMap Enc.enc) n cap cs) (hi : i ≤ n) : 0 + i * Enc.k α + (n - i) * Enc.k α ≤ cs.size := by
  have a3 : (n - i) * Enc.k α = n * Enc.k α - i * Enc.k α := Nat.sub_mul ..
  have a4 : i * Enc.k α ≤ n * Enc.k α := Nat.mul_le_mul_right _ hi
  have a6 : n * Enc.k α ≤ cap * Enc.k α := Nat.mul_le_mul_right _ h.le
  rw [h.csz]; omega
theorem mul_room {a b c k sz : Nat} (h : a + b ≤ c) (hs : sz = c * k) : 0 + a * k + b * k ≤ sz := by
  rw [hs, Nat.zero_add, ← Nat.add_mul]
  exact Nat.mul_le_mul_right _ h
theorem copy_room (h : OwnS (Enc.k α) (l.flatMap Enc.enc) n cap cs) (hi : i ≤ n) {a c sz : Nat} (ha : a + (n - i) ≤ c) (hs : sz = c * Enc.k α) : 0 + a * Enc.k α + ((cs.toList.drop (0 + i * Enc.k α)).take ((n - i) * Enc.k α)).length ≤ sz := by
  rw [row_len h hi]
  exact mul_room ha hs
theorem olds_len {i cap k : Nat} {cs : Array Value} (h : cs.size = cap * k) (hi : i ≤ cap) : ((cs.toList.drop 0).take (i * k)).length = i * k := by
  have := Nat.mul_le_mul_right k hi
  rw [List.drop_zero, List.length_take, Array.length_toList, h]; omega
theorem apart_two {w0 w : World} {L : List Ob} (h : Hs w0 L w) {a b g1 g2 : Nat} {o1 o2 : Obj} (h1 : L[a]? = some (g1, o1)) (h2 : L[b]? = some (g2, o2)) (hne : a ≠ b) : g1 ≠ g2 := fun e => by
  have hn := h.apart
  obtain ⟨la, ea⟩ := List.getElem?_eq_some_iff.1 (show (L.map (·.1))[a]? = some g1 by simp [h1])
  obtain ⟨lb, eb⟩ := List.getElem?_eq_some_iff.1 (show (L.map (·.1))[b]? = some g2 by simp [h2])
  have hp := List.pairwise_iff_getElem.1 hn
  rcases Nat.lt_or_gt_of_ne hne with h3 | h3
  · exact hp a b la lb h3 (by rw [ea, eb, e])
  · exact hp b a lb la h3 (by rw [ea, eb, e])
/-- A slice expression's value where it only must be. -/
theorem slE_cut {P : Program} {T e : TypeId} {p : Option Addr} {k by_ lo : Nat} (hE : elemB P T e k by_ = true) (hlo : lo ≤ n) : SlRun P T (.slice p n cap) (some (.int .i64 (lo : Int))) none none (.slice (if cap = lo then p else p.map (·.add (lo * k))) (n - lo) (cap - lo)) := by
  obtain ⟨hu, i, z, hi, _, _, hk, _⟩ := elemB_spec hE
  subst hk
  intro w
  simp [Instr.sliceAt, Instr.slice, underlying, hu, Instr.sliceBounds, run_bound hlo, sizeOf, typeInfo, hi]
theorem SlO.parts {T : TypeId} {Y : List Ob} {p : Option Addr} (h : SlO T Y p n cap l) : (p = none ∧ Y = [] ∧ n = 0) ∨ ∃ g cs, p = some ⟨g, 0, none⟩ ∧ Y = [bx g cs T] ∧ OwnS (Enc.k α) (l.flatMap Enc.enc) n cap cs := by
  rcases h with ⟨a, b, c, d, e⟩ | ⟨g, cs, a, b, c, d⟩
  · subst a; subst b; exact .inl ⟨rfl, rfl, by first | assumption | omega⟩
  · exact .inr ⟨g, cs, by assumption, by assumption, by assumption⟩
theorem OwnS.rdx (h : OwnS (Enc.k α) (l.flatMap Enc.enc) n cap cs) (hn : n = l.length) {x : α} (hx : l[i]? = some x) : RdA cs (0 + i * Enc.k α) (Enc.enc x) := by
  obtain ⟨hi, e⟩ := List.getElem?_eq_some_iff.1 hx
  subst e
  rw [Nat.zero_add]
  exact h.rda hn i hi
/-- A slice's block is taken to the front, and put back. -/
theorem Hs.pull {a : Ob} {A Y R : List Ob} (h : Hs w0 (a :: (A ++ (Y ++ R))) w) : Hs w0 (a :: (Y ++ (A ++ R))) w :=
  h.perm (.cons _ (by rw [← List.append_assoc, ← List.append_assoc]; exact (List.perm_append_comm).append_right _))
theorem Hs.push {A Y R : List Ob} (h : Hs w0 (Y ++ (A ++ R)) w) : Hs w0 (A ++ (Y ++ R)) w :=
  h.perm (by rw [← List.append_assoc, ← List.append_assoc]; exact (List.perm_append_comm).append_right _)
end
end Go.Proofs.Ytfhlmijdokfdpaa

/-! The walker: elements of a run of one's own that are changed in place; pointers into it compared. -/
namespace Go.Proofs.Ytfhlmijdokfdpaa
open Go Go.RowKit

section
variable {α : Type} [Enc α] {l : List α} {i n cap f : Nat} {cs : Array Value} {x x' : α} {v : Value}
theorem OwnS.room (h : OwnS (Enc.k α) (l.flatMap Enc.enc) n cap cs) (hn : n = l.length) (hx : l[i]? = some x) (hf : f < Enc.k α) : 0 + i * Enc.k α + f < cs.size := by
  have hi : i < l.length := (List.getElem?_eq_some_iff.1 hx).1
  have a1 : (i + 1) * Enc.k α ≤ cap * Enc.k α := Nat.mul_le_mul_right _ (by have := h.le; omega)
  rw [Nat.add_mul, Nat.one_mul] at a1
  rw [h.csz]; omega
theorem OwnS.put (h : OwnS (Enc.k α) (l.flatMap Enc.enc) n cap cs) (hn : n = l.length) (hx : l[i]? = some x) (hf : f < Enc.k α) (he : Enc.enc x' = (Enc.enc x).set f v) :
    OwnS (Enc.k α) ((l.set i x').flatMap Enc.enc) n cap (cs.setIfInBounds (0 + i * Enc.k α + f) v) := by
  obtain ⟨hi, hxe⟩ := List.getElem?_eq_some_iff.1 hx
  have hroom := h.room hn hx hf
  have hsl : (l.set i x').length = n := by rw [List.length_set]; exact hn.symm
  have hl1 : (l.flatMap Enc.enc).length = n * Enc.k α := by rw [flat_len, hn]
  have hl2 : ((l.set i x').flatMap Enc.enc).length = n * Enc.k α := by rw [flat_len, hsl]
  have hcap : n * Enc.k α ≤ cap * Enc.k α := Nat.mul_le_mul_right _ h.le
  refine ⟨hl2, h.le, h.max, by rw [Array.size_setIfInBounds]; exact h.csz, ?_⟩
  apply List.ext_getElem?
  intro j
  rw [List.getElem?_take]
  by_cases hj : j < n * Enc.k α
  · rw [if_pos hj, Array.getElem?_toList, Array.getElem?_setIfInBounds]
    have hk : 0 < Enc.k α := by omega
    have hq : j / Enc.k α < n := (Nat.div_lt_iff_lt_mul hk).2 hj
    have hr : j % Enc.k α < Enc.k α := Nat.mod_lt _ hk
    have hjd : j = j / Enc.k α * Enc.k α + j % Enc.k α := by have := Nat.div_add_mod j (Enc.k α); rw [Nat.mul_comm] at this; omega
    have g1 := flat_get l (j / Enc.k α) (by omega) (j % Enc.k α) hr
    have g2 := flat_get (l.set i x') (j / Enc.k α) (by omega) (j % Enc.k α) hr
    rw [← hjd] at g1 g2
    rw [g2, List.getElem_set]
    by_cases hji : i = j / Enc.k α
    · rw [if_pos hji, he]
      by_cases hf2 : f = j % Enc.k α
      · rw [if_pos (by rw [hji, hf2]; omega), if_pos (by omega), List.getElem?_set, if_pos hf2, if_pos (by rw [Enc.len]; omega)]
      · rw [if_neg (by rw [hji]; omega), h.get j hj, g1, List.getElem?_set, if_neg hf2]
        subst hji; rw [hxe]
    · rw [if_neg hji, if_neg ?_, h.get j hj, g1]
      intro e
      have e' : i * Enc.k α + f = j := by omega
      apply hji
      rw [← e', Nat.mul_comm, Nat.mul_add_div hk, Nat.div_eq_of_lt hf]; rfl
  · rw [if_neg hj, List.getElem?_eq_none (by rw [hl2]; omega)]
theorem SlO.ofOwn {T : TypeId} {g : Nat} (h : OwnS (Enc.k α) (l.flatMap Enc.enc) n cap cs) (hn : n = l.length) : SlO T [bx g cs T] (some ⟨g, 0, none⟩) n cap l := .inr ⟨g, cs, rfl, rfl, hn, h⟩
omit [Enc α] in
theorem len_set {y : α} (hn : n = l.length) : n = (l.set i y).length := by rw [List.length_set]; exact hn
omit [Enc α] in
theorem get_set {y : α} (hx : l[i]? = some x) : (l.set i y)[i]? = some y := List.getElem?_set_self (List.getElem?_eq_some_iff.1 hx).1
omit [Enc α] in
theorem get_set_ne {y : α} {j : Nat} (h : ¬ i = j) (hx : l[j]? = some x) : (l.set i y)[j]? = some x := by rw [List.getElem?_set_ne h]; exact hx
end

section
variable {E : Env} {k : List Fr} {l : Sl} {L : List Ob} {all os : List Oper} {o : Oper} {i : Nat}
/-- Two pointers into one block of one's own. -/
theorem ops_eqp (b : Bool) (j : Nat) {T U te tp : TypeId} {x y : Operand} {g o1 o2 : Nat} {c : Array Value} {inf : TypeInfo} (ho : o.op = .binOp .eql T x y U) (hw : wantL all l o = some true) (hd : (okD E.n o.dst && knownO l o) = true)
    (hx : look l x = .pointer (some ⟨g, o1, none⟩)) (hy : look l y = .pointer (some ⟨g, o2, none⟩)) (hp : E.P.underlying T = some (.pointer te)) (hi : E.P.info? te = some inf) (hz : inf.size ≠ 0) (hgd : E.P.eqGuardType E.P.depth T = false) (hr : L[j]? = some (g, .cells c tp (0, 0)))
    (hb : o1 = o2 ↔ b = true) (h : Ops E k all os (i + 1) (putL o.dst (.bool b) l) L) : Ops E k all (o :: os) i l L := by
  refine ⟨fun a w ha hs => ?_⟩
  simp only [Bool.and_eq_true] at hd
  have hg := wantL_spec ha hw
  refine wpListIn_step fun K hK => ?_
  rw [if_pos hg]
  refine ⟨fun _ _ => trivial, ?_⟩
  rw [Oper.semAt_eq _ _ _ (fun c e => by rw [ho] at e; cases e), look_exec ha hd.2]
  have hh := hs.row j hr
  have e1 : (binOp .eql T (.pointer (some ⟨g, o1, none⟩)) (.pointer (some ⟨g, o2, none⟩))).run E.P w = .ok (.bool b) w := by
    by_cases e : o1 = o2
    · rw [hb.1 e]; subst e; exact run_eql_ptr_same w _ hp hi
    · have : b = false := by cases b <;> simp_all
      subst this
      exact run_eql_ptr_other w hp hi hz (fun q => e (by cases q; rfl)) hh hh
  have e2 : (eqGuard .eql T x y (.pointer (some ⟨g, o1, none⟩)) (.pointer (some ⟨g, o2, none⟩))).run E.P w = .ok () w := by
    unfold eqGuard
    simp [hgd]
  have e : (execOp (look l) o).run E.P w = .ok (.value (.bool b)) w := by
    unfold execOp
    simp only [ho, hx, hy, Sem.run_bind, e2, Result.andThen_ok, e1]
    rfl
  rw [e]
  exact hK _ _ (h.out _ _ (ha.put hd.1 _) hs)
end
end Go.Proofs.Ytfhlmijdokfdpaa

/-! The walker: a range over a function, walked in place: the function's own body, and at each call of yield the loop's body. -/
namespace Go.Proofs.Ytfhlmijdokfdpaa
open Go Go.RowKit

/-- A loop's record that is ready. -/
structure RecOk (n : Nat) (l : Sl) (ps : Array Tmp) (asg body : Code) (r : Loop) : Prop where
  state : r.state = .ready
  pending : r.pending = none
  params : r.params = ps
  assign : r.assign = asg
  body : r.body = body
  slots : SlR n [] l { tmps := r.tmps, defers := [] }
/-- yield's arguments in the loop's slots. -/
def setps : List (Tmp × Value) → Sl → Sl
  | [], l => l
  | (t, v) :: ps, l => setps ps (putL (some t) v l)
/-- Which loop a call of yield asks, with what. -/
def yieldL (l : Sl) (o : Oper) : Option (Nat × Array Value) :=
  if knownO l o then match o.op with
    | .call c => match c.callee with
      | .value x => match look l x with
        | .func (.yield y) first _ => some (y, first ++ c.args.map (look l))
        | _ => none
      | _ => none
    | _ => none
  else none
theorem turn_ob2 {g : Nat} {o o' : Obj} {w : World} (h : w.heap[g]? = some o) : Turn g o' w (w.putObj g o') :=
  ⟨World.putObj_heap_same (Array.getElem?_eq_some_iff.1 h).1, fun _ hk => World.putObj_heap_other hk, by simp [World.putObj], rfl, rfl, rfl⟩
theorem Hs.gone {w0 w : World} {L : List Ob} {g : Nat} {o o' : Obj} {i : Nat} (h : Hs w0 L w) (hi : L[i]? = some (g, o)) : Hs w0 (L.eraseIdx i) (w.putObj g o') :=
  (h.turn i hi (turn_ob2 (h.row i hi))).sub (by rw [← List.eraseIdx_set_eq (l := L) (i := i) (a := (g, o'))]; exact List.eraseIdx_sublist ..)
theorem setps_ok {n : Nat} : ∀ (ps : List (Tmp × Value)) (l : Sl) (t : Array Value), (ps.all fun p => Nat.blt p.1 n) = true → SlR n [] l { tmps := t, defers := [] } →
    SlR n [] (setps ps l) { tmps := ps.foldl (fun t (p, v) => t.setIfInBounds p v) t, defers := [] }
  | [], _, _, _, h => h
  | (p, v) :: ps, l, t, hp, h => by
    simp only [List.all_cons, Bool.and_eq_true] at hp
    exact setps_ok ps _ _ hp.2 (h.put (d := some p) hp.1 v)

section
variable {E : Env} {k : List Fr} {l : Sl} {L : List Ob} {all os : List Oper} {o : Oper} {i : Nat}
/-- The statement. -/
theorem at_range {P : Program} {D : List Deferred} {R : Exit → Act → World → Prop} {w0 : World} {n : Nat} {g : Operand} {ps : Array Tmp} {asg body : Code} {gf : FuncId} {lb : Array Value} {fn2 : Func} {c2 : Code} {n2 : Nat}
    (hg : (knownX l g, look l g) = (true, .func (.func gf) #[] lb)) (he : ∀ args w, (callFunc gf args).run P w = .ok (.enter gf args) w)
    (hf : P.funcs[gf]? = some fn2) (hb : fn2.body = some c2) (hn : fn2.ntmps = n2) (hs : Nat.ble (#[Value.func (.yield 0) #[] #[]] ++ lb).size n2 = true)
    (h : ∀ (γ : Nat → Nat) (r : Loop), RecOk n l ps asg body r →
      At ⟨P, none, [], bodyPost P fn2 (fun e w' => ∃ v L', e = .returned v ∧ Hs w0 L' w' ∧ ∃ i, L'[i]? = some (γ 1, .loop r) ∧ Done ⟨P, none, ⟨.collected (γ 0), #[]⟩ :: D, R, w0, n⟩ k l (L'.eraseIdx i)), w0, n2⟩ []
        c2 (argL (#[.func (.yield (γ 1)) #[] #[]] ++ lb)) ((γ 1, .loop r) :: (γ 0, .deferred (some [])) :: L)) : At ⟨P, none, D, R, w0, n⟩ k (.rangeFunc g ps asg body) l L := by
  obtain ⟨hg1, hg2⟩ := Prod.mk.inj hg
  refine ⟨fun a w ha hw => wpIn_rangeFunc fun fn hfn => ?_⟩
  have hgv : a.eval g = .func (.func gf) #[] lb := by rw [look_eval ha hg1, hg2]
  obtain ⟨r, hr⟩ : ∃ r : Loop, r = { state := .ready, pending := none, fn, tmps := a.tmps, params := ps, assign := asg, body := body, defers := w.heap.size } := ⟨_, rfl⟩
  have hs1 : Hs w0 ((w.heap.size + 1, .loop r) :: (w.heap.size, .deferred (some [])) :: L) ((w.alloc (.deferred (some []))).alloc (.loop r)) := by
    have := (hw.cons (.deferred (some []))).cons (.loop r)
    rwa [World.size_alloc] at this
  have hok : RecOk n l ps asg body r := by subst hr; exact ⟨rfl, rfl, rfl, rfl, rfl, ⟨ha.got, ha.size, rfl⟩⟩
  refine ⟨w.heap.size + 1, [{ target := .collected w.heap.size, args := #[] }], (w.alloc (.deferred (some []))).alloc (.loop r), { target := .fn (.func gf) lb, args := #[.func (.yield (w.heap.size + 1)) #[] #[]] }, (w.alloc (.deferred (some []))).alloc (.loop r), gf, #[.func (.yield (w.heap.size + 1)) #[] #[]] ++ lb, (w.alloc (.deferred (some []))).alloc (.loop r),
    by rw [hr]; exact run_enterLoop_outer _ _ _ _ _, ?_, fun f' hf' => trivial, ?_, fun e => (by cases e), ?_⟩
  · simp only [resolve, hgv]
    simp [go_sem]
  · simp [invoke, go_sem, he]
  · refine fen_calls ((enter hs1 hf hb hn (by simpa using hs) (h (fun i => w.heap.size + i) r hok)).mono ?_)
    rintro e w3 ⟨v, L', rfl, hs3, j, hj, hd⟩
    have hl := hs3.row j hj
    refine ⟨none, _, by have := run_endLoop (P := P) hl (by rw [hok.state]; simp); rw [hok.pending] at this; exact this, ?_⟩
    exact hd.out _ _ ⟨ha.got, ha.size, by simp [ha.defers]⟩ (hs3.gone hj)

/-- A call of yield: one round. -/
theorem ops_yield {P : Program} {D : List Deferred} {R : Exit → Act → World → Prop} {w0 : World} {n : Nat} {y : Nat} {args : Array Value} {r : Loop} {nc : Nat} {lc : Sl} {ps : Array Tmp} {asg body : Code}
    (hw : wantL all l o = some true) (hd : okD n o.dst = true) (hc : yieldL l o = some (y, args)) (j : Nat) (hj : L[j]? = some (y, .loop r)) (hr : RecOk nc lc ps asg body r) (hps : args.size = ps.size) (hpn : ((ps.zip args).toList.all fun p => Nat.blt p.1 nc) = true)
    (h : At ⟨P, some y, [], Exit.then (fun a w => ∃ L2 l2 j2, SlR nc [] l2 a ∧ Hs w0 L2 w ∧ L2[j2]? = some (y, .loop r) ∧
        At ⟨P, some y, [], fun e _ w => e = .normal ∧ ∃ L3 j3, Hs w0 L3 w ∧ L3[j3]? = some (y, .loop { r with state := .busy }) ∧ Ops ⟨P, none, D, R, w0, n⟩ k all os (i + 1) (putL o.dst (.bool true) l) (L3.set j3 (y, .loop r)), w0, nc⟩ [] body l2 (L2.set j2 (y, .loop { r with state := .busy })))
        (fun _ _ _ => False), w0, nc⟩ [] asg (setps (ps.zip args).toList lc) L) : Ops ⟨P, none, D, R, w0, n⟩ k all (o :: os) i l L := by
  refine ⟨fun a w ha hs => ?_⟩
  have hg := wantL_spec ha hw
  refine wpListIn_step fun K hK => ?_
  rw [if_pos hg]
  refine ⟨fun _ _ => trivial, ?_⟩
  have hl := hs.row j hj
  have hy := run_yield (P := P) (args := args) hl (by rw [hr.params]; exact hps)
  have hop : ∀ c, o.op ≠ .defer c := fun c e => by
    unfold yieldL at hc
    rw [e] at hc
    split at hc <;> cases hc
  have hrun : (execOp a.eval o).run P w = .ok (.round y r.fn ((r.params.zip args).foldl (fun tmps (t, a) => tmps.setIfInBounds t a) r.tmps) r.assign r.body) w := by
    have hc' := hc
    unfold yieldL at hc'
    split at hc' <;> try cases hc'
    rename_i hk
    rw [look_exec ha hk]
    split at hc' <;> try cases hc'
    rename_i c hop'
    split at hc' <;> try cases hc'
    rename_i x hx
    split at hc' <;> try cases hc'
    rename_i z first cap hv
    simp only [execOp, hop', resolve, hx, hv, Deferred.ofValue, Sem.run_bind, Sem.run_pure, Result.andThen_ok, invoke]
    exact hy
  rw [Oper.semAt_eq _ _ _ hop, hrun]
  refine ⟨fun e => (by cases e), ?_⟩
  rw [hr.assign, hr.body, hr.params]
  have hsl := setps_ok (ps.zip args).toList lc r.tmps hpn hr.slots
  refine roundIn_of_wpIn (F := fen none) trivial ?_
  rw [Array.foldl_toList] at hsl
  refine wpIn_mono (h.out _ _ hsl hs) ?_
  rintro e a1 w1 hq
  cases e with
  | normal =>
    obtain ⟨L2, l2, j2, ha2, hs2, hj2, hat⟩ := hq
    have hl2 := hs2.row j2 hj2
    refine ⟨_, run_beginRound hl2 hr.state, ?_⟩
    refine wpIn_mono (hat.out _ _ ha2 (hs2.turn j2 hj2 (turn_ob2 hl2))) ?_
    rintro e a3 w3 ⟨rfl, L3, j3, hs3, hj3, hops⟩
    have hl3 := hs3.row j3 hj3
    refine ⟨_, _, run_endRound none hl3, ?_⟩
    have hrr : ({ ({ r with state := .busy } : Loop) with state := .ready, pending := none } : Loop) = r := by
      have h1 := hr.state; have h2 := hr.pending
      cases r; simp only at h1 h2; subst h1; subst h2; rfl
    refine hK _ _ (hops.out _ _ (ha.put hd _) ?_)
    have := hs3.turn j3 hj3 (turn_ob2 (o' := .loop r) hl3)
    simpa [hrr] using this
  | _ => exact hq.elim
/-- The loop's variables are set: the body. -/
theorem done_asg {P : Program} {w0 : World} {y nc : Nat} {r : Loop} {body : Code} {R : Exit → Act → World → Prop} (j : Nat) (hj : L[j]? = some (y, .loop r)) (h : At ⟨P, some y, [], R, w0, nc⟩ [] body l (L.set j (y, .loop { r with state := .busy }))) :
    Done ⟨P, some y, [], Exit.then (fun a w => ∃ L2 l2 j2, SlR nc [] l2 a ∧ Hs w0 L2 w ∧ L2[j2]? = some (y, .loop r) ∧ At ⟨P, some y, [], R, w0, nc⟩ [] body l2 (L2.set j2 (y, .loop { r with state := .busy }))) (fun _ _ _ => False), w0, nc⟩ [] l L :=
  ⟨fun _ _ ha hw => ⟨L, l, j, ha, hw, hj, h⟩⟩
/-- A round is over. -/
theorem done_rnd {P : Program} {w0 : World} {y nc : Nat} {r : Loop} {K : List Ob → Prop} (j : Nat) (hj : L[j]? = some (y, .loop { r with state := .busy })) (h : K (L.set j (y, .loop r))) :
    Done ⟨P, some y, [], fun e _ w => e = .normal ∧ ∃ L3 j3, Hs w0 L3 w ∧ L3[j3]? = some (y, .loop { r with state := .busy }) ∧ K (L3.set j3 (y, .loop r)), w0, nc⟩ [] l L :=
  ⟨fun _ _ _ hw => ⟨rfl, L, j, hw, hj, h⟩⟩
/-- A call walked into, of a function that holds a range over a function. -/
theorem ops_inlineM {os : List Oper} {o : Oper} {i : Nat} {g : FuncId} {args : Array Value} {fn : Func} {c : Code} {n' : Nat} (hw : wantL all l o = some true) (hd : okD E.n o.dst = true) (hc : calleeL l o = some (g, args)) (he : ∀ args w, (callFunc g args).run E.P w = .ok (.enter g args) w)
    (hf : E.P.funcs[g]? = some fn) (hb : fn.body = some c) (hn : fn.ntmps = n') (hs : Nat.ble args.size n' = true)
    (h : At ⟨E.P, none, [], bodyPostM (fen none) 0 E.P fn (fun e w' => ∃ v L', e = .returned v ∧ Hs E.w0 L' w' ∧ Ops E k all os (i + 1) (putL o.dst v l) L'), E.w0, n'⟩ [] c (argL args) L) : Ops E k all (o :: os) i l L := by
  refine ⟨fun a w ha hs' => ?_⟩
  have hg := wantL_spec ha hw
  refine wpListIn_step fun K hK => ?_
  rw [if_pos hg]
  refine ⟨fun _ _ => trivial, ?_⟩
  rw [Oper.semAt_eq _ _ _ (callee_known hc), run_callee ha hc he w]
  refine ⟨fun h => (by cases h), fen_calls ?_⟩
  have hs2 : args.size ≤ n' := Nat.le_of_ble_eq_true hs
  have hC : CallsIn (fen none) 0 E.P g args w (fun e w' => ∃ v L', e = .returned v ∧ Hs E.w0 L' w' ∧ Ops E k all os (i + 1) (putL o.dst v l) L') := by
    refine callsIn_of_wp_marks hf hb trivial (h.out _ _ ⟨fun p hp => ?_, by simp [hn]; omega, rfl⟩ hs') rfl
    obtain ⟨x, hx, rfl⟩ := List.mem_map.1 hp
    have := List.mem_zipIdx_iff_getElem?.1 hx
    simp only at this ⊢
    have hlt : x.2 < args.size := by simpa using (List.getElem?_eq_some_iff.1 this).1
    rw [Array.getElem?_append_left hlt]
    simpa using this
  refine (callsIn_wide.1 hC).mono fun e w' ⟨v, L', he, hs2, hO⟩ => ?_
  subst he
  exact hK _ _ (hO.out _ _ (ha.put hd v) hs2)
/-- Its return. -/
theorem at_backM {P : Program} {fn : Func} {w0 : World} {n d : Nat} {X : Value → List Ob → Prop} (j : Nat) (hj : L[j]? = some (d, .deferred (some []))) (src : List Src) (v : Value) (rq : List Prop) (h1 : rSeen (retV P w0 fn.results.toList l (L.eraseIdx j) src) = some (v, rq))
    (h2 : rtL (retV P w0 fn.results.toList l (L.eraseIdx j) src) = rtR (retV P w0 fn.results.toList l (L.eraseIdx j) src)) (h3 : AllP rq)
    (h : X v (L.eraseIdx j)) : At ⟨P, none, [⟨.collected d, #[]⟩], bodyPostM (fen none) 0 P fn (fun e w' => ∃ v L', e = .returned v ∧ Hs w0 L' w' ∧ X v L'), w0, n⟩ k .ret l L := by
  refine at_ret fun a w ha hw => ?_
  have hk := hw.row j hj
  have hw' := hw.gone (o' := .deferred none) hj
  have hb := ret_post (k := k) (R := fun e w' => ∃ v L', e = .returned v ∧ Hs w0 L' w' ∧ X v L') src v rq h1 h2 h3 (fun w hw => ⟨v, _, rfl, hw, h⟩) { a with defers := [] } _ ⟨ha.got, ha.size, rfl⟩ hw'
  obtain ⟨_, u, hu, hR⟩ := hb
  show LeavesInM (fen none) 0 P fn a.tmps _ a.defers .returning w
  rw [ha.defers]
  exact ⟨by simp, .inl ⟨d, _, rfl, run_takeDeferred hk, u, hu, hR⟩⟩
end
end Go.Proofs.Ytfhlmijdokfdpaa

/-! The walker: drawn regions that act, told state by state (each set of done operations once). -/
namespace Go.Proofs.Ytfhlmijdokfdpaa
open Go Go.RowKit

section
variable {E : Env} {k : List Fr} {all : List Oper} {f : Nat} {listed : Array Bool} {l : Sl} {L : List Ob}
/-- A state told over its own variables. -/
theorem any_cutX {V : Type} (C : V → Prop) (f' : Nat) (listed' : Array Bool) (l' : V → Sl) (L' : V → List Ob) (h2 : ∀ v, C v → Any E k all f' listed' (l' v) (L' v))
    (h1 : (∀ v, C v → Any E k all f' listed' (l' v) (L' v)) → Any E k all f listed l L) : Any E k all f listed l L := h1 h2
def chunk (cs : List (List Ob)) (is : List Nat) : List Ob := (is.map fun i => cs.getD i []).flatten
theorem chunk_perm (cs : List (List Ob)) (is : List Nat) (h : is.isPerm (List.range cs.length) = true) : (chunk cs is).Perm cs.flatten := by
  have h1 := (List.isPerm_iff.1 h).map fun i => cs.getD i []
  have h2 : (List.range cs.length).map (fun i => cs.getD i []) = cs := by
    apply List.ext_getElem?
    intro j
    rw [List.getElem?_map]
    by_cases hj : j < cs.length
    · rw [List.getElem?_range hj, List.getElem?_eq_getElem hj]; simp [hj]
    · rw [List.getElem?_eq_none (by simpa using hj), List.getElem?_eq_none (by omega)]; rfl
  rw [h2] at h1
  exact h1.flatten
/-- The blocks may stand in another order. -/
theorem any_weakP {f' : Nat} {listed' : Array Bool} {l' : Sl} {L' : List Ob} (h : Any E k all f' listed' l' L') (ts : List Nat) (cs : List (List Ob)) (is : List Nat) (hl : keepL l ts = some l') (hL : L = cs.flatten) (hL' : L' = chunk cs is) (hi : is.isPerm (List.range cs.length) = true) (hf : f = f') (hli : listed = listed') :
    Any E k all f listed l L := by
  subst hL hL' hf hli
  exact ⟨fun a w ha hs => h.out a w (ha.sub (keepL_mem hl)) (hs.perm (chunk_perm cs is hi).symm)⟩
end
end Go.Proofs.Ytfhlmijdokfdpaa

/-! The walker: blocks told in another order, some of them left out. -/
namespace Go.Proofs.Ytfhlmijdokfdpaa
open Go Go.RowKit

theorem Hs.pick {w0 w : World} (cs : List (List Ob)) (is rest : List Nat) (hi : (is ++ rest).isPerm (List.range cs.length) = true) (h : Hs w0 cs.flatten w) : Hs w0 (chunk cs is) w := by
  have h1 := h.perm (chunk_perm cs (is ++ rest) hi).symm
  have e : chunk cs (is ++ rest) = chunk cs is ++ chunk cs rest := by simp [chunk]
  rw [e] at h1
  exact h1.sub (List.sublist_append_left _ _)
section
variable {E : Env} {k : List Fr} {l : Sl} {L L' : List Ob} {all os : List Oper} {i : Nat}
theorem At.pick {c : Code} (cs : List (List Ob)) (is rest : List Nat) (L' : List Ob) (hi : (is ++ rest).isPerm (List.range cs.length) = true) (hL : L = cs.flatten) (hL' : L' = chunk cs is) (h : At E k c l L') : At E k c l L :=
  ⟨fun a w ha hs => h.out a w ha (by rw [hL']; exact Hs.pick cs is rest hi (by rw [← hL]; exact hs))⟩
theorem Ops.pick (cs : List (List Ob)) (is rest : List Nat) (L' : List Ob) (hi : (is ++ rest).isPerm (List.range cs.length) = true) (hL : L = cs.flatten) (hL' : L' = chunk cs is) (h : Ops E k all os i l L') : Ops E k all os i l L :=
  ⟨fun a w ha hs => h.out a w ha (by rw [hL']; exact Hs.pick cs is rest hi (by rw [← hL]; exact hs))⟩
theorem Done.pick (cs : List (List Ob)) (is rest : List Nat) (L' : List Ob) (hi : (is ++ rest).isPerm (List.range cs.length) = true) (hL : L = cs.flatten) (hL' : L' = chunk cs is) (h : Done E k l L') : Done E k l L :=
  ⟨fun a w ha hs => h.out a w ha (by rw [hL']; exact Hs.pick cs is rest hi (by rw [← hL]; exact hs))⟩
end
end Go.Proofs.Ytfhlmijdokfdpaa

/-! The walker: whole elements stored in place; clear; what a deletion leaves; loops that gather. -/
namespace Go.Proofs.Ytfhlmijdokfdpaa
open Go Go.RowKit

def setsL : List Value → Nat → List Value → List Value
  | c, _, [] => c
  | c, o, v :: vs => setsL (c.set o v) (o + 1) vs
theorem setsL_len : ∀ (vs : List Value) (c : List Value) (o : Nat), (setsL c o vs).length = c.length
  | [], _, _ => rfl
  | v :: vs, c, o => by rw [setsL, setsL_len vs]; simp
theorem setsL_get : ∀ (vs : List Value) (c : List Value) (o j : Nat), o + vs.length ≤ c.length → (setsL c o vs)[j]? = if o ≤ j ∧ j < o + vs.length then vs[j - o]? else c[j]?
  | [], c, o, j, _ => by rw [if_neg (by simp only [List.length_nil]; omega)]; rfl
  | v :: vs, c, o, j, h => by
    simp only [List.length_cons] at h ⊢
    rw [setsL, setsL_get vs _ _ _ (by simp; omega)]
    by_cases h1 : o = j
    · subst h1
      rw [if_neg (by omega), if_pos (by omega)]
      simp [show o < c.length by omega]
    · by_cases h2 : o + 1 ≤ j ∧ j < o + 1 + vs.length
      · rw [if_pos h2, if_pos (by omega), show j - o = (j - (o + 1)) + 1 by omega, List.getElem?_cons_succ]
      · rw [if_neg h2, if_neg (by omega), List.getElem?_set_ne h1]
theorem OwnS.set1 {k n cap : Nat} {vs : List Value} {cs : Array Value} (h : OwnS k vs n cap cs) (j : Nat) (v : Value) (hj : j < n * k) : OwnS k (vs.set j v) n cap (cs.setIfInBounds j v) := by
  have hcap : n * k ≤ cap * k := Nat.mul_le_mul_right _ h.le
  refine ⟨by rw [List.length_set]; exact h.len, h.le, h.max, by rw [Array.size_setIfInBounds]; exact h.csz, ?_⟩
  apply List.ext_getElem?
  intro i
  rw [List.getElem?_take]
  by_cases hi : i < n * k
  · rw [if_pos hi, Array.getElem?_toList, Array.getElem?_setIfInBounds, List.getElem?_set]
    by_cases hji : j = i
    · subst hji; rw [if_pos rfl, if_pos rfl, if_pos (by rw [h.csz]; omega), if_pos (by rw [h.len]; omega)]
    · rw [if_neg hji, if_neg hji, h.get i hi]
  · rw [if_neg hi, List.getElem?_eq_none (by rw [List.length_set, h.len]; omega)]
theorem OwnS.setsA {k n cap : Nat} : ∀ (us : List Value) (o : Nat) (vs : List Value) (cs : Array Value), OwnS k vs n cap cs → o + us.length ≤ n * k → OwnS k (setsL vs o us) n cap (sets cs o us)
  | [], _, _, _, h, _ => h
  | u :: us, o, vs, cs, h, hl => by
    simp only [List.length_cons] at hl
    exact OwnS.setsA us (o + 1) _ _ (h.set1 o u (by omega)) (by omega)
section
variable {α : Type} [Enc α] {l m : List α} {i j n cap : Nat} {cs : Array Value} {x x' : α}
theorem flat_set (hi : i < l.length) : (l.set i x').flatMap Enc.enc = setsL (l.flatMap Enc.enc) (i * Enc.k α) (Enc.enc x') := by
  have hm : (i + 1) * Enc.k α ≤ l.length * Enc.k α := Nat.mul_le_mul_right _ (by omega)
  rw [Nat.add_mul, Nat.one_mul] at hm
  apply List.ext_getElem?
  intro j
  rw [setsL_get _ _ _ _ (by rw [flat_len, Enc.len]; exact hm), Enc.len]
  have hk : 0 < Enc.k α := Enc.pos
  by_cases hj : j < l.length * Enc.k α
  · have hq : j / Enc.k α < l.length := (Nat.div_lt_iff_lt_mul hk).2 hj
    have hr : j % Enc.k α < Enc.k α := Nat.mod_lt _ hk
    have hjd : j = j / Enc.k α * Enc.k α + j % Enc.k α := by have := Nat.div_add_mod j (Enc.k α); rw [Nat.mul_comm] at this; omega
    have g1 := flat_get l (j / Enc.k α) hq (j % Enc.k α) hr
    have g2 := flat_get (l.set i x') (j / Enc.k α) (by simpa using hq) (j % Enc.k α) hr
    rw [← hjd] at g1 g2
    rw [g2, List.getElem_set]
    by_cases hji : i = j / Enc.k α
    · rw [if_pos hji, if_pos (by rw [hji]; omega)]
      congr 1
      rw [hji]; omega
    · rw [if_neg hji, if_neg ?_, g1]
      rintro ⟨h1, h2⟩
      apply hji
      have e : j = Enc.k α * i + (j - i * Enc.k α) := by rw [Nat.mul_comm]; omega
      rw [e, Nat.mul_add_div hk, Nat.div_eq_of_lt (by omega)]; rfl
  · rw [if_neg (by omega), List.getElem?_eq_none (by rw [flat_len, List.length_set]; omega), List.getElem?_eq_none (by rw [flat_len]; omega)]
/-- A whole element is stored. -/
theorem OwnS.putAll (h : OwnS (Enc.k α) (l.flatMap Enc.enc) n cap cs) (hn : n = l.length) (hx : l[i]? = some x) : OwnS (Enc.k α) ((l.set i x').flatMap Enc.enc) n cap (sets cs (0 + i * Enc.k α) (Enc.enc x')) := by
  have hi : i < l.length := (List.getElem?_eq_some_iff.1 hx).1
  have hm : (i + 1) * Enc.k α ≤ n * Enc.k α := Nat.mul_le_mul_right _ (by omega)
  rw [Nat.add_mul, Nat.one_mul] at hm
  rw [flat_set hi, Nat.zero_add]
  exact OwnS.setsA _ _ _ _ h (by rw [Enc.len]; exact hm)
/-- Only the first elements are kept. -/
theorem OwnS.cut (h : OwnS (Enc.k α) (l.flatMap Enc.enc) n cap cs) (hn : n = l.length) (hi : i ≤ n) {c' : Array Value} (hs : c'.size = cs.size) (hc : ∀ j, j < 0 + i * Enc.k α → c'[j]? = cs[j]?) : OwnS (Enc.k α) ((l.take i).flatMap Enc.enc) i cap c' := by
  have hm : i * Enc.k α ≤ n * Enc.k α := Nat.mul_le_mul_right _ hi
  have hlen : (l.take i).length = i := by rw [List.length_take]; omega
  have hfl : ((l.take i).flatMap Enc.enc).length = i * Enc.k α := by rw [flat_len, hlen]
  refine ⟨hfl, Nat.le_trans hi h.le, h.max, by rw [hs]; exact h.csz, ?_⟩
  apply List.ext_getElem?
  intro j
  rw [List.getElem?_take]
  by_cases hj : j < i * Enc.k α
  · rw [if_pos hj, Array.getElem?_toList, hc j (by omega), h.get j (by omega), flat_take, List.getElem?_take, if_pos hj]
  · rw [if_neg hj, List.getElem?_eq_none (by rw [hfl]; omega)]
/-! ### deletion: i kept of the first j -/
structure Dels (p : α → Bool) (l m : List α) (i j : Nat) : Prop where
  lt : i < j
  le : j ≤ l.length
  len : m.length = l.length
  pre : m.take i = (l.take j).filter fun x => !p x
  rest : m.drop j = l.drop j
omit [Enc α] in
theorem Dels.get {p : α → Bool} (h : Dels p l m i j) (hx : m[j]? = some x) : l[j]? = some x := by
  have e1 : (m.drop j)[0]? = m[j]? := by simp
  have e2 : (l.drop j)[0]? = l[j]? := by simp
  rw [← e2, ← h.rest, e1, hx]
omit [Enc α] in
theorem Dels.yes {p : α → Bool} (h : Dels p l m i j) (hx : m[j]? = some x) (hp : p x = true) : Dels p l m i (j + 1) := by
  have hl := h.get hx
  have hlt := (List.getElem?_eq_some_iff.1 hl).1
  refine ⟨by have := h.lt; omega, by omega, h.len, ?_, ?_⟩
  · rw [h.pre, List.take_add_one, hl]; simp [hp]
  · have := congrArg (List.drop 1) h.rest
    simpa [List.drop_drop, Nat.add_comm] using this
omit [Enc α] in
theorem Dels.no {p : α → Bool} (h : Dels p l m i j) (hx : m[j]? = some x) (hp : p x = false) : Dels p l (m.set i x) (i + 1) (j + 1) := by
  have hl := h.get hx
  have hlt := (List.getElem?_eq_some_iff.1 hl).1
  have hlen := h.len
  have hij := h.lt
  refine ⟨by omega, by omega, by rw [List.length_set]; exact h.len, ?_, ?_⟩
  · rw [List.take_add_one (l := m.set i x), List.take_add_one (l := l), hl, List.take_set_of_le (Nat.le_refl _), h.pre, List.getElem?_set_self (by omega)]; simp [hp]
  · rw [List.drop_set_of_lt (by omega)]
    have := congrArg (List.drop 1) h.rest
    simpa [List.drop_drop, Nat.add_comm] using this
omit [Enc α] in
theorem Dels.done {p : α → Bool} (h : Dels p l m i j) (hj : l.length ≤ j) : m.take i = l.filter fun x => !p x := by rw [h.pre, List.take_of_length_le hj]
omit [Enc α] in
/-- The first that is struck. -/
theorem Dels.start {p : α → Bool} {i : Nat} (h : ∀ t x, t < i → l[t]? = some x → p x = false) (hx : l[i]? = some x) (hp : p x = true) : Dels p l l i (i + 1) := by
  have hlt := (List.getElem?_eq_some_iff.1 hx).1
  refine ⟨by omega, by omega, rfl, ?_, rfl⟩
  rw [List.take_add_one, hx, List.filter_append]
  have : (l.take i).filter (fun x => !p x) = l.take i := by
    rw [List.filter_eq_self]
    intro y hy
    obtain ⟨t, ht⟩ := List.mem_iff_getElem?.1 hy
    rw [List.getElem?_take] at ht
    split at ht
    · rename_i hti; simp [h t y hti ht]
    · cases ht
  rw [this]; simp [hp]
omit [Enc α] in
theorem filter_none {p : α → Bool} (h : ∀ x ∈ l, p x = false) : (l.filter fun x => !p x) = l := by
  rw [List.filter_eq_self]; intro y hy; simp [h y hy]
/-! ### loops that gather -/
omit [Enc α] in
theorem flat_on {β : Type} {g : α → List β} {ys : List β} (hx : l[j]? = some x) (hg : g x = ys) : (l.take (j + 1)).flatMap g = (l.take j).flatMap g ++ ys := by
  rw [List.take_add_one, hx]; simp [hg]
omit [Enc α] in
theorem fold_on {β : Type} {g : β → α → β} {b : β} (hx : l[j]? = some x) : (l.take (j + 1)).foldl g b = g ((l.take j).foldl g b) x := by
  rw [List.take_add_one, hx]; simp
end

/-- The first place at which p holds; -1: none. -/
def idxF {α : Type} (p : α → Bool) (l : List α) : Int := if l.any p then ((l.findIdx p : Nat) : Int) else -1
section
variable {α : Type} {l : List α} {p : α → Bool} {x : α} {j : Nat}
theorem idxF_hit (h : ∀ t y, t < j → l[t]? = some y → p y = false) (hx : l[j]? = some x) (hp : p x = true) : idxF p l = (j : Int) := by
  have hj : j < l.length := (List.getElem?_eq_some_iff.1 hx).1
  have hh : l.any p = true := List.any_eq_true.2 ⟨x, List.mem_of_getElem? hx, hp⟩
  have hi : l.findIdx p = j := by
    rw [List.findIdx_eq hj]
    refine ⟨?_, fun t ht => h t _ ht (List.getElem?_eq_getElem (by omega))⟩
    have : l[j] = x := (List.getElem?_eq_some_iff.1 hx).2
    rw [this]; exact hp
  unfold idxF; rw [hh, hi]; rfl
theorem idxF_miss (h : ∀ t y, t < j → l[t]? = some y → p y = false) (hj : l.length ≤ j) : idxF p l = -1 := by
  have hh : l.any p = false := List.any_eq_false.2 fun y hy => by
    obtain ⟨t, ht⟩ := List.mem_iff_getElem?.1 hy
    have := h t y (by have := (List.getElem?_eq_some_iff.1 ht).1; omega) ht
    simp [this]
  unfold idxF; rw [hh]; rfl
theorem idxF_cases (p : α → Bool) (l : List α) : (idxF p l = -1 ∧ ∀ x ∈ l, p x = false) ∨ ∃ (i : Nat) (x : α), idxF p l = (i : Int) ∧ l[i]? = some x ∧ p x = true ∧ ∀ t y, t < i → l[t]? = some y → p y = false := by
  cases hh : l.any p with
  | false => left; exact ⟨by unfold idxF; rw [hh]; rfl, fun x hx => by simpa using List.any_eq_false.1 hh x hx⟩
  | true =>
    right
    have hlt : l.findIdx p < l.length := List.findIdx_lt_length.2 (by obtain ⟨x, hx, hp⟩ := List.any_eq_true.1 hh; exact ⟨x, hx, hp⟩)
    refine ⟨l.findIdx p, l[l.findIdx p], by unfold idxF; rw [hh]; rfl, List.getElem?_eq_getElem hlt, List.findIdx_getElem, fun t y ht hy => ?_⟩
    have := List.not_of_lt_findIdx ht
    obtain ⟨h1, h2⟩ := List.getElem?_eq_some_iff.1 hy
    rw [h2] at this
    simpa using this
end

section
variable {P : Program} {w : World} {t T ty : TypeId} {k by_ : Nat}
/-- The zero of an element: cells of one word each. -/
def zerosB (P : Program) (T : TypeId) : Bool := match P.info? T with
  | some i => match i.zero with
    | some z => z.cells.toList.all fun u => u.oneCell'
    | none => false
  | none => false
theorem zero_mem : ∀ (n : Nat) (c : Array Value), ∀ u ∈ (Builtin.zeroCells c n).toList, u ∈ c.toList := by
  intro n c u hu
  unfold Builtin.zeroCells at hu
  rw [Array.toList_map] at hu
  obtain ⟨i, hi, rfl⟩ := List.mem_map.1 hu
  have h1 : i < n * c.size := by simpa using hi
  have h2 : 0 < c.size := Nat.pos_of_ne_zero fun e => by simp [e] at h1
  have h3 := Nat.mod_lt i h2
  rw [getElem!_pos c _ h3]
  simp
theorem run_clearO (hE : elemB P t T k by_ = true) (hZ : zerosB P T = true) {g o n dc : Nat} {c : Array Value} {T' : TypeId} (hg : w.heap[g]? = some (.cells c T' (0, 0))) (ho : o + n * k ≤ c.size) :
    ∃ w' c', (Builtin.clear_ #[t] ty #[.slice (some ⟨g, o, none⟩) n dc]).run P w = .ok (.tuple #[]) w' ∧ Turn g (.cells c' T' (0, 0)) w w' ∧ c'.size = c.size ∧ ∀ j, j < o → c'[j]? = c[j]? := by
  obtain ⟨ht, i, z, hi, hz, hzs, hk, _⟩ := elemB_spec hE
  subst hk
  by_cases hn : n = 0
  · subst hn
    exact ⟨w, c, by simp [Builtin.clear_, run_underlying ht], ⟨hg, fun _ _ => rfl, rfl, rfl, rfl, rfl⟩, rfl, fun _ _ => rfl⟩
  · have hzl : (Builtin.zeroCells z.cells n).toList.length = n * i.size := by rw [Array.length_toList, size_zeroCells, hzs]
    have h1 : ∀ u ∈ (Builtin.zeroCells z.cells n).toList, u.oneCell' = true := fun u hu => by
      unfold zerosB at hZ
      simp only [hi, hz] at hZ
      exact List.all_eq_true.1 hZ u (zero_mem n z.cells u hu)
    have hst := run_storeCells_cells (P := P) g o (Builtin.zeroCells z.cells n).toList 0 w (fun j hj => by rw [Nat.add_zero, cell_own hg, Array.getElem?_eq_getElem (by omega)]; rfl) (fun j hj => froz_own hg _) h1
    simp only [Nat.add_zero] at hst
    refine ⟨_, sets c o (Builtin.zeroCells z.cells n).toList, ?_, turn_sets g T' _ o w c hg (by omega), sets_size _ _ _, fun j hj => ?_⟩
    · have hn' : (match n with | 0 => true | _ => false) = false := by cases n with | zero => exact absurd rfl hn | succ n => rfl
      obtain ⟨n', rfl⟩ : ∃ n', n = n' + 1 := ⟨n - 1, by omega⟩
      simp [Builtin.clear_, run_underlying ht, zeroValue, typeInfo, hi, hz, hst]
    · rw [sets_get _ _ _ _ (by omega), if_neg (by omega)]
end
section
variable {E : Env} {k : List Fr} {l : Sl} {L : List Ob} {all os : List Oper} {o : Oper} {i : Nat}
/-- clear of a stretch of row j. -/
theorem ops_clear (j : Nat) {x : Operand} {t T T' : TypeId} {ks by_ : Nat} (ho : o.op = .call { callee := .builtin .clear, args := #[x], argTypes := #[t] }) (hw : wantL all l o = some true) (hd : (okD E.n o.dst && knownO l o) = true)
    {g of n dc : Nat} {c : Array Value} (hx : look l x = .slice (some ⟨g, of, none⟩) n dc) (hE : elemB E.P t T ks by_ = true) (hZ : zerosB E.P T = true) (hj : L[j]? = some (bx g c T')) (hs : of + n * ks ≤ c.size)
    (h : ∀ c', c'.size = c.size → (∀ j, j < of → c'[j]? = c[j]?) → Ops E k all os (i + 1) (putL o.dst (.tuple #[]) l) (L.set j (bx g c' T'))) : Ops E k all (o :: os) i l L := by
  refine ⟨fun a w ha hw' => ?_⟩
  simp only [Bool.and_eq_true] at hd
  have hg := wantL_spec ha hw
  refine wpListIn_step fun K hK => ?_
  rw [if_pos hg]
  have hrow : w.heap[g]? = some (.cells c T' (0, 0)) := hw'.row j hj
  obtain ⟨w', c', hr, ht, h1, h2⟩ := run_clearO (ty := o.type) (dc := dc) hE hZ hrow hs
  refine ⟨fun _ _ => trivial, ?_⟩
  rw [Oper.semAt_eq _ _ _ (fun c e => by rw [ho] at e; cases e), look_exec ha hd.2]
  have e : (execOp (look l) o).run E.P w = .ok (.value (.tuple #[])) w' := by
    simp [execOp, ho, resolve, invoke, builtin, hx, hr]
  rw [e]
  exact hK _ _ ((h c' h1 h2).out _ _ (ha.put hd.1 _) (hw'.turn j hj ht))
end
theorem Hs.front {w0 w : World} {A Y R : List Ob} (h : Hs w0 (A ++ (Y ++ R)) w) : Hs w0 (Y ++ (A ++ R)) w :=
  h.perm (by rw [← List.append_assoc, ← List.append_assoc]; exact (List.perm_append_comm).append_right _)
end Go.Proofs.Ytfhlmijdokfdpaa

/-! slices.IndexFunc, DeleteFunc. -/
namespace Go.Proofs.Ytfhlmijdokfdpaa
open Go Go.RowKit

set_option maxRecDepth 100000 in
theorem indexf_d (w0 : World) (X : List Ob) (pg : FuncId) (pcb : Array Value) (pd : Port → Bool) (p : Option Addr) (n cap : Nat) (l : List Port) (w : World)
    (he : ∀ args w, (callFunc pg args).run Try.prog w = .ok (.enter pg args) w)
    (hX : Hs w0 X w) (hsl : Sv w p l) (hn : n = l.length) (hb : n ≤ 4611686018427387903)
    (hc : ∀ x ∈ l, ∀ w', Hs w0 X w' → Calls Try.prog pg (#[.agg #[.int .i64 x.num, .int .i64 x.vcpu, .int .i64 x.peer, .bool x.pending, .bool x.masked]] ++ pcb) w' fun e w1 => e = .returned (.bool (pd x)) ∧ Below w'.heap.size w' w1)
    : Calls Try.prog 79 #[.slice p n cap, .func (.func pg) #[] pcb] w fun e w' => e = .returned (.int .i64 (idxF pd l)) ∧ Below w.heap.size w w' := by
  refine enter (Hs.start w) Try.func79 rfl Try.ntmps79 rfl ?_
  refine at_seq ?_
  refine aq [] [0, 1] [] ([]) (fun _ => by kernel_rfl) al0 ?_
  refine done_seq ?_
  refine at_seq ?_
  refine at_seq ?_
  refine aq [] [0, 1] [(7, .int .i64 ((n : Nat))), (8, .int .i64 0)] ([]) (fun _ => by kernel_rfl) al0 ?_
  refine done_seq ?_
  refine at_block ?_
  refine at_loop (α := Nat) [0, 1, 7, 8] (fun j => [(0, .slice p n cap), (1, .func (.func pg) #[] pcb), (7, .int .i64 ((n : Nat))), (8, .int .i64 ((j : Nat)))]) (fun j => []) (fun j => j ≤ n ∧ ∀ (t : Nat) (y : Port), t < j → l[t]? = some y → pd y = false) (fun j => n - j) 0 (by kernel_rfl) rfl ⟨Nat.zero_le _, fun t y h => by omega⟩ ?_
  rintro j
  rintro ⟨hj, hI⟩
  refine at_seq ?_
  by_cases q4 : ((j : Nat) : Int) < ((n : Nat) : Int)
  ·
    refine aq [(0, .yes)] [0, 1, 7, 8] [(9, .bool true)] ([((j : Nat) : Int) < ((n : Nat) : Int)]) (fun _ => by kernel_rfl) (al1 q4) ?_
    refine done_seq ?_
    refine at_seq ?_
    refine at_true (by kernel_rfl) ?_
    refine at_skip ?_
    refine done_seq ?_
    refine at_seq ?_
    refine at_block ?_
    refine at_seq ?_
    refine aq [] [0, 1, 7, 8] [(5, .int .i64 ((j : Nat)))] ([]) (fun _ => by kernel_rfl) al0 ?_
    refine done_seq ?_
    refine at_seq ?_
    obtain ⟨b8, o8, rfl⟩ := hsl.pos (i := j) (by omega)
    obtain ⟨x10, hx10⟩ := get_some (l := l) (m := j) (by omega)
    refine at_ops ?_
    refine oq 5 [(3, .at b8 o8 j), (4, .go (outs b8 (o8 + j * 5) [.int .i64 x10.num, .int .i64 x10.vcpu, .int .i64 x10.peer, .bool x10.pending, .bool x10.masked]))] [0, 1, 5, 7, 8] [(11, .func (.func pg) #[] pcb), (15, .agg #[.int .i64 x10.num, .int .i64 x10.vcpu, .int .i64 x10.peer, .bool x10.pending, .bool x10.masked])] ([(some ⟨b8, o8, none⟩ : Option Addr) = some ⟨b8, o8, none⟩, ((j : Nat)) = ((j : Nat) : Int), j < n] ++ (cellsP w b8 (o8 + j * 5) [.int .i64 x10.num, .int .i64 x10.vcpu, .int .i64 x10.peer, .bool x10.pending, .bool x10.masked])) (fun _ => by kernel_rfl) (alA (al2 rfl (al2 rfl (al1 (by omega)))) (rd_pre (hsl.get hx10) _ rfl)) ?_
    rcases q12 : pd x10 with _ | _
    ·
      refine ops_callD (.bool false) (by kernel_rfl) (by kernel_rfl) (by kernel_rfl) he (fun w hw => by have := hc x10 (List.mem_of_getElem? hx10) w (hX.kept hw.below); rw [q12] at this; exact this) ?_
      refine ops_nil ?_
      refine done_seq ?_
      refine at_false (by kernel_rfl) ?_
      refine at_skip ?_
      refine done_block ?_
      refine done_seq ?_
      refine aq [(0, .fit)] [0, 1, 7] [(8, .int .i64 ((j + 1 : Nat)))] ([Fit .i64 ((j + 1 : Nat))]) (fun _ => by kernel_rfl) (al1 (fit64 (by omega) (by omega))) ?_
      exact done_round [0, 1, 7, 8] (j + 1) (by kernel_rfl) rfl ⟨by omega, fun t y ht e => by
          by_cases htj : t = j
          · subst htj; rw [hx10] at e; cases e; exact q12
          · exact hI t y (by omega) e⟩ (by first | omega | (simp only; omega))
    ·
      refine ops_callD (.bool true) (by kernel_rfl) (by kernel_rfl) (by kernel_rfl) he (fun w hw => by have := hc x10 (List.mem_of_getElem? hx10) w (hX.kept hw.below); rw [q12] at this; exact this) ?_
      refine ops_nil ?_
      refine done_seq ?_
      refine at_true (by kernel_rfl) ?_
      refine at_seq ?_
      refine aq [] [] [(4, .int .i64 ((j : Nat)))] ([]) (fun _ => by kernel_rfl) al0 ?_
      refine done_seq ?_
      refine at_return ([]) (.int .i64 ((j : Nat))) [] (by kernel_rfl) (by kernel_rfl) al0 ?_
      exact fun w' hw => ⟨by rw [idxF_hit hI hx10 q12], hw.below⟩
  ·
    refine aq [(0, .no)] [0, 1, 7, 8] [(9, .bool false)] ([¬ (((j : Nat) : Int) < ((n : Nat) : Int))]) (fun _ => by kernel_rfl) (al1 q4) ?_
    refine done_seq ?_
    refine at_seq ?_
    refine at_false (by kernel_rfl) ?_
    refine at_leave _ (by rfl) ?_
    refine done_seq ?_
    refine at_seq ?_
    refine aq [] [] [(4, .int .i64 (-1))] ([]) (fun _ => by kernel_rfl) al0 ?_
    refine done_seq ?_
    refine at_return ([]) (.int .i64 (-1)) [] (by kernel_rfl) (by kernel_rfl) al0 ?_
    exact fun w' hw => ⟨by rw [idxF_miss hI (by omega)], hw.below⟩

set_option maxRecDepth 100000 in
theorem deletef_d (w0 : World) (X Y : List Ob) (pg : FuncId) (pcb : Array Value) (pd : Port → Bool) (p : Option Addr) (n cap : Nat) (l : List Port) (w : World)
    (he : ∀ args w, (callFunc pg args).run Try.prog w = .ok (.enter pg args) w)
    (hH : Hs w0 (Y ++ X) w) (hO : SlO 40 Y p n cap l) (hb : n ≤ 1000)
    (hc : ∀ x ∈ l, ∀ w', Hs w0 X w' → Calls Try.prog pg (#[.agg #[.int .i64 x.num, .int .i64 x.vcpu, .int .i64 x.peer, .bool x.pending, .bool x.masked]] ++ pcb) w' fun e w1 => e = .returned (.bool (pd x)) ∧ Below w'.heap.size w' w1)
    : Calls Try.prog 77 #[.slice p n cap, .func (.func pg) #[] pcb] w fun e w' => ∃ q m capq Y', e = .returned (.slice q m capq) ∧ SlO 40 Y' q m capq (l.filter fun x => !pd x) ∧ Hs w0 (Y' ++ X) w' := by
  have hn := hO.len
  refine enter hH Try.func77 rfl Try.ntmps77 rfl ?_
  refine at_seq ?_
  refine aq [] [0, 1] [] ([]) (fun _ => by kernel_rfl) al0 ?_
  refine done_seq ?_
  refine at_seq ?_
  refine at_ops ?_
  refine oq 2 [] [0, 1] [(8, .slice p n cap), (9, .func (.func pg) #[] pcb)] ([]) (fun _ => by kernel_rfl) al0 ?_
  rcases idxF_cases pd l with ⟨hix, hnone⟩ | ⟨i0, x0, hix, hx0, hp0, hlow⟩
  ·
    refine ops_callD (.int .i64 (-1)) (by kernel_rfl) (by kernel_rfl) (by kernel_rfl) (fun args w => Try.call79 args w) (fun w hw => by have := indexf_d w0 X pg pcb pd p n cap l w he (hw.sub (List.sublist_append_right _ _)) (hO.atN (A := []) hw) hn (by omega) hc; rw [hix] at this; exact this) ?_
    refine oq 1 [] [0, 1] [(5, .int .i64 (-1))] ([]) (fun _ => by kernel_rfl) al0 ?_
    refine ops_nil ?_
    refine done_seq ?_
    refine at_seq ?_
    refine at_seq ?_
    refine aq [] [0, 1, 5] [(12, .bool true)] ([]) (fun _ => by kernel_rfl) al0 ?_
    refine done_seq ?_
    refine at_true (by kernel_rfl) ?_
    refine at_seq ?_
    refine aq [] [] [(4, .slice p n cap)] ([]) (fun _ => by kernel_rfl) al0 ?_
    refine done_seq ?_
    refine at_return ([]) (.slice p n cap) [] (by kernel_rfl) (by kernel_rfl) al0 ?_
    exact fun w' hw => ⟨_, _, _, Y, rfl, by rw [filter_none hnone]; exact hO, hw⟩
  ·
    have hi0 := (List.getElem?_eq_some_iff.1 hx0).1
    refine ops_callD (.int .i64 ((i0 : Nat))) (by kernel_rfl) (by kernel_rfl) (by kernel_rfl) (fun args w => Try.call79 args w) (fun w hw => by have := indexf_d w0 X pg pcb pd p n cap l w he (hw.sub (List.sublist_append_right _ _)) (hO.atN (A := []) hw) hn (by omega) hc; rw [hix] at this; exact this) ?_
    refine oq 1 [] [0, 1] [(5, .int .i64 ((i0 : Nat)))] ([]) (fun _ => by kernel_rfl) al0 ?_
    refine ops_nil ?_
    refine done_seq ?_
    refine at_seq ?_
    refine at_seq ?_
    refine aq [(1, .no)] [0, 1, 5] [(12, .bool false)] ([¬ (((i0 : Nat) : Int) = (-1 : Int))]) (fun _ => by kernel_rfl) (al1 ((by omega))) ?_
    refine done_seq ?_
    refine at_false (by kernel_rfl) ?_
    refine at_skip ?_
    refine done_seq ?_
    refine at_seq ?_
    refine at_seq ?_
    refine aq [(1, .fit)] [0, 1, 5] [(6, .int .i64 ((i0 + 1 : Nat)))] ([Fit .i64 ((i0 + 1 : Nat))]) (fun _ => by kernel_rfl) (al1 (fit64 (by omega) (by omega))) ?_
    refine done_seq ?_
    refine at_block ?_
    obtain ⟨g, cs0, rfl, rfl, hOw0⟩ := hO.rowOf (i := i0) (by omega)
    refine at_loop (α := Nat × Nat × List Port × Array Value) [0, 1, 5, 6] (fun ⟨i, j, m, cs⟩ => [(0, .slice (some ⟨g, 0, none⟩) n cap), (1, .func (.func pg) #[] pcb), (5, .int .i64 ((i : Nat))), (6, .int .i64 ((j : Nat)))]) (fun ⟨i, j, m, cs⟩ => bx g cs 40 :: X) (fun ⟨i, j, m, cs⟩ => Dels pd l m i j ∧ OwnS (Enc.k Port) (m.flatMap Enc.enc) n cap cs) (fun ⟨i, j, m, cs⟩ => n - j) (i0, i0 + 1, l, cs0) (by kernel_rfl) rfl ⟨Dels.start hlow hx0 hp0, hOw0⟩ ?_
    rintro ⟨i, j, m, cs⟩
    rintro ⟨hD, hOw⟩
    have hm : n = m.length := by rw [hD.len]; exact hn
    have hij := hD.lt
    have hjn := hD.le
    refine at_seq ?_
    refine at_seq ?_
    by_cases q10 : ((j : Nat) : Int) < ((n : Nat) : Int)
    ·
      refine aq [(3, .yes)] [0, 1, 5, 6] [(19, .bool true)] ([((j : Nat) : Int) < ((n : Nat) : Int)]) (fun _ => by kernel_rfl) (al1 q10) ?_
      refine done_seq ?_
      refine at_true (by kernel_rfl) ?_
      refine at_skip ?_
      refine done_seq ?_
      refine at_seq ?_
      refine at_block ?_
      refine at_seq ?_
      obtain ⟨x13, hx13⟩ := get_some (l := m) (m := j) (by omega)
      refine am [(2, .at g 0 j), (3, .go (ownps 0 (0 + j * 5) [.int .i64 x13.num, .int .i64 x13.vcpu, .int .i64 x13.peer, .bool x13.pending, .bool x13.masked])), (5, .go (owns 0 0 5))] [0, 1, 5, 6] (fun γ14 => [(7, .pointer (some ⟨γ14 0, 0, none⟩))]) (fun γ14 L => bx (γ14 0) (#[.int .i64 x13.num, .int .i64 x13.vcpu, .int .i64 x13.peer, .bool x13.pending, .bool x13.masked]) 40 :: L) (fun γ14 => [(some ⟨g, 0, none⟩ : Option Addr) = some ⟨g, 0, none⟩, ((j : Nat)) = ((j : Nat) : Int), j < n] ++ (acellsP cs (0 + j * 5) [.int .i64 x13.num, .int .i64 x13.vcpu, .int .i64 x13.peer, .bool x13.pending, .bool x13.masked])) (fun _ => by kernel_rfl) (fun γ14 => (alA (al2 rfl (al2 rfl (al1 (by omega)))) (rda_pre ((hOw.rdx hm hx13)) _ rfl))) (fun γ14 => ?_)
      refine done_seq ?_
      refine at_seq ?_
      refine at_ops ?_
      refine oq 2 [(1, .go (owns 0 0 5))] [0, 1, 5, 6, 7] [(26, .func (.func pg) #[] pcb), (27, .agg #[.int .i64 x13.num, .int .i64 x13.vcpu, .int .i64 x13.peer, .bool x13.pending, .bool x13.masked])] ([]) (fun _ => by kernel_rfl) al0 ?_
      rcases q16 : pd x13 with _ | _
      ·
        refine ops_callD (.bool false) (by kernel_rfl) (by kernel_rfl) (by kernel_rfl) he (fun w hw => by have := hc x13 (List.mem_of_getElem? (hD.get hx13)) w (hw.tailN 2); rw [q16] at this; exact this) ?_
        refine oq 1 [] [0, 1, 5, 6, 7] [(29, .bool true)] ([]) (fun _ => by kernel_rfl) al0 ?_
        refine ops_nil ?_
        refine done_seq ?_
        refine at_true (by kernel_rfl) ?_
        refine at_seq ?_
        obtain ⟨x19, hx19⟩ := get_some (l := m) (m := i) (by omega)
        refine am [(2, .go (owns 0 0 5)), (3, .at g 0 i), (4, .go (ownps 1 (0 + i * 5) [undef, undef, undef, undef, undef]))] [0, 1, 5, 6] (fun _ => []) (fun _ L => (L.set 1 (bx g ((((((cs).setIfInBounds (0 + i * 5) (.int .i64 x13.num)).setIfInBounds (0 + i * 5 + 1) (.int .i64 x13.vcpu)).setIfInBounds (0 + i * 5 + 2) (.int .i64 x13.peer)).setIfInBounds (0 + i * 5 + 3) (.bool x13.pending)).setIfInBounds (0 + i * 5 + 4) (.bool x13.masked)) 40))) (fun _ => [(some ⟨g, 0, none⟩ : Option Addr) = some ⟨g, 0, none⟩, ((i : Nat)) = ((i : Nat) : Int), i < n] ++ ([0 + i * 5 < (cs).size] ++ ([0 + i * 5 + 1 < ((cs).setIfInBounds (0 + i * 5) (.int .i64 x13.num)).size] ++ ([0 + i * 5 + 2 < (((cs).setIfInBounds (0 + i * 5) (.int .i64 x13.num)).setIfInBounds (0 + i * 5 + 1) (.int .i64 x13.vcpu)).size] ++ ([0 + i * 5 + 3 < ((((cs).setIfInBounds (0 + i * 5) (.int .i64 x13.num)).setIfInBounds (0 + i * 5 + 1) (.int .i64 x13.vcpu)).setIfInBounds (0 + i * 5 + 2) (.int .i64 x13.peer)).size] ++ ([0 + i * 5 + 4 < (((((cs).setIfInBounds (0 + i * 5) (.int .i64 x13.num)).setIfInBounds (0 + i * 5 + 1) (.int .i64 x13.vcpu)).setIfInBounds (0 + i * 5 + 2) (.int .i64 x13.peer)).setIfInBounds (0 + i * 5 + 3) (.bool x13.pending)).size])))))) (fun _ => by kernel_rfl) (fun _ => (alA (al2 rfl (al2 rfl (al1 (by omega)))) (alA (al1 (by exact hOw.room hm hx19 (f := 0) (by decide))) (alA (al1 (by simp only [Array.size_setIfInBounds]; exact hOw.room hm hx19 (f := 1) (by decide))) (alA (al1 (by simp only [Array.size_setIfInBounds]; exact hOw.room hm hx19 (f := 2) (by decide))) (alA (al1 (by simp only [Array.size_setIfInBounds]; exact hOw.room hm hx19 (f := 3) (by decide))) (al1 (by simp only [Array.size_setIfInBounds]; exact hOw.room hm hx19 (f := 4) (by decide))))))))) (fun _ => ?_)
        refine done_seq ?_
        refine aq [(1, .fit)] [0, 1, 6] [(5, .int .i64 ((i + 1 : Nat)))] ([Fit .i64 ((i + 1 : Nat))]) (fun _ => by kernel_rfl) (al1 (fit64 (by omega) (by omega))) ?_
        refine done_block ?_
        refine done_seq ?_
        refine aq [(1, .fit)] [0, 1, 5] [(6, .int .i64 ((j + 1 : Nat)))] ([Fit .i64 ((j + 1 : Nat))]) (fun _ => by kernel_rfl) (al1 (fit64 (by omega) (by omega))) ?_
        refine Done.drop (L' := bx g ((((((cs).setIfInBounds (0 + i * 5) (.int .i64 x13.num)).setIfInBounds (0 + i * 5 + 1) (.int .i64 x13.vcpu)).setIfInBounds (0 + i * 5 + 2) (.int .i64 x13.peer)).setIfInBounds (0 + i * 5 + 3) (.bool x13.pending)).setIfInBounds (0 + i * 5 + 4) (.bool x13.masked)) 40 :: X) ?_ (List.Sublist.cons _ (List.Sublist.cons_cons _ (List.Sublist.refl _)))
        exact done_round [0, 1, 5, 6] (i + 1, j + 1, m.set i x13, (((((cs).setIfInBounds (0 + i * 5) (.int .i64 x13.num)).setIfInBounds (0 + i * 5 + 1) (.int .i64 x13.vcpu)).setIfInBounds (0 + i * 5 + 2) (.int .i64 x13.peer)).setIfInBounds (0 + i * 5 + 3) (.bool x13.pending)).setIfInBounds (0 + i * 5 + 4) (.bool x13.masked)) (by kernel_rfl) rfl ⟨hD.no hx13 q16, (hOw.putAll (x' := x13) hm hx19)⟩ (by first | omega | (simp only; omega))
      ·
        refine ops_callD (.bool true) (by kernel_rfl) (by kernel_rfl) (by kernel_rfl) he (fun w hw => by have := hc x13 (List.mem_of_getElem? (hD.get hx13)) w (hw.tailN 2); rw [q16] at this; exact this) ?_
        refine oq 1 [] [0, 1, 5, 6, 7] [(29, .bool false)] ([]) (fun _ => by kernel_rfl) al0 ?_
        refine ops_nil ?_
        refine done_seq ?_
        refine at_false (by kernel_rfl) ?_
        refine at_skip ?_
        refine done_block ?_
        refine done_seq ?_
        refine aq [(1, .fit)] [0, 1, 5] [(6, .int .i64 ((j + 1 : Nat)))] ([Fit .i64 ((j + 1 : Nat))]) (fun _ => by kernel_rfl) (al1 (fit64 (by omega) (by omega))) ?_
        refine Done.drop (L' := bx g cs 40 :: X) ?_ (List.Sublist.cons _ (List.Sublist.cons_cons _ (List.Sublist.refl _)))
        exact done_round [0, 1, 5, 6] (i, j + 1, m, cs) (by kernel_rfl) rfl ⟨hD.yes hx13 q16, hOw⟩ (by first | omega | (simp only; omega))
    ·
      refine aq [(3, .no)] [0, 1, 5, 6] [(19, .bool false)] ([¬ (((j : Nat) : Int) < ((n : Nat) : Int))]) (fun _ => by kernel_rfl) (al1 q10) ?_
      refine done_seq ?_
      refine at_false (by kernel_rfl) ?_
      refine at_leave _ (by rfl) ?_
      refine done_seq ?_
      refine at_seq ?_
      refine at_ops ?_
      refine oq 3 [(2, .sl (.slice (some ⟨g, 0 + i * 5, none⟩) (n - i) (cap - i)))] [0, 5] [(38, .slice (some ⟨g, 0 + i * 5, none⟩) (n - i) (cap - i))] ([SlRun Try.prog 22 (.slice (some ⟨g, 0, none⟩) n cap) (some (.int .i64 ((i : Nat)))) none none (.slice (some ⟨g, 0 + i * 5, none⟩) (n - i) (cap - i))]) (fun _ => by kernel_rfl) (al1 (slE_lo (P := Try.prog) (T := 22) (e := 40) (k := 5) (by_ := 32) (by kernel_rfl) (lo := i) (by omega) (by have := hOw.le; omega))) ?_
      have hcs := hOw.csz
      refine ops_clear 0 rfl (by kernel_rfl) (by kernel_rfl) (g := g) (of := 0 + i * 5) (n := n - i) (dc := cap - i) (c := cs) (by kernel_rfl) (T := 40) (ks := 5) (by_ := 32) (by kernel_rfl) (by kernel_rfl) rfl (mul_room (c := cap) (by have := hOw.le; omega) hcs) (fun c2 hc2 hpre2 => ?_)
      refine ops_nil ?_
      refine done_seq ?_
      refine at_seq ?_
      refine aq [(2, .sl (.slice (some ⟨g, 0, none⟩) i cap))] [] [(4, .slice (some ⟨g, 0, none⟩) i cap)] ([SlRun Try.prog 22 (.slice (some ⟨g, 0, none⟩) n cap) none (some (.int .i64 ((i : Nat)))) none (.slice (some ⟨g, 0, none⟩) i cap)]) (fun _ => by kernel_rfl) (al1 (slE_hi (P := Try.prog) (T := 22) (e := 40) (k := 5) (by_ := 32) (by kernel_rfl) (h := i) (by have := hOw.le; omega))) ?_
      refine done_seq ?_
      refine at_return ([]) (.slice (some ⟨g, 0, none⟩) i cap) [] (by kernel_rfl) (by kernel_rfl) al0 ?_
      exact fun w' hw => ⟨_, _, _, [_], rfl, by rw [← hD.done (j := j) (by omega)]; exact .inr ⟨_, _, rfl, rfl, by rw [List.length_take]; omega, hOw.cut hm (by omega) hc2 hpre2⟩, hw⟩
end Go.Proofs.Ytfhlmijdokfdpaa

/-! Ports: what becomes of them, in plain Lean. -/
namespace Go.Proofs.Ytfhlmijdokfdpaa
open Go Go.RowKit

/-- The first number that no port has, less one: how far the numbers run on from one. -/
def openI : List Port → Nat → Nat
  | [], i => i
  | x :: l, i => if x.num = ((i + 1 : Nat) : Int) then openI l (i + 1) else i
/-- What the layer's Open answers. -/
def openV (l : List Port) (own : Int) : List Port × Int × Int :=
  if rightB l = true then
    if vcpuB own = true then
      if openI l 0 = 32 then ([], 0, 6)
      else (l.take (openI l 0) ++ [⟨((openI l 0 + 1 : Nat) : Int), own, 0, false, false⟩] ++ l.drop (openI l 0), ((openI l 0 + 1 : Nat) : Int), 0)
    else ([], 0, 2)
  else ([], 0, 260)
section
variable {l : List Port} {own : Int} {j n : Nat} {x : Port}
theorem open_on (hI : openI (l.drop j) j = openI l 0) (hx : l[j]? = some x) (h : x.num = ((j + 1 : Nat) : Int)) : openI (l.drop (j + 1)) (j + 1) = openI l 0 := by
  rw [← hI, drop_cons hx]; simp only [openI]; rw [if_pos h]
theorem open_at (hI : openI (l.drop j) j = openI l 0) (hx : l[j]? = some x) (h : ¬ x.num = ((j + 1 : Nat) : Int)) : openI l 0 = j := by
  rw [← hI, drop_cons hx]; simp only [openI]; rw [if_neg h]
theorem open_end (hI : openI (l.drop j) j = openI l 0) (hj : l.length ≤ j) : openI l 0 = j := by
  rw [← hI, List.drop_of_length_le hj]; rfl
theorem openV_bad (h : rightB l = false) : openV l own = ([], 0, 260) := by simp [openV, h]
theorem openV_arg (h : rightB l = true) (h1 : vcpuB own = false) : openV l own = ([], 0, 2) := by simp [openV, h, h1]
theorem openV_full (h : rightB l = true) (h1 : vcpuB own = true) (hj : openI l 0 = j) (h2 : ((j : Nat) : Int) = (32 : Int)) : openV l own = ([], 0, 6) := by
  unfold openV; rw [if_pos h, if_pos h1, if_pos (by omega)]
theorem openV_ok (h : rightB l = true) (h1 : vcpuB own = true) (hj : openI l 0 = j) (h2 : ¬ ((j : Nat) : Int) = (32 : Int)) : openV l own = (l.take j ++ [⟨((j + 1 : Nat) : Int), own, 0, false, false⟩] ++ l.drop j, ((j + 1 : Nat) : Int), 0) := by
  unfold openV; rw [if_pos h, if_pos h1, if_neg (by omega), hj]
end

/-- Is a port due? -/
def dueB (x : Port) : Bool := x.pending && !x.masked
/-- What the layer's Link answers. -/
def linkV (l : List Port) (a b : Int) : List Port × Int :=
  if rightB l = true then
    match getB l a, getB l b with
    | some x, some y =>
      if a = b then ([], 2)
      else if x.peer = 0 ∧ y.peer = 0 then ((l.set (posB l a) ⟨x.num, x.vcpu, b, x.pending, x.masked⟩).set (posB l b) ⟨y.num, y.vcpu, a, y.pending, y.masked⟩, 0)
      else ([], 261)
    | _, _ => ([], 4)
  else ([], 260)
/-- What comes of the port y when it is as z. -/
def turnP (l : List Port) (y z : Port) : List Port × Int × Int :=
  (l.set (posB l y.num) z, if dueB z = true ∧ (dueB y = false ∨ y.vcpu ≠ z.vcpu) then z.vcpu else 0, 0)
/-- What the layer's Send answers. -/
def sendV (l : List Port) (k : Int) : List Port × Int × Int :=
  if rightB l = true then
    match getB l k with
    | none => ([], 0, 4)
    | some x =>
      if x.peer = 0 then ([], 0, 261)
      else match getB l x.peer with
        | none => ([], 0, 0)
        | some y => turnP l y ⟨y.num, y.vcpu, y.peer, true, y.masked⟩
  else ([], 0, 260)
section
variable {l : List Port} {a b k : Int} {x y z : Port}
theorem get_self (h : getB l k = some y) : getB l y.num = some y := by rw [(get_yes h).2.1]; exact h
theorem get_of {y2 : Port} (h : getB l k = some y) (h2 : getB l y.num = some y2) : y2 = y := by rw [get_self h] at h2; cases h2; rfl
theorem pos_of (h : getB l k = some y) : posB l y.num = posB l k := by rw [(get_yes h).2.1]
theorem pos_inj (hr : rightB l = true) (h1 : getB l a = some x) (h2 : getB l b = some y) (h : posB l a = posB l b) : a = b := by
  have p1 := (get_pos (ris_asc l 0 (right_ris hr)) h1).1
  have p2 := (get_pos (ris_asc l 0 (right_ris hr)) h2).1
  rw [h, p2] at p1; cases p1
  rw [← (get_yes h1).2.1, ← (get_yes h2).2.1]
theorem right_peer (hr : rightB l = true) (h : getB l k = some x) (h0 : ¬ x.peer = 0) : ∃ y, getB l x.peer = some y ∧ y.peer = x.num ∧ ¬ y.num = x.num := by
  have hm := (get_yes h).1
  have : linkB l x = true := by
    unfold rightB at hr
    simp only [Bool.and_eq_true, List.all_eq_true] at hr
    exact hr.2 x hm
  rcases hg : getB l x.peer with _ | y
  · rw [link_none h0 hg] at this; cases this
  · rw [link_some h0 hg] at this
    simp only [Bool.and_eq_true, decide_eq_true_eq, Bool.not_eq_true', decide_eq_false_iff_not] at this
    exact ⟨y, rfl, this.1, this.2⟩
theorem linkV_bad (h : rightB l = false) : linkV l a b = ([], 260) := by simp [linkV, h]
theorem linkV_n1 (h : rightB l = true) (h1 : getB l a = none) : linkV l a b = ([], 4) := by simp [linkV, h, h1]
theorem linkV_n2 (h : rightB l = true) (h1 : getB l b = none) : linkV l a b = ([], 4) := by cases h2 : getB l a <;> simp [linkV, h, h1, h2]
theorem linkV_same (h : rightB l = true) (h1 : getB l a = some x) (h2 : getB l b = some y) (e : a = b) : linkV l a b = ([], 2) := by simp only [linkV, h, h1, h2, if_pos e, if_true]
theorem linkV_has (h : rightB l = true) (h1 : getB l a = some x) (h2 : getB l b = some y) (e : ¬ a = b) (hp : ¬ (x.peer = 0 ∧ y.peer = 0)) : linkV l a b = ([], 261) := by simp only [linkV, h, h1, h2, if_neg e, if_true, if_neg hp]
theorem linkV_ok (h : rightB l = true) (h1 : getB l a = some x) (h2 : getB l b = some y) (e : ¬ a = b) (hp : x.peer = 0 ∧ y.peer = 0) :
    linkV l a b = ((l.set (posB l a) ⟨x.num, x.vcpu, b, x.pending, x.masked⟩).set (posB l b) ⟨y.num, y.vcpu, a, y.pending, y.masked⟩, 0) := by simp only [linkV, h, h1, h2, if_neg e, if_true, if_pos hp]
theorem sendV_bad (h : rightB l = false) : sendV l k = ([], 0, 260) := by simp [sendV, h]
theorem sendV_none (h : rightB l = true) (h1 : getB l k = none) : sendV l k = ([], 0, 4) := by simp [sendV, h, h1]
theorem sendV_alone (h : rightB l = true) (h1 : getB l k = some x) (h0 : x.peer = 0) : sendV l k = ([], 0, 261) := by simp [sendV, h, h1, h0]
theorem sendV_ok (h : rightB l = true) (h1 : getB l k = some x) (h0 : ¬ x.peer = 0) (h2 : getB l x.peer = some y) : sendV l k = turnP l y ⟨y.num, y.vcpu, y.peer, true, y.masked⟩ := by simp [sendV, h, h1, h0, h2]
theorem turnP_yes (h : dueB z = true) (h1 : dueB y = false ∨ y.vcpu ≠ z.vcpu) : turnP l y z = (l.set (posB l y.num) z, z.vcpu, 0) := by simp only [turnP, if_pos (And.intro h h1)]
theorem turnP_no (h : ¬ (dueB z = true ∧ (dueB y = false ∨ y.vcpu ≠ z.vcpu))) : turnP l y z = (l.set (posB l y.num) z, 0, 0) := by simp only [turnP, if_neg h]
end

/-- The numbers of the ports that something holds of. -/
def suchL (is : Port → Bool) (l : List Port) : List Int := (l.filter is).map Port.num
def isDue (own : Int) (x : Port) : Bool := dueB x && decide (x.vcpu = own)
/-- What the layer's Due answers. -/
def edueV (l : List Port) (own : Int) : List Int := if rightB l = true then suchL (isDue own) l else []
section
variable {l : List Port} {j : Nat} {x : Port} {is : Port → Bool} {own : Int}
theorem such_yes (hx : l[j]? = some x) (h : is x = true) : suchL is (l.take j) ++ [x.num] = suchL is (l.take (j + 1)) := by
  rw [List.take_add_one, hx]; simp [suchL, h]
theorem such_no (hx : l[j]? = some x) (h : is x = false) : suchL is (l.take j) = suchL is (l.take (j + 1)) := by
  rw [List.take_add_one, hx]; simp [suchL, h]
theorem such_len (is : Port → Bool) (l : List Port) : (suchL is l).length ≤ l.length := by unfold suchL; rw [List.length_map]; exact List.length_filter_le ..
theorem such_all (hj : l.length ≤ j) : suchL is (l.take j) = suchL is l := by rw [List.take_of_length_le hj]
theorem isDue_yes (h : dueB x = true) (hv : x.vcpu = own) : isDue own x = true := by simp [isDue, h, hv]
theorem isDue_no (h : dueB x = false) : isDue own x = false := by simp [isDue, h]
theorem isDue_not (hv : ¬ x.vcpu = own) : isDue own x = false := by simp [isDue, hv]
theorem edueV_bad (h : rightB l = false) : edueV l own = [] := by simp [edueV, h]
theorem edueV_ok (h : rightB l = true) : edueV l own = suchL (isDue own) l := by simp [edueV, h]
end
/-- What the sample does. -/
theorem wk1 : openV [] 1 = ([⟨1, 1, 0, false, false⟩], 1, 0) := by kernel_rfl
theorem wk2 : openV [⟨1, 1, 0, false, false⟩] 2 = ([⟨1, 1, 0, false, false⟩, ⟨2, 2, 0, false, false⟩], 2, 0) := by kernel_rfl
theorem wk3 : linkV [⟨1, 1, 0, false, false⟩, ⟨2, 2, 0, false, false⟩] 1 2 = ([⟨1, 1, 2, false, false⟩, ⟨2, 2, 1, false, false⟩], 0) := by kernel_rfl
theorem wk4 : sendV [⟨1, 1, 2, false, false⟩, ⟨2, 2, 1, false, false⟩] 1 = ([⟨1, 1, 2, false, false⟩, ⟨2, 2, 1, true, false⟩], 2, 0) := by kernel_rfl
theorem wk5 : edueV [⟨1, 1, 2, false, false⟩, ⟨2, 2, 1, true, false⟩] 2 = [2] := by kernel_rfl
end Go.Proofs.Ytfhlmijdokfdpaa

/-! Ports: what a change of one port makes of them, in plain Lean. -/
namespace Go.Proofs.Ytfhlmijdokfdpaa
open Go Go.RowKit

/-- What the layer's Clear answers. -/
def clearV (l : List Port) (k : Int) : List Port × Bool × Int :=
  if rightB l = true then
    match getB l k with
    | none => ([], false, 4)
    | some x => (l.set (posB l x.num) ⟨x.num, x.vcpu, x.peer, false, x.masked⟩, x.pending, 0)
  else ([], false, 260)
/-- What the layer's Raise, Mask, Bind answer: f says what becomes of the port. -/
def turnV (l : List Port) (k : Int) (f : Port → Port) : List Port × Int × Int :=
  if rightB l = true then
    match getB l k with
    | none => ([], 0, 4)
    | some x => turnP l x (f x)
  else ([], 0, 260)
/-- What the layer's Bind answers. -/
def bindV (l : List Port) (k own : Int) : List Port × Int × Int :=
  if rightB l = true then if vcpuB own = true then turnV l k (fun x => ⟨x.num, own, x.peer, x.pending, x.masked⟩) else ([], 0, 2) else ([], 0, 260)
section
variable {l : List Port} {own : Int} {k : Int} {x : Port} {f : Port → Port}
theorem clearV_bad (h : rightB l = false) : clearV l k = ([], false, 260) := by simp [clearV, h]
theorem clearV_none (h : rightB l = true) (h1 : getB l k = none) : clearV l k = ([], false, 4) := by simp [clearV, h, h1]
theorem clearV_ok (h : rightB l = true) (h1 : getB l k = some x) : clearV l k = (l.set (posB l x.num) ⟨x.num, x.vcpu, x.peer, false, x.masked⟩, x.pending, 0) := by simp [clearV, h, h1]
theorem turnV_bad (h : rightB l = false) : turnV l k f = ([], 0, 260) := by simp [turnV, h]
theorem turnV_none (h : rightB l = true) (h1 : getB l k = none) : turnV l k f = ([], 0, 4) := by simp [turnV, h, h1]
theorem turnV_ok (h : rightB l = true) (h1 : getB l k = some x) : turnV l k f = turnP l x (f x) := by simp [turnV, h, h1]
theorem bindV_bad (h : rightB l = false) : bindV l k own = ([], 0, 260) := by simp [bindV, h]
theorem bindV_arg (h : rightB l = true) (h1 : vcpuB own = false) : bindV l k own = ([], 0, 2) := by simp [bindV, h, h1]
theorem bindV_none (h : rightB l = true) (h1 : vcpuB own = true) (h2 : getB l k = none) : bindV l k own = ([], 0, 4) := by simp only [bindV, if_pos h, if_pos h1, turnV_none h h2]
theorem bindV_ok (h : rightB l = true) (h1 : vcpuB own = true) (h2 : getB l k = some x) : bindV l k own = turnP l x ⟨x.num, own, x.peer, x.pending, x.masked⟩ := by simp only [bindV, if_pos h, if_pos h1, turnV_ok h h2]
end
end Go.Proofs.Ytfhlmijdokfdpaa
