/- Functions of package slices. -/
import Derived.Test.YtfhlmijdokfdpaaPi
namespace Go.Proofs.Ytfhlmijdokfdpaa
open Go Go.RowKit

set_option maxRecDepth 100000 in
theorem clone_d (p : Option Addr) (n cap : Nat) (l : List Port) (w : World)
    (hsl : Sv w p l) (hn : n = l.length) (hb : n ≤ 1000)
    : Calls Try.prog 72 #[.slice p n cap] w fun e w' => ∃ q capq Y, e = .returned (.slice q n capq) ∧ SlO 40 Y q n capq l ∧ Below w.heap.size w w' ∧ Hs w Y w' := by
  refine enter (Hs.start w) Try.func72 rfl Try.ntmps72 rfl ?_
  refine at_seq ?_
  refine aq [] [0] [] ([]) (fun _ => by kernel_rfl) al0 ?_
  refine done_seq ?_
  refine at_seq ?_
  refine at_seq ?_
  rcases p with _ | a3
  ·
    refine aq [] [0] [(4, .bool true)] ([]) (fun _ => by kernel_rfl) al0 ?_
    refine done_seq ?_
    refine at_true (by kernel_rfl) ?_
    refine at_seq ?_
    refine aq [] [] [(2, .slice none 0 0)] ([]) (fun _ => by kernel_rfl) al0 ?_
    refine done_seq ?_
    refine at_return ([]) (.slice none 0 0) [] (by kernel_rfl) (by kernel_rfl) al0 ?_
    exact fun w' hw => ⟨none, 0, [], by rw [hn, hsl.none]; rfl, by rw [hn, hsl.none]; exact SlO.nil, hw.below, hw.sub (List.nil_sublist _)⟩
  ·
    refine aq [] [0] [(4, .bool false)] ([]) (fun _ => by kernel_rfl) al0 ?_
    refine done_seq ?_
    refine at_false (by kernel_rfl) ?_
    refine at_skip ?_
    refine done_seq ?_
    refine at_seq ?_
    refine at_ops ?_
    refine om 2 [] [] (fun γ7 => [(5, .slice (some ⟨γ7 0, 0, none⟩) 0 0), (6, .slice (some a3) n cap)]) (fun γ7 L => bx (γ7 0) (#[]) 40 :: L) (fun γ7 => []) (fun _ => by kernel_rfl) (fun γ7 => al0) (fun γ7 => ?_)
    refine ops_append (α := Port) [] ([bx (γ7 0) (#[]) 40]) ([]) (mvE rfl) rfl (by kernel_rfl) (by kernel_rfl) (p := (some ⟨γ7 0, 0, none⟩)) (n := 0) (cap := 0) (m := n) (yv := .slice (some a3) n cap) (by kernel_rfl) (by kernel_rfl) (T := 40) (by_ := 32) (by kernel_rfl) ([]) l (SlO.lit (by rfl) (by rfl) (by simp [maxLen])) (fun w hw => src_svn Try.underlying22 (hsl.kept hw.below) hn) hn (by have hmx : maxLen = 9223372036854775807 := rfl; omega) (by have hmx : maxLen = 9223372036854775807 := rfl; omega) (fun Y8 p8 cap8 hO8 => ?_)
    refine oq 1 [] [] [(2, .slice p8 (0 + n) cap8)] ([]) (fun _ => by kernel_rfl) al0 ?_
    refine ops_nil ?_
    refine done_seq ?_
    refine at_return ([]) (.slice p8 (0 + n) cap8) [] (by kernel_rfl) (by kernel_rfl) al0 ?_
    exact fun w' hw => ⟨_, _, _, by rw [Nat.zero_add], by simpa using hO8, hw.below, ((hw.tailN 0).sub (List.sublist_append_left Y8 ([])))⟩

set_option maxRecDepth 100000 in
theorem index_d (p : Option Addr) (n cap : Nat) (l : List Int) (k : Int) (w : World)
    (hsl : Sv w p l) (hn : n = l.length) (hb : n ≤ 1000)
    : Calls Try.prog 53 #[.slice p n cap, .int .i64 k] w fun e w' => e = .returned (.int .i64 (idxI l k)) ∧ Below w.heap.size w w' := by
  refine enter (Hs.start w) Try.func53 rfl Try.ntmps53 rfl ?_
  refine at_seq ?_
  refine aq [] [0, 1] [] ([]) (fun _ => by kernel_rfl) al0 ?_
  refine done_seq ?_
  refine at_seq ?_
  refine at_seq ?_
  refine aq [] [0, 1] [(7, .int .i64 ((n : Nat))), (8, .int .i64 0)] ([]) (fun _ => by kernel_rfl) al0 ?_
  refine done_seq ?_
  refine at_block ?_
  refine at_loop (α := Nat) [0, 1, 7, 8] (fun j => [(0, .slice p n cap), (1, .int .i64 k), (7, .int .i64 ((n : Nat))), (8, .int .i64 ((j : Nat)))]) (fun j => []) (fun j => j ≤ n ∧ ∀ (t : Nat) (y : Int), t < j → l[t]? = some y → ¬ y = k) (fun j => n - j) 0 (by kernel_rfl) rfl ⟨Nat.zero_le _, fun t y h => by omega⟩ ?_
  rintro j
  rintro ⟨hj, hI⟩
  refine at_seq ?_
  by_cases q4 : ((j : Nat) : Int) < ((n : Nat) : Int)
  ·
    refine aq [(0, .yes)] [0, 1, 7, 8] [(9, .bool true)] ([((j : Nat) : Int) < ((n : Nat) : Int)]) (fun _ => by kernel_rfl) (al1 q4) ?_
    refine done_seq ?_
    refine at_seq ?_
    refine at_true (by kernel_rfl) ?_
    refine at_skip ?_
    refine done_seq ?_
    refine at_seq ?_
    refine at_block ?_
    refine at_seq ?_
    refine aq [] [0, 1, 7, 8] [(5, .int .i64 ((j : Nat)))] ([]) (fun _ => by kernel_rfl) al0 ?_
    refine done_seq ?_
    refine at_seq ?_
    obtain ⟨b8, o8, rfl⟩ := hsl.pos (i := j) (by omega)
    obtain ⟨x10, hx10⟩ := get_some (l := l) (m := j) (by omega)
    by_cases q12 : (k : Int) = (x10 : Int)
    ·
      refine aq [(3, .at b8 o8 j), (4, .go (outs b8 (o8 + j * 1) [.int .i64 x10])), (5, .yes)] [0, 1, 5, 7, 8] [(16, .bool true)] ([(some ⟨b8, o8, none⟩ : Option Addr) = some ⟨b8, o8, none⟩, ((j : Nat)) = ((j : Nat) : Int), j < n] ++ (cellsP w b8 (o8 + j * 1) [.int .i64 x10] ++ ([(k : Int) = (x10 : Int)]))) (fun _ => by kernel_rfl) (alA (al2 rfl (al2 rfl (al1 (by omega)))) (alA (rd_pre (hsl.get hx10) _ rfl) (al1 q12))) ?_
      refine done_seq ?_
      refine at_true (by kernel_rfl) ?_
      refine at_seq ?_
      refine aq [] [] [(4, .int .i64 ((j : Nat)))] ([]) (fun _ => by kernel_rfl) al0 ?_
      refine done_seq ?_
      refine at_return ([]) (.int .i64 ((j : Nat))) [] (by kernel_rfl) (by kernel_rfl) al0 ?_
      exact fun w' hw => ⟨by rw [idx_hit hI hx10 (by omega)], hw.below⟩
    ·
      refine aq [(3, .at b8 o8 j), (4, .go (outs b8 (o8 + j * 1) [.int .i64 x10])), (5, .no)] [0, 1, 5, 7, 8] [(16, .bool false)] ([(some ⟨b8, o8, none⟩ : Option Addr) = some ⟨b8, o8, none⟩, ((j : Nat)) = ((j : Nat) : Int), j < n] ++ (cellsP w b8 (o8 + j * 1) [.int .i64 x10] ++ ([¬ ((k : Int) = (x10 : Int))]))) (fun _ => by kernel_rfl) (alA (al2 rfl (al2 rfl (al1 (by omega)))) (alA (rd_pre (hsl.get hx10) _ rfl) (al1 q12))) ?_
      refine done_seq ?_
      refine at_false (by kernel_rfl) ?_
      refine at_skip ?_
      refine done_block ?_
      refine done_seq ?_
      refine aq [(0, .fit)] [0, 1, 7] [(8, .int .i64 ((j + 1 : Nat)))] ([Fit .i64 ((j + 1 : Nat))]) (fun _ => by kernel_rfl) (al1 (fit64 (by omega) (by omega))) ?_
      exact done_round [0, 1, 7, 8] (j + 1) (by kernel_rfl) rfl ⟨by omega, fun t y ht e => by
          by_cases htj : t = j
          · subst htj; rw [hx10] at e; cases e; omega
          · exact hI t y (by omega) e⟩ (by first | omega | (simp only; omega))
  ·
    refine aq [(0, .no)] [0, 1, 7, 8] [(9, .bool false)] ([¬ (((j : Nat) : Int) < ((n : Nat) : Int))]) (fun _ => by kernel_rfl) (al1 q4) ?_
    refine done_seq ?_
    refine at_seq ?_
    refine at_false (by kernel_rfl) ?_
    refine at_leave _ (by rfl) ?_
    refine done_seq ?_
    refine at_seq ?_
    refine aq [] [] [(4, .int .i64 (-1))] ([]) (fun _ => by kernel_rfl) al0 ?_
    refine done_seq ?_
    refine at_return ([]) (.int .i64 (-1)) [] (by kernel_rfl) (by kernel_rfl) al0 ?_
    exact fun w' hw => ⟨by rw [← idx_miss hI (by omega)], hw.below⟩

set_option maxRecDepth 100000 in
theorem contains_d (p : Option Addr) (n cap : Nat) (l : List Int) (k : Int) (w : World)
    (hsl : Sv w p l) (hn : n = l.length) (hb : n ≤ 1000)
    : Calls Try.prog 27 #[.slice p n cap, .int .i64 k] w fun e w' => e = .returned (.bool (decide (k ∈ l))) ∧ Below w.heap.size w w' := by
  refine enter (Hs.start w) Try.func27 rfl Try.ntmps27 rfl ?_
  refine at_seq ?_
  refine aq [] [0, 1] [] ([]) (fun _ => by kernel_rfl) al0 ?_
  refine done_seq ?_
  refine at_seq ?_
  refine at_ops ?_
  refine oq 2 [] [] [(5, .slice p n cap), (6, .int .i64 k)] ([]) (fun _ => by kernel_rfl) al0 ?_
  refine ops_callD (.int .i64 (idxI l k)) (by kernel_rfl) (by kernel_rfl) (by kernel_rfl) (fun args w => Try.call53 args w) (fun w hw => index_d p n cap l k w (hsl.kept hw.below) hn hb) ?_
  by_cases q4 : (idxI l k : Int) ≥ (0 : Int)
  ·
    refine oq 2 [(3, .yes)] [] [(4, .bool true)] ([(idxI l k : Int) ≥ (0 : Int)]) (fun _ => by kernel_rfl) (al1 q4) ?_
    refine ops_nil ?_
    refine done_seq ?_
    refine at_return ([]) (.bool true) [] (by kernel_rfl) (by kernel_rfl) al0 ?_
    exact fun w' hw => ⟨by rw [idx_in (by assumption)], hw.below⟩
  ·
    refine oq 2 [(3, .no)] [] [(4, .bool false)] ([¬ ((idxI l k : Int) ≥ (0 : Int))]) (fun _ => by kernel_rfl) (al1 q4) ?_
    refine ops_nil ?_
    refine done_seq ?_
    refine at_return ([]) (.bool false) [] (by kernel_rfl) (by kernel_rfl) al0 ?_
    exact fun w' hw => ⟨by rw [idx_out (by assumption)], hw.below⟩
end Go.Proofs.Ytfhlmijdokfdpaa
