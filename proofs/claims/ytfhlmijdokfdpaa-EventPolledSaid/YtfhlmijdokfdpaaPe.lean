/- The reference's readers. -/
import Derived.Test.YtfhlmijdokfdpaaPd
namespace Go.Proofs.Ytfhlmijdokfdpaa
open Go Go.RowKit

set_option maxRecDepth 100000 in
theorem find_d (p : Option Addr) (n cap : Nat) (l : List Port) (k : Int) (w : World)
    (hsl : Sv w p l) (hn : n = l.length) (hb : n ≤ 1000)
    : Calls Try.prog 34 #[.agg #[.slice p n cap], .int .i64 k] w fun e w' => e = .returned (.int .i64 (findI l k)) ∧ Below w.heap.size w w' := by
  refine enter (Hs.start w) Try.func34 rfl Try.ntmps34 rfl ?_
  refine at_seq ?_
  refine am [] [1] (fun γ1 => [(2, .pointer (some ⟨γ1 0, 0, none⟩))]) (fun γ1 L => bx (γ1 0) (#[.slice p n cap]) 24 :: L) (fun γ1 => []) (fun _ => by kernel_rfl) (fun γ1 => al0) (fun γ1 => ?_)
  refine done_seq ?_
  refine at_seq ?_
  refine at_seq ?_
  refine aq [(1, .go (owns 0 0 1))] [1] [(8, .slice p n cap), (9, .int .i64 ((n : Nat))), (10, .int .i64 0)] ([]) (fun _ => by kernel_rfl) al0 ?_
  refine done_seq ?_
  refine at_block ?_
  refine at_loop (α := Nat) [1, 8, 9, 10] (fun j => [(1, .int .i64 k), (8, .slice p n cap), (9, .int .i64 ((n : Nat))), (10, .int .i64 ((j : Nat)))]) (fun j => [bx (γ1 0) (#[.slice p n cap]) 24]) (fun j => j ≤ n ∧ ∀ (t : Nat) (y : Port), t < j → l[t]? = some y → ¬ y.num = k) (fun j => n - j) 0 (by kernel_rfl) rfl ⟨Nat.zero_le _, fun t y h => by omega⟩ ?_
  rintro j
  rintro ⟨hj, hI⟩
  refine at_seq ?_
  by_cases q4 : ((j : Nat) : Int) < ((n : Nat) : Int)
  ·
    refine aq [(0, .yes)] [1, 8, 9, 10] [(11, .bool true)] ([((j : Nat) : Int) < ((n : Nat) : Int)]) (fun _ => by kernel_rfl) (al1 q4) ?_
    refine done_seq ?_
    refine at_seq ?_
    refine at_true (by kernel_rfl) ?_
    refine at_skip ?_
    refine done_seq ?_
    refine at_seq ?_
    refine at_block ?_
    refine at_seq ?_
    obtain ⟨b7, o7, rfl⟩ := hsl.pos (i := j) (by omega)
    obtain ⟨x9, hx9⟩ := get_some (l := l) (m := j) (by omega)
    refine am [(1, .at b7 o7 j), (2, .go (outs b7 (o7 + j * 5) [.int .i64 x9.num, .int .i64 x9.vcpu, .int .i64 x9.peer, .bool x9.pending, .bool x9.masked])), (5, .go (owns 0 0 5))] [1, 8, 9, 10] (fun γ10 => [(5, .int .i64 ((j : Nat))), (6, .pointer (some ⟨γ10 0, 0, none⟩))]) (fun γ10 L => bx (γ10 0) (#[.int .i64 x9.num, .int .i64 x9.vcpu, .int .i64 x9.peer, .bool x9.pending, .bool x9.masked]) 40 :: L) (fun γ10 => [(some ⟨b7, o7, none⟩ : Option Addr) = some ⟨b7, o7, none⟩, ((j : Nat)) = ((j : Nat) : Int), j < n] ++ (cellsP w b7 (o7 + j * 5) [.int .i64 x9.num, .int .i64 x9.vcpu, .int .i64 x9.peer, .bool x9.pending, .bool x9.masked])) (fun _ => by kernel_rfl) (fun γ10 => (alA (al2 rfl (al2 rfl (al1 (by omega)))) (rd_pre (hsl.get hx9) _ rfl))) (fun γ10 => ?_)
    refine done_seq ?_
    refine at_seq ?_
    by_cases q12 : (x9.num : Int) = (k : Int)
    ·
      refine aq [(1, .go (owns 0 0 1)), (3, .yes)] [1, 5, 8, 9, 10] [(18, .bool true)] ([(x9.num : Int) = (k : Int)]) (fun _ => by kernel_rfl) (al1 q12) ?_
      refine done_seq ?_
      refine at_true (by kernel_rfl) ?_
      refine at_seq ?_
      refine aq [] [] [(4, .int .i64 ((j : Nat)))] ([]) (fun _ => by kernel_rfl) al0 ?_
      refine done_seq ?_
      refine at_return ([]) (.int .i64 ((j : Nat))) [] (by kernel_rfl) (by kernel_rfl) al0 ?_
      exact fun w' hw => ⟨by rw [find_hit hI hx9 (by assumption)], hw.below⟩
    ·
      refine aq [(1, .go (owns 0 0 1)), (3, .no)] [1, 5, 8, 9, 10] [(18, .bool false)] ([¬ ((x9.num : Int) = (k : Int))]) (fun _ => by kernel_rfl) (al1 q12) ?_
      refine done_seq ?_
      refine at_false (by kernel_rfl) ?_
      refine at_skip ?_
      refine done_block ?_
      refine done_seq ?_
      refine aq [(0, .fit)] [1, 8, 9] [(10, .int .i64 ((j + 1 : Nat)))] ([Fit .i64 ((j + 1 : Nat))]) (fun _ => by kernel_rfl) (al1 (fit64 (by omega) (by omega))) ?_
      refine Done.drop (L' := [bx (γ1 0) (#[.slice (some ⟨b7, o7, none⟩) n cap]) 24]) ?_ (List.Sublist.cons _ (List.Sublist.cons_cons _ (List.Sublist.refl _)))
      exact done_round [1, 8, 9, 10] (j + 1) (by kernel_rfl) rfl ⟨by omega, fun t y ht e => by
          by_cases htj : t = j
          · subst htj; rw [hx9] at e; cases e; assumption
          · exact hI t y (by omega) e⟩ (by first | omega | (simp only; omega))
  ·
    refine aq [(0, .no)] [1, 8, 9, 10] [(11, .bool false)] ([¬ (((j : Nat) : Int) < ((n : Nat) : Int))]) (fun _ => by kernel_rfl) (al1 q4) ?_
    refine done_seq ?_
    refine at_seq ?_
    refine at_false (by kernel_rfl) ?_
    refine at_leave _ (by rfl) ?_
    refine done_seq ?_
    refine at_seq ?_
    refine aq [] [] [(4, .int .i64 (-1))] ([]) (fun _ => by kernel_rfl) al0 ?_
    refine done_seq ?_
    refine at_return ([]) (.int .i64 (-1)) [] (by kernel_rfl) (by kernel_rfl) al0 ?_
    exact fun w' hw => ⟨by rw [← find_miss hI (by omega)], hw.below⟩

set_option maxRecDepth 100000 in
theorem rright_d (p : Option Addr) (n cap : Nat) (l : List Port) (w : World)
    (hsl : Sv w p l) (hn : n = l.length) (hb : n ≤ 1000)
    : Calls Try.prog 13 #[.agg #[.slice p n cap]] w fun e w' => e = .returned (.bool (rightB l)) ∧ Below w.heap.size w w' := by
  refine enter (Hs.start w) Try.func13 rfl Try.ntmps13 rfl ?_
  refine at_seq ?_
  refine am [] [] (fun γ1 => [(1, .pointer (some ⟨γ1 0, 0, none⟩))]) (fun γ1 L => bx (γ1 0) (#[.slice p n cap]) 24 :: L) (fun γ1 => []) (fun _ => by kernel_rfl) (fun γ1 => al0) (fun γ1 => ?_)
  refine done_seq ?_
  refine at_seq ?_
  refine at_seq ?_
  refine aq [(1, .go (owns 0 0 1))] [1] [(7, .slice p n cap), (8, .int .i64 ((n : Nat))), (9, .int .i64 0)] ([]) (fun _ => by kernel_rfl) al0 ?_
  refine done_seq ?_
  refine at_block ?_
  refine at_loop (α := Nat) [1, 7, 8, 9] (fun j => [(1, .pointer (some ⟨γ1 0, 0, none⟩)), (7, .slice p n cap), (8, .int .i64 ((n : Nat))), (9, .int .i64 ((j : Nat)))]) (fun j => [bx (γ1 0) (#[.slice p n cap]) 24]) (fun j => j ≤ n ∧ ∀ (t : Nat) (y : Port), t < j → l[t]? = some y → OkAt l t y) (fun j => n - j) 0 (by kernel_rfl) rfl ⟨Nat.zero_le _, fun t y h => by omega⟩ ?_
  rintro j
  rintro ⟨hj, hI⟩
  refine at_seq ?_
  by_cases q4 : ((j : Nat) : Int) < ((n : Nat) : Int)
  ·
    refine aq [(0, .yes)] [1, 7, 8, 9] [(10, .bool true)] ([((j : Nat) : Int) < ((n : Nat) : Int)]) (fun _ => by kernel_rfl) (al1 q4) ?_
    refine done_seq ?_
    refine at_seq ?_
    refine at_true (by kernel_rfl) ?_
    refine at_skip ?_
    refine done_seq ?_
    refine at_seq ?_
    refine at_block ?_
    refine at_seq ?_
    obtain ⟨b7, o7, rfl⟩ := hsl.pos (i := j) (by omega)
    obtain ⟨x9, hx9⟩ := get_some (l := l) (m := j) (by omega)
    refine am [(1, .at b7 o7 j), (2, .go (outs b7 (o7 + j * 5) [.int .i64 x9.num, .int .i64 x9.vcpu, .int .i64 x9.peer, .bool x9.pending, .bool x9.masked])), (5, .go (owns 0 0 5))] [1, 7, 8, 9] (fun γ10 => [(3, .int .i64 ((j : Nat))), (4, .pointer (some ⟨γ10 0, 0, none⟩))]) (fun γ10 L => bx (γ10 0) (#[.int .i64 x9.num, .int .i64 x9.vcpu, .int .i64 x9.peer, .bool x9.pending, .bool x9.masked]) 40 :: L) (fun γ10 => [(some ⟨b7, o7, none⟩ : Option Addr) = some ⟨b7, o7, none⟩, ((j : Nat)) = ((j : Nat) : Int), j < n] ++ (cellsP w b7 (o7 + j * 5) [.int .i64 x9.num, .int .i64 x9.vcpu, .int .i64 x9.peer, .bool x9.pending, .bool x9.masked])) (fun _ => by kernel_rfl) (fun γ10 => (alA (al2 rfl (al2 rfl (al1 (by omega)))) (rd_pre (hsl.get hx9) _ rfl))) (fun γ10 => ?_)
    refine done_seq ?_
    refine at_seq ?_
    refine at_seq ?_
    by_cases q12 : (x9.num : Int) < (1 : Int)
    ·
      refine cq [(1, .go (owns 0 0 1)), (2, .yes)] [1, 3, 4, 7, 8, 9] [(43, .bool true)] ([(x9.num : Int) < (1 : Int)]) rfl (by kernel_rfl) (by kernel_rfl) (by kernel_rfl) (al1 q12) ?_
      refine done_seq ?_
      refine at_true (by kernel_rfl) ?_
      refine at_seq ?_
      refine aq [] [] [(2, .bool false)] ([]) (fun _ => by kernel_rfl) al0 ?_
      refine done_seq ?_
      refine at_return ([]) (.bool false) [] (by kernel_rfl) (by kernel_rfl) al0 ?_
      exact fun w' hw => ⟨by rw [right_bad hx9 (fun ⟨a1, a2, a3, a4, a5⟩ => by first | omega | omega | (simp_all; done) | (rcases a5 with e | ⟨y', e1, e2, e3⟩; omega; rw [hg] at e1; cases e1) | (rcases a5 with e | ⟨y', e1, e2, e3⟩; omega; rw [hg] at e1; cases e1; rw [hjf] at e2; omega))], hw.below⟩
    ·
      by_cases q16 : (x9.num : Int) > (32 : Int)
      ·
        refine cq [(1, .go (owns 0 0 1)), (2, .no), (5, .go (owns 0 0 1)), (6, .yes)] [1, 3, 4, 7, 8, 9] [(43, .bool true)] ([¬ ((x9.num : Int) < (1 : Int))] ++ ([(x9.num : Int) > (32 : Int)])) rfl (by kernel_rfl) (by kernel_rfl) (by kernel_rfl) (alA (al1 q12) (al1 q16)) ?_
        refine done_seq ?_
        refine at_true (by kernel_rfl) ?_
        refine at_seq ?_
        refine aq [] [] [(2, .bool false)] ([]) (fun _ => by kernel_rfl) al0 ?_
        refine done_seq ?_
        refine at_return ([]) (.bool false) [] (by kernel_rfl) (by kernel_rfl) al0 ?_
        exact fun w' hw => ⟨by rw [right_bad hx9 (fun ⟨a1, a2, a3, a4, a5⟩ => by first | omega | omega | (simp_all; done) | (rcases a5 with e | ⟨y', e1, e2, e3⟩; omega; rw [hg] at e1; cases e1) | (rcases a5 with e | ⟨y', e1, e2, e3⟩; omega; rw [hg] at e1; cases e1; rw [hjf] at e2; omega))], hw.below⟩
      ·
        by_cases q20 : ((j : Nat) : Int) > (0 : Int)
        ·
          obtain ⟨x22, hx22⟩ := get_some (l := l) (m := j - 1) (by omega)
          by_cases q24 : (x22.num : Int) ≥ (x9.num : Int)
          ·
            refine cq [(1, .go (owns 0 0 1)), (2, .no), (5, .go (owns 0 0 1)), (6, .no), (10, .yes), (13, .go (owns 1 0 1)), (15, .fit), (16, .at b7 o7 (j - 1)), (18, .go (outs b7 (o7 + (j - 1) * 5) [.int .i64 x22.num])), (20, .go (owns 0 0 1)), (21, .yes)] [1, 3, 4, 7, 8, 9] [(43, .bool true)] ([¬ ((x9.num : Int) < (1 : Int))] ++ ([¬ ((x9.num : Int) > (32 : Int))] ++ ([((j : Nat) : Int) > (0 : Int)] ++ ([Fit .i64 (((j : Nat)) - 1)] ++ ([(some ⟨b7, o7, none⟩ : Option Addr) = some ⟨b7, o7, none⟩, (((j : Nat)) - 1) = ((j - 1 : Nat) : Int), j - 1 < n] ++ (cellsP w b7 (o7 + (j - 1) * 5) [.int .i64 x22.num] ++ ([(x22.num : Int) ≥ (x9.num : Int)]))))))) rfl (by kernel_rfl) (by kernel_rfl) (by kernel_rfl) (alA (al1 q12) (alA (al1 q16) (alA (al1 q20) (alA (al1 (fit64 (by omega) (by omega))) (alA (al2 rfl (al2 (by omega) (al1 (by omega)))) (alA (rd_pre (hsl.get hx22) _ rfl) (al1 q24))))))) ?_
            refine done_seq ?_
            refine at_true (by kernel_rfl) ?_
            refine at_seq ?_
            refine aq [] [] [(2, .bool false)] ([]) (fun _ => by kernel_rfl) al0 ?_
            refine done_seq ?_
            refine at_return ([]) (.bool false) [] (by kernel_rfl) (by kernel_rfl) al0 ?_
            exact fun w' hw => ⟨by rw [right_bad hx9 (fun ⟨a1, a2, a3, a4, a5⟩ => by first | omega | (have := a3 _ (by omega) hx22; omega) | (simp_all; done) | (rcases a5 with e | ⟨y', e1, e2, e3⟩; omega; rw [hg] at e1; cases e1) | (rcases a5 with e | ⟨y', e1, e2, e3⟩; omega; rw [hg] at e1; cases e1; rw [hjf] at e2; omega))], hw.below⟩
          ·
            refine at_calm rfl (by kernel_rfl) (by kernel_rfl) ?_
            refine cm 27 [(1, .go (owns 0 0 1)), (2, .no), (5, .go (owns 0 0 1)), (6, .no), (10, .yes), (13, .go (owns 1 0 1)), (15, .fit), (16, .at b7 o7 (j - 1)), (18, .go (outs b7 (o7 + (j - 1) * 5) [.int .i64 x22.num])), (20, .go (owns 0 0 1)), (21, .no), (26, .go (owns 0 1 1))] [1, 3, 4, 7, 8, 9] [(38, .bool false), (40, .int .i64 x9.vcpu)] ([¬ ((x9.num : Int) < (1 : Int))] ++ ([¬ ((x9.num : Int) > (32 : Int))] ++ ([((j : Nat) : Int) > (0 : Int)] ++ ([Fit .i64 (((j : Nat)) - 1)] ++ ([(some ⟨b7, o7, none⟩ : Option Addr) = some ⟨b7, o7, none⟩, (((j : Nat)) - 1) = ((j - 1 : Nat) : Int), j - 1 < n] ++ (cellsP w b7 (o7 + (j - 1) * 5) [.int .i64 x22.num] ++ ([¬ ((x22.num : Int) ≥ (x9.num : Int))]))))))) (by kernel_rfl) rfl (alA (al1 q12) (alA (al1 q16) (alA (al1 q20) (alA (al1 (fit64 (by omega) (by omega))) (alA (al2 rfl (al2 (by omega) (al1 (by omega)))) (alA (rd_pre (hsl.get hx22) _ rfl) (al1 q24))))))) ?_
            rcases q28 : vcpuB x9.vcpu with _ | _
            ·
              refine calm_callD (.bool false) (by kernel_rfl) (by kernel_rfl) (by kernel_rfl) (fun args w => Try.call33 args w) (fun w hw => by have := rvcpu_d x9.vcpu w; rw [q28] at this; exact this) ?_
              refine cm 2 [] [1, 3, 4, 7, 8, 9] [(43, .bool true)] ([]) (by kernel_rfl) rfl al0 ?_
              refine calm_nil' ?_
              refine done_seq ?_
              refine at_true (by kernel_rfl) ?_
              refine at_seq ?_
              refine aq [] [] [(2, .bool false)] ([]) (fun _ => by kernel_rfl) al0 ?_
              refine done_seq ?_
              refine at_return ([]) (.bool false) [] (by kernel_rfl) (by kernel_rfl) al0 ?_
              exact fun w' hw => ⟨by rw [right_bad hx9 (fun ⟨a1, a2, a3, a4, a5⟩ => by first | omega | (have := a3 _ (by omega) hx22; omega) | (simp_all; done) | (rcases a5 with e | ⟨y', e1, e2, e3⟩; omega; rw [hg] at e1; cases e1) | (rcases a5 with e | ⟨y', e1, e2, e3⟩; omega; rw [hg] at e1; cases e1; rw [hjf] at e2; omega))], hw.below⟩
            ·
              refine calm_callD (.bool true) (by kernel_rfl) (by kernel_rfl) (by kernel_rfl) (fun args w => Try.call33 args w) (fun w hw => by have := rvcpu_d x9.vcpu w; rw [q28] at this; exact this) ?_
              refine cm 2 [] [1, 3, 4, 7, 8, 9] [(43, .bool false)] ([]) (by kernel_rfl) rfl al0 ?_
              refine calm_nil' ?_
              refine done_seq ?_
              refine at_false (by kernel_rfl) ?_
              refine at_skip ?_
              refine done_seq ?_
              refine at_seq ?_
              refine at_seq ?_
              by_cases q33 : (x9.peer : Int) = (0 : Int)
              ·
                refine aq [(1, .go (owns 0 2 1)), (2, .yes)] [1, 3, 4, 7, 8, 9] [(46, .bool true)] ([(x9.peer : Int) = (0 : Int)]) (fun _ => by kernel_rfl) (al1 q33) ?_
                refine done_seq ?_
                refine at_true (by kernel_rfl) ?_
                refine at_leave _ (by rfl) ?_
                refine done_seq ?_
                refine aq [(0, .fit)] [1, 7, 8] [(9, .int .i64 ((j + 1 : Nat)))] ([Fit .i64 ((j + 1 : Nat))]) (fun _ => by kernel_rfl) (al1 (fit64 (by omega) (by omega))) ?_
                refine Done.drop (L' := [bx (γ1 0) (#[.slice (some ⟨b7, o7, none⟩) n cap]) 24]) ?_ (List.Sublist.cons _ (List.Sublist.cons_cons _ (List.Sublist.refl _)))
                exact done_round [1, 7, 8, 9] (j + 1) (by kernel_rfl) rfl ⟨by omega, fun t y' ht e => by
                    by_cases htj : t = j
                    · subst htj; rw [hx9] at e; cases e; exact ⟨by omega, by omega, fun y ht hy => by first | omega | (rw [hx22] at hy; cases hy; omega), by assumption, .inl (by assumption)⟩
                    · exact hI t y' (by omega) e⟩ (by first | omega | (simp only; omega))
              ·
                refine aq [(1, .go (owns 0 2 1)), (2, .no)] [1, 3, 4, 7, 8, 9] [(46, .bool false)] ([¬ ((x9.peer : Int) = (0 : Int))]) (fun _ => by kernel_rfl) (al1 q33) ?_
                refine done_seq ?_
                refine at_false (by kernel_rfl) ?_
                refine at_skip ?_
                refine done_seq ?_
                refine at_seq ?_
                refine at_ops ?_
                refine oq 3 [(0, .go (owns 1 0 1)), (2, .go (owns 0 2 1))] [1, 3, 4, 7, 8, 9] [(47, .agg #[.slice (some ⟨b7, o7, none⟩) n cap]), (49, .int .i64 x9.peer)] ([]) (fun _ => by kernel_rfl) al0 ?_
                rcases hg : getB l x9.peer with _ | y
                ·
                  refine ops_callD (.int .i64 (-1)) (by kernel_rfl) (by kernel_rfl) (by kernel_rfl) (fun args w => Try.call34 args w) (fun w hw => by have := find_d (some ⟨b7, o7, none⟩) n cap l x9.peer w (hsl.kept hw.below) hn hb; rw [find_none hg] at this; exact this) ?_
                  refine oq 1 [] [1, 3, 4, 7, 8, 9] [(5, .int .i64 (-1))] ([]) (fun _ => by kernel_rfl) al0 ?_
                  refine ops_nil ?_
                  refine done_seq ?_
                  refine at_seq ?_
                  refine cq [] [1, 7, 8, 9] [(68, .bool true)] ([]) rfl (by kernel_rfl) (by kernel_rfl) (by kernel_rfl) al0 ?_
                  refine done_seq ?_
                  refine at_true (by kernel_rfl) ?_
                  refine at_seq ?_
                  refine aq [] [] [(2, .bool false)] ([]) (fun _ => by kernel_rfl) al0 ?_
                  refine done_seq ?_
                  refine at_return ([]) (.bool false) [] (by kernel_rfl) (by kernel_rfl) al0 ?_
                  exact fun w' hw => ⟨by rw [right_bad hx9 (fun ⟨a1, a2, a3, a4, a5⟩ => by first | omega | (have := a3 _ (by omega) hx22; omega) | (simp_all; done) | (rcases a5 with e | ⟨y', e1, e2, e3⟩; omega; rw [hg] at e1; cases e1) | (rcases a5 with e | ⟨y', e1, e2, e3⟩; omega; rw [hg] at e1; cases e1; rw [hjf] at e2; omega))], hw.below⟩
                ·
                  obtain ⟨jf, hjf, hyf, _⟩ := find_some hg
                  have hjn : jf < l.length := (List.getElem?_eq_some_iff.1 hyf).1
                  refine ops_callD (.int .i64 ((jf : Nat))) (by kernel_rfl) (by kernel_rfl) (by kernel_rfl) (fun args w => Try.call34 args w) (fun w hw => by have := find_d (some ⟨b7, o7, none⟩) n cap l x9.peer w (hsl.kept hw.below) hn hb; rw [hjf] at this; exact this) ?_
                  refine oq 1 [] [1, 3, 4, 7, 8, 9] [(5, .int .i64 ((jf : Nat)))] ([]) (fun _ => by kernel_rfl) al0 ?_
                  refine ops_nil ?_
                  refine done_seq ?_
                  refine at_seq ?_
                  by_cases q43 : ((jf : Nat) : Int) = ((j : Nat) : Int)
                  ·
                    refine cq [(1, .no), (5, .yes)] [1, 7, 8, 9] [(68, .bool true)] ([¬ (((jf : Nat) : Int) < (0 : Int))] ++ ([((jf : Nat) : Int) = ((j : Nat) : Int)])) rfl (by kernel_rfl) (by kernel_rfl) (by kernel_rfl) (alA (al1 ((by omega))) (al1 q43)) ?_
                    refine done_seq ?_
                    refine at_true (by kernel_rfl) ?_
                    refine at_seq ?_
                    refine aq [] [] [(2, .bool false)] ([]) (fun _ => by kernel_rfl) al0 ?_
                    refine done_seq ?_
                    refine at_return ([]) (.bool false) [] (by kernel_rfl) (by kernel_rfl) al0 ?_
                    exact fun w' hw => ⟨by rw [right_bad hx9 (fun ⟨a1, a2, a3, a4, a5⟩ => by first | omega | (have := a3 _ (by omega) hx22; omega) | (simp_all; done) | (rcases a5 with e | ⟨y', e1, e2, e3⟩; omega; rw [hg] at e1; cases e1) | (rcases a5 with e | ⟨y', e1, e2, e3⟩; omega; rw [hg] at e1; cases e1; rw [hjf] at e2; omega))], hw.below⟩
                  ·
                    by_cases q47 : (y.peer : Int) ≠ (x9.num : Int)
                    ·
                      refine cq [(1, .no), (5, .no), (9, .go (owns 1 0 1)), (11, .at b7 o7 jf), (13, .go (outs b7 (o7 + jf * 5 + 2) [.int .i64 y.peer])), (15, .go (owns 0 0 1)), (16, .yes)] [1, 7, 8, 9] [(68, .bool true)] ([¬ (((jf : Nat) : Int) < (0 : Int))] ++ ([¬ (((jf : Nat) : Int) = ((j : Nat) : Int))] ++ ([(some ⟨b7, o7, none⟩ : Option Addr) = some ⟨b7, o7, none⟩, ((jf : Nat)) = ((jf : Nat) : Int), jf < n] ++ (cellsP w b7 (o7 + jf * 5 + 2) [.int .i64 y.peer] ++ ([(y.peer : Int) ≠ (x9.num : Int)]))))) rfl (by kernel_rfl) (by kernel_rfl) (by kernel_rfl) (alA (al1 ((by omega))) (alA (al1 q43) (alA (al2 rfl (al2 rfl (al1 (by omega)))) (alA (rd_part (hsl.get hyf) 2 _ rfl) (al1 q47))))) ?_
                      refine done_seq ?_
                      refine at_true (by kernel_rfl) ?_
                      refine at_seq ?_
                      refine aq [] [] [(2, .bool false)] ([]) (fun _ => by kernel_rfl) al0 ?_
                      refine done_seq ?_
                      refine at_return ([]) (.bool false) [] (by kernel_rfl) (by kernel_rfl) al0 ?_
                      exact fun w' hw => ⟨by rw [right_bad hx9 (fun ⟨a1, a2, a3, a4, a5⟩ => by first | omega | (have := a3 _ (by omega) hx22; omega) | (simp_all; done) | (rcases a5 with e | ⟨y', e1, e2, e3⟩; omega; rw [hg] at e1; cases e1) | (rcases a5 with e | ⟨y', e1, e2, e3⟩; omega; rw [hg] at e1; cases e1; rw [hjf] at e2; omega))], hw.below⟩
                    ·
                      refine cq [(1, .no), (5, .no), (9, .go (owns 1 0 1)), (11, .at b7 o7 jf), (13, .go (outs b7 (o7 + jf * 5 + 2) [.int .i64 y.peer])), (15, .go (owns 0 0 1)), (16, .no)] [1, 7, 8, 9] [(68, .bool false)] ([¬ (((jf : Nat) : Int) < (0 : Int))] ++ ([¬ (((jf : Nat) : Int) = ((j : Nat) : Int))] ++ ([(some ⟨b7, o7, none⟩ : Option Addr) = some ⟨b7, o7, none⟩, ((jf : Nat)) = ((jf : Nat) : Int), jf < n] ++ (cellsP w b7 (o7 + jf * 5 + 2) [.int .i64 y.peer] ++ ([¬ ((y.peer : Int) ≠ (x9.num : Int))]))))) rfl (by kernel_rfl) (by kernel_rfl) (by kernel_rfl) (alA (al1 ((by omega))) (alA (al1 q43) (alA (al2 rfl (al2 rfl (al1 (by omega)))) (alA (rd_part (hsl.get hyf) 2 _ rfl) (al1 q47))))) ?_
                      refine done_seq ?_
                      refine at_false (by kernel_rfl) ?_
                      refine at_skip ?_
                      refine done_block ?_
                      refine done_seq ?_
                      refine aq [(0, .fit)] [1, 7, 8] [(9, .int .i64 ((j + 1 : Nat)))] ([Fit .i64 ((j + 1 : Nat))]) (fun _ => by kernel_rfl) (al1 (fit64 (by omega) (by omega))) ?_
                      refine Done.drop (L' := [bx (γ1 0) (#[.slice (some ⟨b7, o7, none⟩) n cap]) 24]) ?_ (List.Sublist.cons _ (List.Sublist.cons_cons _ (List.Sublist.refl _)))
                      exact done_round [1, 7, 8, 9] (j + 1) (by kernel_rfl) rfl ⟨by omega, fun t y' ht e => by
                          by_cases htj : t = j
                          · subst htj; rw [hx9] at e; cases e; exact ⟨by omega, by omega, fun y ht hy => by first | omega | (rw [hx22] at hy; cases hy; omega), by assumption, .inr ⟨y, hg, by rw [hjf]; omega, by omega⟩⟩
                          · exact hI t y' (by omega) e⟩ (by first | omega | (simp only; omega))
        ·
          refine at_calm rfl (by kernel_rfl) (by kernel_rfl) ?_
          refine cm 27 [(1, .go (owns 0 0 1)), (2, .no), (5, .go (owns 0 0 1)), (6, .no), (10, .no), (26, .go (owns 0 1 1))] [1, 3, 4, 7, 8, 9] [(38, .bool false), (40, .int .i64 x9.vcpu)] ([¬ ((x9.num : Int) < (1 : Int))] ++ ([¬ ((x9.num : Int) > (32 : Int))] ++ ([¬ (((j : Nat) : Int) > (0 : Int))]))) (by kernel_rfl) rfl (alA (al1 q12) (alA (al1 q16) (al1 q20))) ?_
          rcases q53 : vcpuB x9.vcpu with _ | _
          ·
            refine calm_callD (.bool false) (by kernel_rfl) (by kernel_rfl) (by kernel_rfl) (fun args w => Try.call33 args w) (fun w hw => by have := rvcpu_d x9.vcpu w; rw [q53] at this; exact this) ?_
            refine cm 2 [] [1, 3, 4, 7, 8, 9] [(43, .bool true)] ([]) (by kernel_rfl) rfl al0 ?_
            refine calm_nil' ?_
            refine done_seq ?_
            refine at_true (by kernel_rfl) ?_
            refine at_seq ?_
            refine aq [] [] [(2, .bool false)] ([]) (fun _ => by kernel_rfl) al0 ?_
            refine done_seq ?_
            refine at_return ([]) (.bool false) [] (by kernel_rfl) (by kernel_rfl) al0 ?_
            exact fun w' hw => ⟨by rw [right_bad hx9 (fun ⟨a1, a2, a3, a4, a5⟩ => by first | omega | omega | (simp_all; done) | (rcases a5 with e | ⟨y', e1, e2, e3⟩; omega; rw [hg] at e1; cases e1) | (rcases a5 with e | ⟨y', e1, e2, e3⟩; omega; rw [hg] at e1; cases e1; rw [hjf] at e2; omega))], hw.below⟩
          ·
            refine calm_callD (.bool true) (by kernel_rfl) (by kernel_rfl) (by kernel_rfl) (fun args w => Try.call33 args w) (fun w hw => by have := rvcpu_d x9.vcpu w; rw [q53] at this; exact this) ?_
            refine cm 2 [] [1, 3, 4, 7, 8, 9] [(43, .bool false)] ([]) (by kernel_rfl) rfl al0 ?_
            refine calm_nil' ?_
            refine done_seq ?_
            refine at_false (by kernel_rfl) ?_
            refine at_skip ?_
            refine done_seq ?_
            refine at_seq ?_
            refine at_seq ?_
            by_cases q58 : (x9.peer : Int) = (0 : Int)
            ·
              refine aq [(1, .go (owns 0 2 1)), (2, .yes)] [1, 3, 4, 7, 8, 9] [(46, .bool true)] ([(x9.peer : Int) = (0 : Int)]) (fun _ => by kernel_rfl) (al1 q58) ?_
              refine done_seq ?_
              refine at_true (by kernel_rfl) ?_
              refine at_leave _ (by rfl) ?_
              refine done_seq ?_
              refine aq [(0, .fit)] [1, 7, 8] [(9, .int .i64 ((j + 1 : Nat)))] ([Fit .i64 ((j + 1 : Nat))]) (fun _ => by kernel_rfl) (al1 (fit64 (by omega) (by omega))) ?_
              refine Done.drop (L' := [bx (γ1 0) (#[.slice (some ⟨b7, o7, none⟩) n cap]) 24]) ?_ (List.Sublist.cons _ (List.Sublist.cons_cons _ (List.Sublist.refl _)))
              exact done_round [1, 7, 8, 9] (j + 1) (by kernel_rfl) rfl ⟨by omega, fun t y' ht e => by
                  by_cases htj : t = j
                  · subst htj; rw [hx9] at e; cases e; exact ⟨by omega, by omega, fun y ht hy => by omega, by assumption, .inl (by assumption)⟩
                  · exact hI t y' (by omega) e⟩ (by first | omega | (simp only; omega))
            ·
              refine aq [(1, .go (owns 0 2 1)), (2, .no)] [1, 3, 4, 7, 8, 9] [(46, .bool false)] ([¬ ((x9.peer : Int) = (0 : Int))]) (fun _ => by kernel_rfl) (al1 q58) ?_
              refine done_seq ?_
              refine at_false (by kernel_rfl) ?_
              refine at_skip ?_
              refine done_seq ?_
              refine at_seq ?_
              refine at_ops ?_
              refine oq 3 [(0, .go (owns 1 0 1)), (2, .go (owns 0 2 1))] [1, 3, 4, 7, 8, 9] [(47, .agg #[.slice (some ⟨b7, o7, none⟩) n cap]), (49, .int .i64 x9.peer)] ([]) (fun _ => by kernel_rfl) al0 ?_
              rcases hg : getB l x9.peer with _ | y
              ·
                refine ops_callD (.int .i64 (-1)) (by kernel_rfl) (by kernel_rfl) (by kernel_rfl) (fun args w => Try.call34 args w) (fun w hw => by have := find_d (some ⟨b7, o7, none⟩) n cap l x9.peer w (hsl.kept hw.below) hn hb; rw [find_none hg] at this; exact this) ?_
                refine oq 1 [] [1, 3, 4, 7, 8, 9] [(5, .int .i64 (-1))] ([]) (fun _ => by kernel_rfl) al0 ?_
                refine ops_nil ?_
                refine done_seq ?_
                refine at_seq ?_
                refine cq [] [1, 7, 8, 9] [(68, .bool true)] ([]) rfl (by kernel_rfl) (by kernel_rfl) (by kernel_rfl) al0 ?_
                refine done_seq ?_
                refine at_true (by kernel_rfl) ?_
                refine at_seq ?_
                refine aq [] [] [(2, .bool false)] ([]) (fun _ => by kernel_rfl) al0 ?_
                refine done_seq ?_
                refine at_return ([]) (.bool false) [] (by kernel_rfl) (by kernel_rfl) al0 ?_
                exact fun w' hw => ⟨by rw [right_bad hx9 (fun ⟨a1, a2, a3, a4, a5⟩ => by first | omega | omega | (simp_all; done) | (rcases a5 with e | ⟨y', e1, e2, e3⟩; omega; rw [hg] at e1; cases e1) | (rcases a5 with e | ⟨y', e1, e2, e3⟩; omega; rw [hg] at e1; cases e1; rw [hjf] at e2; omega))], hw.below⟩
              ·
                obtain ⟨jf, hjf, hyf, _⟩ := find_some hg
                have hjn : jf < l.length := (List.getElem?_eq_some_iff.1 hyf).1
                refine ops_callD (.int .i64 ((jf : Nat))) (by kernel_rfl) (by kernel_rfl) (by kernel_rfl) (fun args w => Try.call34 args w) (fun w hw => by have := find_d (some ⟨b7, o7, none⟩) n cap l x9.peer w (hsl.kept hw.below) hn hb; rw [hjf] at this; exact this) ?_
                refine oq 1 [] [1, 3, 4, 7, 8, 9] [(5, .int .i64 ((jf : Nat)))] ([]) (fun _ => by kernel_rfl) al0 ?_
                refine ops_nil ?_
                refine done_seq ?_
                refine at_seq ?_
                by_cases q68 : ((jf : Nat) : Int) = ((j : Nat) : Int)
                ·
                  refine cq [(1, .no), (5, .yes)] [1, 7, 8, 9] [(68, .bool true)] ([¬ (((jf : Nat) : Int) < (0 : Int))] ++ ([((jf : Nat) : Int) = ((j : Nat) : Int)])) rfl (by kernel_rfl) (by kernel_rfl) (by kernel_rfl) (alA (al1 ((by omega))) (al1 q68)) ?_
                  refine done_seq ?_
                  refine at_true (by kernel_rfl) ?_
                  refine at_seq ?_
                  refine aq [] [] [(2, .bool false)] ([]) (fun _ => by kernel_rfl) al0 ?_
                  refine done_seq ?_
                  refine at_return ([]) (.bool false) [] (by kernel_rfl) (by kernel_rfl) al0 ?_
                  exact fun w' hw => ⟨by rw [right_bad hx9 (fun ⟨a1, a2, a3, a4, a5⟩ => by first | omega | omega | (simp_all; done) | (rcases a5 with e | ⟨y', e1, e2, e3⟩; omega; rw [hg] at e1; cases e1) | (rcases a5 with e | ⟨y', e1, e2, e3⟩; omega; rw [hg] at e1; cases e1; rw [hjf] at e2; omega))], hw.below⟩
                ·
                  by_cases q72 : (y.peer : Int) ≠ (x9.num : Int)
                  ·
                    refine cq [(1, .no), (5, .no), (9, .go (owns 1 0 1)), (11, .at b7 o7 jf), (13, .go (outs b7 (o7 + jf * 5 + 2) [.int .i64 y.peer])), (15, .go (owns 0 0 1)), (16, .yes)] [1, 7, 8, 9] [(68, .bool true)] ([¬ (((jf : Nat) : Int) < (0 : Int))] ++ ([¬ (((jf : Nat) : Int) = ((j : Nat) : Int))] ++ ([(some ⟨b7, o7, none⟩ : Option Addr) = some ⟨b7, o7, none⟩, ((jf : Nat)) = ((jf : Nat) : Int), jf < n] ++ (cellsP w b7 (o7 + jf * 5 + 2) [.int .i64 y.peer] ++ ([(y.peer : Int) ≠ (x9.num : Int)]))))) rfl (by kernel_rfl) (by kernel_rfl) (by kernel_rfl) (alA (al1 ((by omega))) (alA (al1 q68) (alA (al2 rfl (al2 rfl (al1 (by omega)))) (alA (rd_part (hsl.get hyf) 2 _ rfl) (al1 q72))))) ?_
                    refine done_seq ?_
                    refine at_true (by kernel_rfl) ?_
                    refine at_seq ?_
                    refine aq [] [] [(2, .bool false)] ([]) (fun _ => by kernel_rfl) al0 ?_
                    refine done_seq ?_
                    refine at_return ([]) (.bool false) [] (by kernel_rfl) (by kernel_rfl) al0 ?_
                    exact fun w' hw => ⟨by rw [right_bad hx9 (fun ⟨a1, a2, a3, a4, a5⟩ => by first | omega | omega | (simp_all; done) | (rcases a5 with e | ⟨y', e1, e2, e3⟩; omega; rw [hg] at e1; cases e1) | (rcases a5 with e | ⟨y', e1, e2, e3⟩; omega; rw [hg] at e1; cases e1; rw [hjf] at e2; omega))], hw.below⟩
                  ·
                    refine cq [(1, .no), (5, .no), (9, .go (owns 1 0 1)), (11, .at b7 o7 jf), (13, .go (outs b7 (o7 + jf * 5 + 2) [.int .i64 y.peer])), (15, .go (owns 0 0 1)), (16, .no)] [1, 7, 8, 9] [(68, .bool false)] ([¬ (((jf : Nat) : Int) < (0 : Int))] ++ ([¬ (((jf : Nat) : Int) = ((j : Nat) : Int))] ++ ([(some ⟨b7, o7, none⟩ : Option Addr) = some ⟨b7, o7, none⟩, ((jf : Nat)) = ((jf : Nat) : Int), jf < n] ++ (cellsP w b7 (o7 + jf * 5 + 2) [.int .i64 y.peer] ++ ([¬ ((y.peer : Int) ≠ (x9.num : Int))]))))) rfl (by kernel_rfl) (by kernel_rfl) (by kernel_rfl) (alA (al1 ((by omega))) (alA (al1 q68) (alA (al2 rfl (al2 rfl (al1 (by omega)))) (alA (rd_part (hsl.get hyf) 2 _ rfl) (al1 q72))))) ?_
                    refine done_seq ?_
                    refine at_false (by kernel_rfl) ?_
                    refine at_skip ?_
                    refine done_block ?_
                    refine done_seq ?_
                    refine aq [(0, .fit)] [1, 7, 8] [(9, .int .i64 ((j + 1 : Nat)))] ([Fit .i64 ((j + 1 : Nat))]) (fun _ => by kernel_rfl) (al1 (fit64 (by omega) (by omega))) ?_
                    refine Done.drop (L' := [bx (γ1 0) (#[.slice (some ⟨b7, o7, none⟩) n cap]) 24]) ?_ (List.Sublist.cons _ (List.Sublist.cons_cons _ (List.Sublist.refl _)))
                    exact done_round [1, 7, 8, 9] (j + 1) (by kernel_rfl) rfl ⟨by omega, fun t y' ht e => by
                        by_cases htj : t = j
                        · subst htj; rw [hx9] at e; cases e; exact ⟨by omega, by omega, fun y ht hy => by omega, by assumption, .inr ⟨y, hg, by rw [hjf]; omega, by omega⟩⟩
                        · exact hI t y' (by omega) e⟩ (by first | omega | (simp only; omega))
  ·
    refine aq [(0, .no)] [1, 7, 8, 9] [(10, .bool false)] ([¬ (((j : Nat) : Int) < ((n : Nat) : Int))]) (fun _ => by kernel_rfl) (al1 q4) ?_
    refine done_seq ?_
    refine at_seq ?_
    refine at_false (by kernel_rfl) ?_
    refine at_leave _ (by rfl) ?_
    refine done_seq ?_
    refine at_seq ?_
    refine aq [] [] [(2, .bool true)] ([]) (fun _ => by kernel_rfl) al0 ?_
    refine done_seq ?_
    refine at_return ([]) (.bool true) [] (by kernel_rfl) (by kernel_rfl) al0 ?_
    exact fun w' hw => ⟨by rw [right_good fun t y e => hI t y (by have := (List.getElem?_eq_some_iff.1 e).1; omega) e], hw.below⟩

set_option maxRecDepth 100000 in
theorem rget_d (p : Option Addr) (n cap : Nat) (l : List Port) (k : Int) (w : World)
    (hsl : Sv w p l) (hn : n = l.length) (hb : n ≤ 1000)
    : Calls Try.prog 19 #[.agg #[.slice p n cap], .int .i64 k] w fun e w' => e = .returned (optV (getB l k)) ∧ Below w.heap.size w w' := by
  refine enter (Hs.start w) Try.func19 rfl Try.ntmps19 rfl ?_
  refine at_seq ?_
  refine am [] [1] (fun γ1 => [(2, .pointer (some ⟨γ1 0, 0, none⟩)), (4, .pointer (some ⟨γ1 1, 0, none⟩))]) (fun γ1 L => bx (γ1 1) (#[.int .i64 0, .int .i64 0, .int .i64 0, .bool false, .bool false]) 40 :: bx (γ1 0) (#[.slice p n cap]) 24 :: L) (fun γ1 => []) (fun _ => by kernel_rfl) (fun γ1 => al0) (fun γ1 => ?_)
  refine done_seq ?_
  refine at_seq ?_
  refine at_seq ?_
  refine at_ops ?_
  refine oq 2 [(0, .go (owns 1 0 1))] [2, 4] [(7, .agg #[.slice p n cap]), (8, .int .i64 k)] ([]) (fun _ => by kernel_rfl) al0 ?_
  rcases hg : getB l k with _ | y
  ·
    refine ops_callD (.int .i64 (-1)) (by kernel_rfl) (by kernel_rfl) (by kernel_rfl) (fun args w => Try.call34 args w) (fun w hw => by have := find_d p n cap l k w (hsl.kept hw.below) hn hb; rw [find_none hg] at this; exact this) ?_
    refine oq 1 [] [2, 4] [(6, .int .i64 (-1))] ([]) (fun _ => by kernel_rfl) al0 ?_
    refine ops_nil ?_
    refine done_seq ?_
    refine at_seq ?_
    refine aq [] [2, 4, 6] [(11, .bool false)] ([]) (fun _ => by kernel_rfl) al0 ?_
    refine done_seq ?_
    refine at_false (by kernel_rfl) ?_
    refine at_skip ?_
    refine done_seq ?_
    refine at_seq ?_
    refine aq [(1, .go (owns 0 0 5))] [4] [(5, .bool false)] ([]) (fun _ => by kernel_rfl) al0 ?_
    refine done_seq ?_
    refine at_return (owns 0 0 5) (.tuple #[.agg #[.int .i64 0, .int .i64 0, .int .i64 0, .bool false, .bool false], .bool false]) [] (by kernel_rfl) (by kernel_rfl) al0 ?_
    exact fun w' hw => ⟨rfl, hw.below⟩
  ·
    obtain ⟨jf, hjf, hyf, _⟩ := find_some hg
    have hjn : jf < l.length := (List.getElem?_eq_some_iff.1 hyf).1
    refine ops_callD (.int .i64 ((jf : Nat))) (by kernel_rfl) (by kernel_rfl) (by kernel_rfl) (fun args w => Try.call34 args w) (fun w hw => by have := find_d p n cap l k w (hsl.kept hw.below) hn hb; rw [hjf] at this; exact this) ?_
    refine oq 1 [] [2, 4] [(6, .int .i64 ((jf : Nat)))] ([]) (fun _ => by kernel_rfl) al0 ?_
    refine ops_nil ?_
    refine done_seq ?_
    refine at_seq ?_
    refine aq [(1, .yes)] [2, 4, 6] [(11, .bool true)] ([((jf : Nat) : Int) ≥ (0 : Int)]) (fun _ => by kernel_rfl) (al1 ((by omega))) ?_
    refine done_seq ?_
    refine at_true (by kernel_rfl) ?_
    refine at_seq ?_
    obtain ⟨b9, o9, rfl⟩ := hsl.pos (i := jf) (by omega)
    refine am [(1, .go (owns 1 0 1)), (3, .at b9 o9 jf), (4, .go (outs b9 (o9 + jf * 5) [.int .i64 y.num, .int .i64 y.vcpu, .int .i64 y.peer, .bool y.pending, .bool y.masked])), (5, .go (owns 0 0 5))] [4] (fun _ => [(5, .bool true)]) (fun _ L => (L.set 0 (bx (γ1 1) (#[.int .i64 y.num, .int .i64 y.vcpu, .int .i64 y.peer, .bool y.pending, .bool y.masked]) 40))) (fun _ => [(some ⟨b9, o9, none⟩ : Option Addr) = some ⟨b9, o9, none⟩, ((jf : Nat)) = ((jf : Nat) : Int), jf < n] ++ (cellsP w b9 (o9 + jf * 5) [.int .i64 y.num, .int .i64 y.vcpu, .int .i64 y.peer, .bool y.pending, .bool y.masked])) (fun _ => by kernel_rfl) (fun _ => (alA (al2 rfl (al2 rfl (al1 (by omega)))) (rd_pre (hsl.get hyf) _ rfl))) (fun _ => ?_)
    refine done_seq ?_
    refine at_return (owns 0 0 5) (.tuple #[.agg #[.int .i64 y.num, .int .i64 y.vcpu, .int .i64 y.peer, .bool y.pending, .bool y.masked], .bool true]) [] (by kernel_rfl) (by kernel_rfl) al0 ?_
    exact fun w' hw => ⟨rfl, hw.below⟩
end Go.Proofs.Ytfhlmijdokfdpaa
