/- wakes. -/
import Derived.Test.YtfhlmijdokfdpaaPq
import Derived.Test.YtfhlmijdokfdpaaPn
import Derived.Test.YtfhlmijdokfdpaaPo
namespace Go.Proofs.Ytfhlmijdokfdpaa
open Go Go.RowKit

set_option maxRecDepth 100000 in
theorem wakes_d  (w : World)
    : Calls Try.prog 10 #[] w fun e w' => e = .returned (.bool true) ∧ Below w.heap.size w w' := by
  refine enter (Hs.start w) Try.func10 rfl Try.ntmps10 rfl ?_
  refine at_seq ?_
  refine aq [] [] [] ([]) (fun _ => by kernel_rfl) al0 ?_
  refine done_seq ?_
  refine at_seq ?_
  refine at_ops ?_
  refine oq 1 [] [] [(10, .agg #[.slice none 0 0])] ([]) (fun _ => by kernel_rfl) al0 ?_
  refine ops_call (fun v L' => ∃ q m capq Y, v = .tuple #[.agg #[.slice q m capq], .int .i64 1, .int .i64 0] ∧ L' = List.take 0 ([]) ++ (Y ++ List.drop 0 ([])) ∧ SlO 40 Y q m capq ([⟨1, 1, 0, false, false⟩] : List Port)) (by kernel_rfl) (by kernel_rfl) (by kernel_rfl) (fun args w => Try.call28 args w) (fun w hw => by have := open_d none 0 0 ([] : List Port) 1 w Sv.nil rfl (by omega); rw [wk1] at this; exact this.mono fun e w' ⟨q, m, capq, Y, he, hO, hb, hY⟩ => ⟨_, _, he, ⟨q, m, capq, Y, rfl, rfl, hO⟩, hw.join hb hY 0⟩) ?_
  rintro v3 L3 ⟨q3, m3, cq3, Y3, rfl, rfl, hO3⟩
  have hm3 := hO3.len
  simp only [List.length_cons, List.length_nil] at hm3
  refine om 8 [(7, .go (owns 0 0 1))] [] (fun γ4 => [(1, .pointer (some ⟨γ4 0, 0, none⟩)), (2, .int .i64 1), (3, .int .i64 0)]) (fun γ4 L => bx (γ4 0) (#[.slice q3 m3 cq3]) 24 :: L) (fun γ4 => []) (fun _ => by kernel_rfl) (fun γ4 => al0) (fun γ4 => ?_)
  refine ops_nil ?_
  refine done_seq ?_
  refine at_seq ?_
  refine at_ops ?_
  refine oq 1 [(0, .go (owns 0 0 1))] [1, 2, 3] [(16, .agg #[.slice q3 m3 cq3])] ([]) (fun _ => by kernel_rfl) al0 ?_
  refine ops_call (fun v L' => ∃ q m capq Y, v = .tuple #[.agg #[.slice q m capq], .int .i64 2, .int .i64 0] ∧ L' = List.take 1 (bx (γ4 0) (#[.slice q3 m3 cq3]) 24 :: (Y3 ++ [])) ++ (Y ++ List.drop 1 (bx (γ4 0) (#[.slice q3 m3 cq3]) 24 :: (Y3 ++ []))) ∧ SlO 40 Y q m capq ([⟨1, 1, 0, false, false⟩, ⟨2, 2, 0, false, false⟩] : List Port)) (by kernel_rfl) (by kernel_rfl) (by kernel_rfl) (fun args w => Try.call28 args w) (fun w hw => by have := open_d q3 m3 cq3 ([⟨1, 1, 0, false, false⟩] : List Port) 2 w (hO3.atN (A := [_]) hw) hO3.len (by omega); rw [wk2] at this; exact this.mono fun e w' ⟨q, m, capq, Y, he, hO, hb, hY⟩ => ⟨_, _, he, ⟨q, m, capq, Y, rfl, rfl, hO⟩, hw.join hb hY 1⟩) ?_
  rintro v6 L6 ⟨q6, m6, cq6, Y6, rfl, rfl, hO6⟩
  have hm6 := hO6.len
  simp only [List.length_cons, List.length_nil] at hm6
  refine om 7 [(6, .go (owns 0 0 1))] [1, 2, 3] (fun _ => [(4, .int .i64 2), (5, .int .i64 0)]) (fun _ L => (L.set 0 (bx (γ4 0) (#[.slice q6 m6 cq6]) 24))) (fun _ => []) (fun _ => by kernel_rfl) (fun _ => al0) (fun _ => ?_)
  refine ops_nil ?_
  refine done_seq ?_
  refine at_seq ?_
  refine at_ops ?_
  refine oq 3 [(0, .go (owns 0 0 1))] [1, 2, 3, 4, 5] [(22, .agg #[.slice q6 m6 cq6]), (23, .int .i64 1), (24, .int .i64 2)] ([]) (fun _ => by kernel_rfl) al0 ?_
  refine ops_call (fun v L' => ∃ q m capq Y, v = .tuple #[.agg #[.slice q m capq], .int .i64 0] ∧ L' = List.take 1 (bx (γ4 0) (#[.slice q6 m6 cq6]) 24 :: (Y6 ++ (Y3 ++ []))) ++ (Y ++ List.drop 1 (bx (γ4 0) (#[.slice q6 m6 cq6]) 24 :: (Y6 ++ (Y3 ++ [])))) ∧ SlO 40 Y q m capq ([⟨1, 1, 2, false, false⟩, ⟨2, 2, 1, false, false⟩] : List Port)) (by kernel_rfl) (by kernel_rfl) (by kernel_rfl) (fun args w => Try.call29 args w) (fun w hw => by have := link_d q6 m6 cq6 ([⟨1, 1, 0, false, false⟩, ⟨2, 2, 0, false, false⟩] : List Port) 1 2 w (hO6.atN (A := [_]) hw) hO6.len (by omega); rw [wk3] at this; exact this.mono fun e w' ⟨q, m, capq, Y, he, hO, hb, hY⟩ => ⟨_, _, he, ⟨q, m, capq, Y, rfl, rfl, hO⟩, hw.join hb hY 1⟩) ?_
  rintro v9 L9 ⟨q9, m9, cq9, Y9, rfl, rfl, hO9⟩
  have hm9 := hO9.len
  simp only [List.length_cons, List.length_nil] at hm9
  refine om 5 [(7, .go (owns 0 0 1))] [1, 2, 3, 4, 5] (fun _ => [(6, .int .i64 0)]) (fun _ L => (L.set 0 (bx (γ4 0) (#[.slice q9 m9 cq9]) 24))) (fun _ => []) (fun _ => by kernel_rfl) (fun _ => al0) (fun _ => ?_)
  refine ops_nil ?_
  refine done_seq ?_
  refine at_seq ?_
  refine at_ops ?_
  refine oq 2 [(0, .go (owns 0 0 1))] [1, 2, 3, 4, 5, 6] [(29, .agg #[.slice q9 m9 cq9]), (30, .int .i64 1)] ([]) (fun _ => by kernel_rfl) al0 ?_
  refine ops_call (fun v L' => ∃ q m capq Y, v = .tuple #[.agg #[.slice q m capq], .int .i64 2, .int .i64 0] ∧ L' = List.take 1 (bx (γ4 0) (#[.slice q9 m9 cq9]) 24 :: (Y9 ++ (Y6 ++ (Y3 ++ [])))) ++ (Y ++ List.drop 1 (bx (γ4 0) (#[.slice q9 m9 cq9]) 24 :: (Y9 ++ (Y6 ++ (Y3 ++ []))))) ∧ SlO 40 Y q m capq ([⟨1, 1, 2, false, false⟩, ⟨2, 2, 1, true, false⟩] : List Port)) (by kernel_rfl) (by kernel_rfl) (by kernel_rfl) (fun args w => Try.call30 args w) (fun w hw => by have := send_d q9 m9 cq9 ([⟨1, 1, 2, false, false⟩, ⟨2, 2, 1, false, false⟩] : List Port) 1 w (hO9.atN (A := [_]) hw) hO9.len (by omega); rw [wk4] at this; exact this.mono fun e w' ⟨q, m, capq, Y, he, hO, hb, hY⟩ => ⟨_, _, he, ⟨q, m, capq, Y, rfl, rfl, hO⟩, hw.join hb hY 1⟩) ?_
  rintro v12 L12 ⟨q12, m12, cq12, Y12, rfl, rfl, hO12⟩
  have hm12 := hO12.len
  simp only [List.length_cons, List.length_nil] at hm12
  refine om 7 [(7, .go (owns 0 0 1))] [1, 2, 3, 4, 5, 6] (fun _ => [(7, .int .i64 2), (8, .int .i64 0)]) (fun _ L => (L.set 0 (bx (γ4 0) (#[.slice q12 m12 cq12]) 24))) (fun _ => []) (fun _ => by kernel_rfl) (fun _ => al0) (fun _ => ?_)
  refine ops_nil ?_
  refine done_seq ?_
  refine at_seq ?_
  refine at_ops ?_
  refine oq 28 [(27, .go (owns 0 0 1))] [] [(61, .bool true), (62, .agg #[.slice q12 m12 cq12])] ([]) (fun _ => by kernel_rfl) al0 ?_
  refine ops_call (fun v L' => ∃ q m capq Y, v = .slice q m capq ∧ L' = List.take 1 (bx (γ4 0) (#[.slice q12 m12 cq12]) 24 :: (Y12 ++ (Y9 ++ (Y6 ++ (Y3 ++ []))))) ++ (Y ++ List.drop 1 (bx (γ4 0) (#[.slice q12 m12 cq12]) 24 :: (Y12 ++ (Y9 ++ (Y6 ++ (Y3 ++ [])))))) ∧ SlO 3 Y q m capq ([2] : List Int)) (by kernel_rfl) (by kernel_rfl) (by kernel_rfl) (fun args w => Try.call22 args w) (fun w hw => by have := edue_d q12 m12 cq12 ([⟨1, 1, 2, false, false⟩, ⟨2, 2, 1, true, false⟩] : List Port) 2 w (hO12.atN (A := [_]) hw) hO12.len (by omega); rw [wk5] at this; exact this.mono fun e w' ⟨q, m, capq, Y, he, hO, hb, hY⟩ => ⟨_, _, he, ⟨q, m, capq, Y, rfl, rfl, hO⟩, hw.join hb hY 1⟩) ?_
  rintro v15 L15 ⟨q15, m15, cq15, Y15, rfl, rfl, hO15⟩
  have hm15 := hO15.len
  refine oq 4 [(30, .yes)] [] [(0, .bool true)] ([((m15 : Nat) : Int) = (1 : Int)]) (fun _ => by kernel_rfl) (al1 ((by rw [hm15]; rfl))) ?_
  refine ops_nil ?_
  refine done_seq ?_
  refine at_return ([]) (.bool true) [] (by kernel_rfl) (by kernel_rfl) al0 ?_
  exact fun w' hw => ⟨rfl, hw.below⟩
end Go.Proofs.Ytfhlmijdokfdpaa
