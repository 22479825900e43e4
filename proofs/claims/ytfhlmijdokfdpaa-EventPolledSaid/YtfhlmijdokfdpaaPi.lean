/- Copies. -/
import Derived.Test.YtfhlmijdokfdpaaPh
import Derived.Test.YtfhlmijdokfdpaaEf
namespace Go.Proofs.Ytfhlmijdokfdpaa
open Go Go.RowKit

set_option maxRecDepth 100000 in
theorem copy_d (p : Option Addr) (n cap : Nat) (l : List Port) (w : World)
    (hsl : Sv w p l) (hn : n = l.length) (hb : n ≤ 1000)
    : Calls Try.prog 26 #[.agg #[.slice p n cap]] w fun e w' => ∃ q capq Y, e = .returned (.agg #[.slice q n capq]) ∧ SlO 40 Y q n capq l ∧ Below w.heap.size w w' ∧ Hs w Y w' := by
  refine enter (Hs.start w) Try.func26 rfl Try.ntmps26 rfl ?_
  refine at_seq ?_
  refine am [] [] (fun γ1 => [(1, .pointer (some ⟨γ1 0, 0, none⟩)), (2, .pointer (some ⟨γ1 1, 0, none⟩))]) (fun γ1 L => bx (γ1 1) (#[.slice none 0 0]) 24 :: bx (γ1 0) (#[.slice p n cap]) 24 :: L) (fun γ1 => []) (fun _ => by kernel_rfl) (fun γ1 => al0) (fun γ1 => ?_)
  refine done_seq ?_
  refine at_seq ?_
  refine at_ops ?_
  refine om 3 [(2, .go (owns 2 0 1))] [2] (fun γ2 => [(3, .slice (some ⟨γ2 0, 0, none⟩) 0 0), (5, .slice p n cap)]) (fun γ2 L => bx (γ2 0) (#[]) 40 :: L) (fun γ2 => []) (fun _ => by kernel_rfl) (fun γ2 => al0) (fun γ2 => ?_)
  refine ops_append (α := Port) [bx (γ1 1) (#[.slice none 0 0]) 24, bx (γ1 0) (#[.slice p n cap]) 24] ([bx (γ2 0) (#[]) 40]) ([]) (mvE rfl) rfl (by kernel_rfl) (by kernel_rfl) (p := (some ⟨γ2 0, 0, none⟩)) (n := 0) (cap := 0) (m := n) (yv := .slice p n cap) (by kernel_rfl) (by kernel_rfl) (T := 40) (by_ := 32) (by kernel_rfl) ([]) l (SlO.lit (by rfl) (by rfl) (by simp [maxLen])) (fun w hw => src_svn Try.underlying22 (hsl.kept hw.below) hn) hn (by have hmx : maxLen = 9223372036854775807 := rfl; omega) (by have hmx : maxLen = 9223372036854775807 := rfl; omega) (fun Y3 p3 cap3 hO3 => ?_)
  refine om 2 [(5, .go (owns 0 0 1))] [2] (fun _ => []) (fun _ L => (L.set 0 (bx (γ1 1) (#[.slice p3 (0 + n) cap3]) 24))) (fun _ => []) (fun _ => by kernel_rfl) (fun _ => al0) (fun _ => ?_)
  refine ops_nil ?_
  refine done_seq ?_
  refine at_return (owns 0 0 1) (.agg #[.slice p3 (0 + n) cap3]) [] (by kernel_rfl) (by kernel_rfl) al0 ?_
  exact fun w' hw => ⟨_, _, _, by rw [Nat.zero_add], by simpa using hO3, hw.below, ((hw.tailN 2).sub (List.sublist_append_left Y3 ([])))⟩

set_option maxRecDepth 100000 in
theorem short_d (p : Option Addr) (n cap : Nat) (l : List Port) (w : World)
    (hsl : Sv w p l) (hn : n = l.length) (hcap : n ≤ cap) (hbig : cap ≤ 9223372036854775807)
    : Calls Try.prog 11 #[.agg #[.slice p n cap]] w fun e w' => ∃ q m capq Y, e = .returned (.agg #[.slice q m capq]) ∧ SlO 40 Y q m capq (l.take 33) ∧ m ≤ 33 ∧ Below w.heap.size w w' ∧ Hs w Y w' := by
  refine enter (Hs.start w) Try.func11 rfl Try.ntmps11 rfl ?_
  refine at_seq ?_
  refine am [] [] (fun γ1 => [(1, .pointer (some ⟨γ1 0, 0, none⟩)), (2, .pointer (some ⟨γ1 1, 0, none⟩))]) (fun γ1 L => bx (γ1 1) (#[.slice none 0 0]) 24 :: bx (γ1 0) (#[.slice p n cap]) 24 :: L) (fun γ1 => []) (fun _ => by kernel_rfl) (fun γ1 => al0) (fun γ1 => ?_)
  refine done_seq ?_
  refine at_seq ?_
  by_cases q3 : (33 : Int) < ((n : Nat) : Int)
  ·
    refine at_ops ?_
    refine oq 8 [(1, .go (owns 1 0 1)), (3, .go (owns 1 0 1)), (5, .is [] (.int .i64 33)), (6, .sl (.slice p 33 cap))] [2] [(10, .agg #[.slice p 33 cap])] ([Value.int .i64 (if (33 : Int) < ((n : Nat) : Int) then 33 else (n : Nat)) = .int .i64 33] ++ ([SlRun Try.prog 22 (.slice p n cap) none (some (.int .i64 33)) none (.slice p 33 cap)])) (fun _ => by kernel_rfl) (alA (al1 (by rw [if_pos q3])) (al1 (slE_hi (P := Try.prog) (h := 33) (T := 22) (e := 40) (k := 5) (by_ := 32) (by kernel_rfl) (by omega)))) ?_
    refine ops_call (fun v L' => ∃ q capq Y, v = .agg #[.slice q 33 capq] ∧ L' = List.take 2 ([bx (γ1 1) (#[.slice none 0 0]) 24, bx (γ1 0) (#[.slice p n cap]) 24]) ++ (Y ++ List.drop 2 ([bx (γ1 1) (#[.slice none 0 0]) 24, bx (γ1 0) (#[.slice p n cap]) 24])) ∧ SlO 40 Y q 33 capq ((l.take 33))) (by kernel_rfl) (by kernel_rfl) (by kernel_rfl) (fun args w => Try.call26 args w) (fun w hw => (copy_d p 33 cap ((l.take 33)) w ((hsl.kept hw.below).take 33) (by rw [List.length_take]; omega) (by omega)).mono fun e w' ⟨q, capq, Y, he, hO, hb, hY⟩ => ⟨_, _, he, ⟨q, capq, Y, rfl, rfl, hO⟩, hw.join hb hY 2⟩) ?_
    rintro v5 L5 ⟨q5, cq5, Y5, rfl, rfl, hO5⟩
    refine om 1 [(9, .go (owns 0 0 1))] [2] (fun _ => []) (fun _ L => (L.set 0 (bx (γ1 1) (#[.slice q5 33 cq5]) 24))) (fun _ => []) (fun _ => by kernel_rfl) (fun _ => al0) (fun _ => ?_)
    refine ops_nil ?_
    refine done_seq ?_
    refine at_return (owns 0 0 1) (.agg #[.slice q5 33 cq5]) [] (by kernel_rfl) (by kernel_rfl) al0 ?_
    exact fun w' hw => ⟨_, _, _, _, rfl, by rw [show l.take 33 = (l.take 33) from by rfl]; exact hO5, by omega, hw.below, ((hw.tailN 2).sub (List.sublist_append_left Y5 ([])))⟩
  ·
    refine at_ops ?_
    refine oq 8 [(1, .go (owns 1 0 1)), (3, .go (owns 1 0 1)), (5, .is [] (.int .i64 ((n : Nat)))), (6, .sl (.slice p n cap))] [2] [(10, .agg #[.slice p n cap])] ([Value.int .i64 (if (33 : Int) < ((n : Nat) : Int) then 33 else (n : Nat)) = .int .i64 ((n : Nat))] ++ ([SlRun Try.prog 22 (.slice p n cap) none (some (.int .i64 ((n : Nat)))) none (.slice p n cap)])) (fun _ => by kernel_rfl) (alA (al1 (by rw [if_neg q3])) (al1 (slE_hi (P := Try.prog) (h := n) (T := 22) (e := 40) (k := 5) (by_ := 32) (by kernel_rfl) (by omega)))) ?_
    refine ops_call (fun v L' => ∃ q capq Y, v = .agg #[.slice q n capq] ∧ L' = List.take 2 ([bx (γ1 1) (#[.slice none 0 0]) 24, bx (γ1 0) (#[.slice p n cap]) 24]) ++ (Y ++ List.drop 2 ([bx (γ1 1) (#[.slice none 0 0]) 24, bx (γ1 0) (#[.slice p n cap]) 24])) ∧ SlO 40 Y q n capq ((l.take n))) (by kernel_rfl) (by kernel_rfl) (by kernel_rfl) (fun args w => Try.call26 args w) (fun w hw => (copy_d p n cap ((l.take n)) w ((hsl.kept hw.below).take n) (by rw [List.length_take]; omega) (by omega)).mono fun e w' ⟨q, capq, Y, he, hO, hb, hY⟩ => ⟨_, _, he, ⟨q, capq, Y, rfl, rfl, hO⟩, hw.join hb hY 2⟩) ?_
    rintro v8 L8 ⟨q8, cq8, Y8, rfl, rfl, hO8⟩
    refine om 1 [(9, .go (owns 0 0 1))] [2] (fun _ => []) (fun _ L => (L.set 0 (bx (γ1 1) (#[.slice q8 n cq8]) 24))) (fun _ => []) (fun _ => by kernel_rfl) (fun _ => al0) (fun _ => ?_)
    refine ops_nil ?_
    refine done_seq ?_
    refine at_return (owns 0 0 1) (.agg #[.slice q8 n cq8]) [] (by kernel_rfl) (by kernel_rfl) al0 ?_
    exact fun w' hw => ⟨_, _, _, _, rfl, by rw [show l.take 33 = (l.take n) from by rw [List.take_of_length_le (by omega), List.take_of_length_le (by omega)]]; exact hO8, by omega, hw.below, ((hw.tailN 2).sub (List.sublist_append_left Y8 ([])))⟩
end Go.Proofs.Ytfhlmijdokfdpaa
