/- EventPolls: the walk. -/
import Derived.Test.YtfhlmijdokfdpaaPs
namespace Go.Proofs.Ytfhlmijdokfdpaa
open Go Go.RowKit

set_option maxRecDepth 100000 in
theorem polls_d (p : Option Addr) (n cap : Nat) (l : List Port) (q : Option Addr) (m cap2 : Nat) (al : List Asked) (w : World)
    (hsl : Sv w p l) (hn : n = l.length) (hcap : n ≤ cap) (hbig : cap ≤ 9223372036854775807)
    (hal : Sv w q al) (hma : m = al.length) (hbig2 : m ≤ 9223372036854775807)
    (hnm : ∀ x ∈ al, Sv w x.np x.ns ∧ x.nn = x.ns.length ∧ x.nn ≤ x.ncap ∧ x.ncap ≤ 9223372036854775807)
    : Calls Try.prog 3 #[.agg #[.slice p n cap], .slice q m cap2] w fun e w' => e = .returned (.bool true) ∧ Below w.heap.size w w' := by
  refine enter (Hs.start w) Try.func3 rfl Try.ntmps3 rfl ?_
  refine at_seq ?_
  refine am [] [1] (fun γ1 => [(2, .pointer (some ⟨γ1 0, 0, none⟩))]) (fun γ1 L => bx (γ1 0) (#[.slice p n cap]) 24 :: L) (fun γ1 => []) (fun _ => by kernel_rfl) (fun γ1 => al0) (fun γ1 => ?_)
  refine done_seq ?_
  refine at_seq ?_
  refine at_seq ?_
  refine at_ops ?_
  refine ops_callD (.bool true) (by kernel_rfl) (by kernel_rfl) (by kernel_rfl) (fun args w => Try.call10 args w) (fun w hw => wakes_d w) ?_
  refine oq 1 [] [1, 2] [(15, .bool false)] ([]) (fun _ => by kernel_rfl) al0 ?_
  refine ops_nil ?_
  refine done_seq ?_
  refine at_false (by kernel_rfl) ?_
  refine at_skip ?_
  refine done_seq ?_
  refine at_seq ?_
  refine at_any (by kernel_rfl) ?_
  refine any_cutX (V := (List Ob) × (List Ob) × (Nat) × (Nat) × (Nat) × (Nat) × (Option Addr) × (Option Addr) × (Nat → Nat) × (Nat → Nat)) (fun ⟨Y26, Y66, cq26, cq66, m26, m66, q26, q66, γ106, γ86⟩ => SlO 40 Y26 q26 m26 cq26 (l.take 33) ∧ SlO 40 Y66 q66 m66 cq66 (l.take 33) ∧ m26 ≤ 33 ∧ m66 ≤ 33) 0 #[true, true, true, true, true, true, true, true] (fun ⟨Y26, Y66, cq26, cq66, m26, m66, q26, q66, γ106, γ86⟩ => [(1, .slice q m cap2), (5, .pointer (some ⟨γ86 0, 0, none⟩)), (6, .pointer (some ⟨γ106 0, 0, none⟩))]) (fun ⟨Y26, Y66, cq26, cq66, m26, m66, q26, q66, γ106, γ86⟩ => bx (γ106 0) (#[.slice q66 m66 cq66]) 24 :: bx (γ86 0) (#[.slice q26 m26 cq26]) 24 :: bx (γ1 0) (#[.slice p n cap]) 24 :: (Y26 ++ (Y66 ++ []))) ?_ (fun hmx29 => ?_)
  rotate_left
  ·
    refine any_cutX (V := (List Ob) × (List Ob) × (Nat) × (Nat) × (Nat) × (Nat) × (Option Addr) × (Option Addr) × (Nat → Nat) × (Nat → Nat)) (fun ⟨Y26, Y66, cq26, cq66, m26, m66, q26, q66, γ106, γ86⟩ => SlO 40 Y26 q26 m26 cq26 (l.take 33) ∧ SlO 40 Y66 q66 m66 cq66 (l.take 33) ∧ m26 ≤ 33 ∧ m66 ≤ 33) 1 #[true, true, true, true, true, true, true, false] (fun ⟨Y26, Y66, cq26, cq66, m26, m66, q26, q66, γ106, γ86⟩ => [(1, .slice q m cap2), (5, .pointer (some ⟨γ86 0, 0, none⟩)), (6, .pointer (some ⟨γ106 0, 0, none⟩)), (19, .agg #[.slice q66 m66 cq66])]) (fun ⟨Y26, Y66, cq26, cq66, m26, m66, q26, q66, γ106, γ86⟩ => bx (γ106 0) (#[.slice none 0 0]) 24 :: bx (γ86 0) (#[.slice q26 m26 cq26]) 24 :: bx (γ1 0) (#[.slice p n cap]) 24 :: (Y26 ++ (Y66 ++ []))) ?_ (fun hmx28 => ?_)
    ·
      rintro ⟨Y26, Y66, cq26, cq66, m26, m66, q26, q66, γ106, γ86⟩ ⟨hO26, hO66, hm26, hm66⟩
      refine any_one 7 _ (by kernel_rfl) rfl ?_
      refine om 1 [(7, .go (owns 0 0 1))] [1, 5, 6] (fun _ => []) (fun _ L => (L.set 0 (bx (γ106 0) (#[.slice q66 m66 cq66]) 24))) (fun _ => []) (fun _ => by kernel_rfl) (fun _ => al0) (fun _ => ?_)
      refine ops_nil ?_
      refine done_any ?_
      exact any_weakP (hmx29 (Y26, Y66, cq26, cq66, m26, m66, q26, q66, γ106, γ86) ⟨hO26, hO66, hm26, hm66⟩) [1, 5, 6] [[bx (γ106 0) (#[.slice q66 m66 cq66]) 24], [bx (γ86 0) (#[.slice q26 m26 cq26]) 24], [bx (γ1 0) (#[.slice p n cap]) 24], Y26, Y66] [0, 1, 2, 3, 4] (by kernel_rfl) rfl rfl (by kernel_rfl) rfl rfl
    refine any_cutX (V := (List Ob) × (List Ob) × (Nat) × (Nat) × (Nat) × (Nat) × (Option Addr) × (Option Addr) × (Nat → Nat) × (Nat → Nat)) (fun ⟨Y26, Y66, cq26, cq66, m26, m66, q26, q66, γ106, γ86⟩ => SlO 40 Y26 q26 m26 cq26 (l.take 33) ∧ SlO 40 Y66 q66 m66 cq66 (l.take 33) ∧ m26 ≤ 33 ∧ m66 ≤ 33) 2 #[true, true, true, true, true, true, false, false] (fun ⟨Y26, Y66, cq26, cq66, m26, m66, q26, q66, γ106, γ86⟩ => [(1, .slice q m cap2), (5, .pointer (some ⟨γ86 0, 0, none⟩)), (6, .pointer (some ⟨γ106 0, 0, none⟩)), (17, .agg #[.slice q26 m26 cq26]), (19, .agg #[.slice q66 m66 cq66])]) (fun ⟨Y26, Y66, cq26, cq66, m26, m66, q26, q66, γ106, γ86⟩ => bx (γ106 0) (#[.slice none 0 0]) 24 :: bx (γ86 0) (#[.slice none 0 0]) 24 :: bx (γ1 0) (#[.slice p n cap]) 24 :: (Y26 ++ (Y66 ++ []))) ?_ (fun hmx27 => ?_)
    ·
      rintro ⟨Y26, Y66, cq26, cq66, m26, m66, q26, q66, γ106, γ86⟩ ⟨hO26, hO66, hm26, hm66⟩
      refine any_one 6 _ (by kernel_rfl) rfl ?_
      refine om 1 [(6, .go (owns 1 0 1))] [1, 5, 6, 19] (fun _ => []) (fun _ L => (L.set 1 (bx (γ86 0) (#[.slice q26 m26 cq26]) 24))) (fun _ => []) (fun _ => by kernel_rfl) (fun _ => al0) (fun _ => ?_)
      refine ops_nil ?_
      refine done_any ?_
      exact any_weakP (hmx28 (Y26, Y66, cq26, cq66, m26, m66, q26, q66, γ106, γ86) ⟨hO26, hO66, hm26, hm66⟩) [1, 5, 6, 19] [[bx (γ106 0) (#[.slice none 0 0]) 24], [bx (γ86 0) (#[.slice q26 m26 cq26]) 24], [bx (γ1 0) (#[.slice p n cap]) 24], Y26, Y66] [0, 1, 2, 3, 4] (by kernel_rfl) rfl rfl (by kernel_rfl) rfl rfl
    refine any_cutX (V := (List Ob) × (Nat) × (Nat) × (Option Addr) × (Nat → Nat) × (Nat → Nat)) (fun ⟨Y26, cq26, m26, q26, γ106, γ86⟩ => SlO 40 Y26 q26 m26 cq26 (l.take 33) ∧ m26 ≤ 33) 3 #[true, true, true, false, true, true, false, false] (fun ⟨Y26, cq26, m26, q26, γ106, γ86⟩ => [(1, .slice q m cap2), (5, .pointer (some ⟨γ86 0, 0, none⟩)), (6, .pointer (some ⟨γ106 0, 0, none⟩)), (17, .agg #[.slice q26 m26 cq26]), (18, .agg #[.slice p n cap])]) (fun ⟨Y26, cq26, m26, q26, γ106, γ86⟩ => bx (γ106 0) (#[.slice none 0 0]) 24 :: bx (γ86 0) (#[.slice none 0 0]) 24 :: bx (γ1 0) (#[.slice p n cap]) 24 :: (Y26 ++ [])) ?_ (fun hmx26 => ?_)
    ·
      rintro ⟨Y26, cq26, m26, q26, γ106, γ86⟩ ⟨hO26, hm26⟩
      refine any_one 3 _ (by kernel_rfl) rfl ?_
      refine ops_call (fun v L' => ∃ q m capq Y, v = .agg #[.slice q m capq] ∧ L' = List.take 3 (bx (γ106 0) (#[.slice none 0 0]) 24 :: bx (γ86 0) (#[.slice none 0 0]) 24 :: bx (γ1 0) (#[.slice p n cap]) 24 :: (Y26 ++ [])) ++ (Y ++ List.drop 3 (bx (γ106 0) (#[.slice none 0 0]) 24 :: bx (γ86 0) (#[.slice none 0 0]) 24 :: bx (γ1 0) (#[.slice p n cap]) 24 :: (Y26 ++ []))) ∧ SlO 40 Y q m capq (l.take 33) ∧ m ≤ 33) (by kernel_rfl) (by kernel_rfl) (by kernel_rfl) (fun args w => Try.call11 args w) (fun w hw => (short_d p n cap l w (hsl.kept hw.below) hn (by omega) (by omega)).mono fun e w' ⟨q, m, capq, Y, he, hO, hm, hb, hY⟩ => ⟨_, _, he, ⟨q, m, capq, Y, rfl, rfl, hO, hm⟩, hw.join hb hY 3⟩) ?_
      rintro v66 L66 ⟨q66, m66, cq66, Y66, rfl, rfl, hO66, hm66⟩
      refine ops_nil ?_
      refine done_any ?_
      exact any_weakP (hmx27 (Y26, Y66, cq26, cq66, m26, m66, q26, q66, γ106, γ86) ⟨hO26, hO66, hm26, hm66⟩) [1, 5, 6, 17, 19] [[bx (γ106 0) (#[.slice none 0 0]) 24], [bx (γ86 0) (#[.slice none 0 0]) 24], [bx (γ1 0) (#[.slice p n cap]) 24], Y66, Y26] [0, 1, 2, 4, 3] (by kernel_rfl) rfl rfl (by kernel_rfl) rfl rfl
    refine any_cutX (V := (List Ob) × (List Ob) × (Nat) × (Nat) × (Nat) × (Nat) × (Option Addr) × (Option Addr) × (Nat → Nat)) (fun ⟨Y26, Y66, cq26, cq66, m26, m66, q26, q66, γ106⟩ => SlO 40 Y26 q26 m26 cq26 (l.take 33) ∧ SlO 40 Y66 q66 m66 cq66 (l.take 33) ∧ m26 ≤ 33 ∧ m66 ≤ 33) 3 #[true, true, true, true, false, true, false, false] (fun ⟨Y26, Y66, cq26, cq66, m26, m66, q26, q66, γ106⟩ => [(1, .slice q m cap2), (6, .pointer (some ⟨γ106 0, 0, none⟩)), (17, .agg #[.slice q26 m26 cq26]), (19, .agg #[.slice q66 m66 cq66])]) (fun ⟨Y26, Y66, cq26, cq66, m26, m66, q26, q66, γ106⟩ => bx (γ106 0) (#[.slice none 0 0]) 24 :: bx (γ1 0) (#[.slice p n cap]) 24 :: (Y26 ++ (Y66 ++ []))) ?_ (fun hmx25 => ?_)
    ·
      rintro ⟨Y26, Y66, cq26, cq66, m26, m66, q26, q66, γ106⟩ ⟨hO26, hO66, hm26, hm66⟩
      refine any_one 4 _ (by kernel_rfl) rfl ?_
      refine om 1 [] [1, 6, 17, 19] (fun γ86 => [(5, .pointer (some ⟨γ86 0, 0, none⟩))]) (fun γ86 L => bx (γ86 0) (#[.slice none 0 0]) 24 :: L) (fun γ86 => []) (fun _ => by kernel_rfl) (fun γ86 => al0) (fun γ86 => ?_)
      refine ops_nil ?_
      refine done_any ?_
      exact any_weakP (hmx27 (Y26, Y66, cq26, cq66, m26, m66, q26, q66, γ106, γ86) ⟨hO26, hO66, hm26, hm66⟩) [1, 5, 6, 17, 19] [[bx (γ86 0) (#[.slice none 0 0]) 24], [bx (γ106 0) (#[.slice none 0 0]) 24], [bx (γ1 0) (#[.slice p n cap]) 24], Y26, Y66] [1, 0, 2, 3, 4] (by kernel_rfl) rfl rfl (by kernel_rfl) rfl rfl
    refine any_cutX (V := (List Ob) × (List Ob) × (Nat) × (Nat) × (Nat) × (Nat) × (Option Addr) × (Option Addr) × (Nat → Nat)) (fun ⟨Y26, Y66, cq26, cq66, m26, m66, q26, q66, γ86⟩ => SlO 40 Y26 q26 m26 cq26 (l.take 33) ∧ SlO 40 Y66 q66 m66 cq66 (l.take 33) ∧ m26 ≤ 33 ∧ m66 ≤ 33) 3 #[true, true, true, true, true, false, false, false] (fun ⟨Y26, Y66, cq26, cq66, m26, m66, q26, q66, γ86⟩ => [(1, .slice q m cap2), (5, .pointer (some ⟨γ86 0, 0, none⟩)), (17, .agg #[.slice q26 m26 cq26]), (19, .agg #[.slice q66 m66 cq66])]) (fun ⟨Y26, Y66, cq26, cq66, m26, m66, q26, q66, γ86⟩ => bx (γ86 0) (#[.slice none 0 0]) 24 :: bx (γ1 0) (#[.slice p n cap]) 24 :: (Y26 ++ (Y66 ++ []))) ?_ (fun hmx24 => ?_)
    ·
      rintro ⟨Y26, Y66, cq26, cq66, m26, m66, q26, q66, γ86⟩ ⟨hO26, hO66, hm26, hm66⟩
      refine any_one 5 _ (by kernel_rfl) rfl ?_
      refine om 1 [] [1, 5, 17, 19] (fun γ106 => [(6, .pointer (some ⟨γ106 0, 0, none⟩))]) (fun γ106 L => bx (γ106 0) (#[.slice none 0 0]) 24 :: L) (fun γ106 => []) (fun _ => by kernel_rfl) (fun γ106 => al0) (fun γ106 => ?_)
      refine ops_nil ?_
      refine done_any ?_
      exact any_weakP (hmx27 (Y26, Y66, cq26, cq66, m26, m66, q26, q66, γ106, γ86) ⟨hO26, hO66, hm26, hm66⟩) [1, 5, 6, 17, 19] [[bx (γ106 0) (#[.slice none 0 0]) 24], [bx (γ86 0) (#[.slice none 0 0]) 24], [bx (γ1 0) (#[.slice p n cap]) 24], Y26, Y66] [0, 1, 2, 3, 4] (by kernel_rfl) rfl rfl (by kernel_rfl) rfl rfl
    refine any_cutX (V := (Nat → Nat) × (Nat → Nat)) (fun ⟨γ106, γ86⟩ => True) 4 #[true, false, true, false, true, true, false, false] (fun ⟨γ106, γ86⟩ => [(1, .slice q m cap2), (5, .pointer (some ⟨γ86 0, 0, none⟩)), (6, .pointer (some ⟨γ106 0, 0, none⟩)), (16, .agg #[.slice p n cap]), (18, .agg #[.slice p n cap])]) (fun ⟨γ106, γ86⟩ => [bx (γ106 0) (#[.slice none 0 0]) 24, bx (γ86 0) (#[.slice none 0 0]) 24, bx (γ1 0) (#[.slice p n cap]) 24]) ?_ (fun hmx23 => ?_)
    ·
      rintro ⟨γ106, γ86⟩ _
      refine any_one 1 _ (by kernel_rfl) rfl ?_
      refine ops_call (fun v L' => ∃ q m capq Y, v = .agg #[.slice q m capq] ∧ L' = List.take 3 ([bx (γ106 0) (#[.slice none 0 0]) 24, bx (γ86 0) (#[.slice none 0 0]) 24, bx (γ1 0) (#[.slice p n cap]) 24]) ++ (Y ++ List.drop 3 ([bx (γ106 0) (#[.slice none 0 0]) 24, bx (γ86 0) (#[.slice none 0 0]) 24, bx (γ1 0) (#[.slice p n cap]) 24])) ∧ SlO 40 Y q m capq (l.take 33) ∧ m ≤ 33) (by kernel_rfl) (by kernel_rfl) (by kernel_rfl) (fun args w => Try.call11 args w) (fun w hw => (short_d p n cap l w (hsl.kept hw.below) hn (by omega) (by omega)).mono fun e w' ⟨q, m, capq, Y, he, hO, hm, hb, hY⟩ => ⟨_, _, he, ⟨q, m, capq, Y, rfl, rfl, hO, hm⟩, hw.join hb hY 3⟩) ?_
      rintro v26 L26 ⟨q26, m26, cq26, Y26, rfl, rfl, hO26, hm26⟩
      refine ops_nil ?_
      refine done_any ?_
      exact any_weakP (hmx26 (Y26, cq26, m26, q26, γ106, γ86) ⟨hO26, hm26⟩) [1, 5, 6, 17, 18] [[bx (γ106 0) (#[.slice none 0 0]) 24], [bx (γ86 0) (#[.slice none 0 0]) 24], [bx (γ1 0) (#[.slice p n cap]) 24], Y26] [0, 1, 2, 3] (by kernel_rfl) rfl rfl (by kernel_rfl) rfl rfl
    refine any_cutX (V := (List Ob) × (Nat) × (Nat) × (Option Addr) × (Nat → Nat) × (Nat → Nat)) (fun ⟨Y26, cq26, m26, q26, γ106, γ86⟩ => SlO 40 Y26 q26 m26 cq26 (l.take 33) ∧ m26 ≤ 33) 4 #[true, true, false, false, true, true, false, false] (fun ⟨Y26, cq26, m26, q26, γ106, γ86⟩ => [(1, .slice q m cap2), (2, .pointer (some ⟨γ1 0, 0, none⟩)), (5, .pointer (some ⟨γ86 0, 0, none⟩)), (6, .pointer (some ⟨γ106 0, 0, none⟩)), (17, .agg #[.slice q26 m26 cq26])]) (fun ⟨Y26, cq26, m26, q26, γ106, γ86⟩ => bx (γ106 0) (#[.slice none 0 0]) 24 :: bx (γ86 0) (#[.slice none 0 0]) 24 :: bx (γ1 0) (#[.slice p n cap]) 24 :: (Y26 ++ [])) ?_ (fun hmx22 => ?_)
    ·
      rintro ⟨Y26, cq26, m26, q26, γ106, γ86⟩ ⟨hO26, hm26⟩
      refine any_one 2 _ (by kernel_rfl) rfl ?_
      refine oq 1 [(2, .go (owns 2 0 1))] [1, 5, 6, 17] [(18, .agg #[.slice p n cap])] ([]) (fun _ => by kernel_rfl) al0 ?_
      refine ops_nil ?_
      refine done_any ?_
      exact any_weakP (hmx26 (Y26, cq26, m26, q26, γ106, γ86) ⟨hO26, hm26⟩) [1, 5, 6, 17, 18] [[bx (γ106 0) (#[.slice none 0 0]) 24], [bx (γ86 0) (#[.slice none 0 0]) 24], [bx (γ1 0) (#[.slice p n cap]) 24], Y26] [0, 1, 2, 3] (by kernel_rfl) rfl rfl (by kernel_rfl) rfl rfl
    refine any_cutX (V := (List Ob) × (Nat) × (Nat) × (Option Addr) × (Nat → Nat)) (fun ⟨Y26, cq26, m26, q26, γ106⟩ => SlO 40 Y26 q26 m26 cq26 (l.take 33) ∧ m26 ≤ 33) 4 #[true, true, true, false, false, true, false, false] (fun ⟨Y26, cq26, m26, q26, γ106⟩ => [(1, .slice q m cap2), (6, .pointer (some ⟨γ106 0, 0, none⟩)), (17, .agg #[.slice q26 m26 cq26]), (18, .agg #[.slice p n cap])]) (fun ⟨Y26, cq26, m26, q26, γ106⟩ => bx (γ106 0) (#[.slice none 0 0]) 24 :: bx (γ1 0) (#[.slice p n cap]) 24 :: (Y26 ++ [])) ?_ (fun hmx21 => ?_)
    ·
      rintro ⟨Y26, cq26, m26, q26, γ106⟩ ⟨hO26, hm26⟩
      refine any_fork [3, 4] (by kernel_rfl) (by simp) (each_cons _ rfl ?_ (each_cons _ rfl ?_ (each_nil)))
      ·
        refine ops_call (fun v L' => ∃ q m capq Y, v = .agg #[.slice q m capq] ∧ L' = List.take 2 (bx (γ106 0) (#[.slice none 0 0]) 24 :: bx (γ1 0) (#[.slice p n cap]) 24 :: (Y26 ++ [])) ++ (Y ++ List.drop 2 (bx (γ106 0) (#[.slice none 0 0]) 24 :: bx (γ1 0) (#[.slice p n cap]) 24 :: (Y26 ++ []))) ∧ SlO 40 Y q m capq (l.take 33) ∧ m ≤ 33) (by kernel_rfl) (by kernel_rfl) (by kernel_rfl) (fun args w => Try.call11 args w) (fun w hw => (short_d p n cap l w (hsl.kept hw.below) hn (by omega) (by omega)).mono fun e w' ⟨q, m, capq, Y, he, hO, hm, hb, hY⟩ => ⟨_, _, he, ⟨q, m, capq, Y, rfl, rfl, hO, hm⟩, hw.join hb hY 2⟩) ?_
        rintro v66 L66 ⟨q66, m66, cq66, Y66, rfl, rfl, hO66, hm66⟩
        refine ops_nil ?_
        refine done_any ?_
        exact any_weakP (hmx25 (Y26, Y66, cq26, cq66, m26, m66, q26, q66, γ106) ⟨hO26, hO66, hm26, hm66⟩) [1, 6, 17, 19] [[bx (γ106 0) (#[.slice none 0 0]) 24], [bx (γ1 0) (#[.slice p n cap]) 24], Y66, Y26] [0, 1, 3, 2] (by kernel_rfl) rfl rfl (by kernel_rfl) rfl rfl
      ·
        refine om 1 [] [1, 6, 17, 18] (fun γ86 => [(5, .pointer (some ⟨γ86 0, 0, none⟩))]) (fun γ86 L => bx (γ86 0) (#[.slice none 0 0]) 24 :: L) (fun γ86 => []) (fun _ => by kernel_rfl) (fun γ86 => al0) (fun γ86 => ?_)
        refine ops_nil ?_
        refine done_any ?_
        exact any_weakP (hmx26 (Y26, cq26, m26, q26, γ106, γ86) ⟨hO26, hm26⟩) [1, 5, 6, 17, 18] [[bx (γ86 0) (#[.slice none 0 0]) 24], [bx (γ106 0) (#[.slice none 0 0]) 24], [bx (γ1 0) (#[.slice p n cap]) 24], Y26] [1, 0, 2, 3] (by kernel_rfl) rfl rfl (by kernel_rfl) rfl rfl
    refine any_cutX (V := (List Ob) × (Nat) × (Nat) × (Option Addr) × (Nat → Nat)) (fun ⟨Y26, cq26, m26, q26, γ86⟩ => SlO 40 Y26 q26 m26 cq26 (l.take 33) ∧ m26 ≤ 33) 4 #[true, true, true, false, true, false, false, false] (fun ⟨Y26, cq26, m26, q26, γ86⟩ => [(1, .slice q m cap2), (5, .pointer (some ⟨γ86 0, 0, none⟩)), (17, .agg #[.slice q26 m26 cq26]), (18, .agg #[.slice p n cap])]) (fun ⟨Y26, cq26, m26, q26, γ86⟩ => bx (γ86 0) (#[.slice none 0 0]) 24 :: bx (γ1 0) (#[.slice p n cap]) 24 :: (Y26 ++ [])) ?_ (fun hmx20 => ?_)
    ·
      rintro ⟨Y26, cq26, m26, q26, γ86⟩ ⟨hO26, hm26⟩
      refine any_fork [3, 5] (by kernel_rfl) (by simp) (each_cons _ rfl ?_ (each_cons _ rfl ?_ (each_nil)))
      ·
        refine ops_call (fun v L' => ∃ q m capq Y, v = .agg #[.slice q m capq] ∧ L' = List.take 2 (bx (γ86 0) (#[.slice none 0 0]) 24 :: bx (γ1 0) (#[.slice p n cap]) 24 :: (Y26 ++ [])) ++ (Y ++ List.drop 2 (bx (γ86 0) (#[.slice none 0 0]) 24 :: bx (γ1 0) (#[.slice p n cap]) 24 :: (Y26 ++ []))) ∧ SlO 40 Y q m capq (l.take 33) ∧ m ≤ 33) (by kernel_rfl) (by kernel_rfl) (by kernel_rfl) (fun args w => Try.call11 args w) (fun w hw => (short_d p n cap l w (hsl.kept hw.below) hn (by omega) (by omega)).mono fun e w' ⟨q, m, capq, Y, he, hO, hm, hb, hY⟩ => ⟨_, _, he, ⟨q, m, capq, Y, rfl, rfl, hO, hm⟩, hw.join hb hY 2⟩) ?_
        rintro v66 L66 ⟨q66, m66, cq66, Y66, rfl, rfl, hO66, hm66⟩
        refine ops_nil ?_
        refine done_any ?_
        exact any_weakP (hmx24 (Y26, Y66, cq26, cq66, m26, m66, q26, q66, γ86) ⟨hO26, hO66, hm26, hm66⟩) [1, 5, 17, 19] [[bx (γ86 0) (#[.slice none 0 0]) 24], [bx (γ1 0) (#[.slice p n cap]) 24], Y66, Y26] [0, 1, 3, 2] (by kernel_rfl) rfl rfl (by kernel_rfl) rfl rfl
      ·
        refine om 1 [] [1, 5, 17, 18] (fun γ106 => [(6, .pointer (some ⟨γ106 0, 0, none⟩))]) (fun γ106 L => bx (γ106 0) (#[.slice none 0 0]) 24 :: L) (fun γ106 => []) (fun _ => by kernel_rfl) (fun γ106 => al0) (fun γ106 => ?_)
        refine ops_nil ?_
        refine done_any ?_
        exact any_weakP (hmx26 (Y26, cq26, m26, q26, γ106, γ86) ⟨hO26, hm26⟩) [1, 5, 6, 17, 18] [[bx (γ106 0) (#[.slice none 0 0]) 24], [bx (γ86 0) (#[.slice none 0 0]) 24], [bx (γ1 0) (#[.slice p n cap]) 24], Y26] [0, 1, 2, 3] (by kernel_rfl) rfl rfl (by kernel_rfl) rfl rfl
    refine any_cutX (V := (List Ob) × (List Ob) × (Nat) × (Nat) × (Nat) × (Nat) × (Option Addr) × (Option Addr)) (fun ⟨Y26, Y66, cq26, cq66, m26, m66, q26, q66⟩ => SlO 40 Y26 q26 m26 cq26 (l.take 33) ∧ SlO 40 Y66 q66 m66 cq66 (l.take 33) ∧ m26 ≤ 33 ∧ m66 ≤ 33) 4 #[true, true, true, true, false, false, false, false] (fun ⟨Y26, Y66, cq26, cq66, m26, m66, q26, q66⟩ => [(1, .slice q m cap2), (17, .agg #[.slice q26 m26 cq26]), (19, .agg #[.slice q66 m66 cq66])]) (fun ⟨Y26, Y66, cq26, cq66, m26, m66, q26, q66⟩ => bx (γ1 0) (#[.slice p n cap]) 24 :: (Y26 ++ (Y66 ++ []))) ?_ (fun hmx19 => ?_)
    ·
      rintro ⟨Y26, Y66, cq26, cq66, m26, m66, q26, q66⟩ ⟨hO26, hO66, hm26, hm66⟩
      refine any_fork [4, 5] (by kernel_rfl) (by simp) (each_cons _ rfl ?_ (each_cons _ rfl ?_ (each_nil)))
      ·
        refine om 1 [] [1, 17, 19] (fun γ86 => [(5, .pointer (some ⟨γ86 0, 0, none⟩))]) (fun γ86 L => bx (γ86 0) (#[.slice none 0 0]) 24 :: L) (fun γ86 => []) (fun _ => by kernel_rfl) (fun γ86 => al0) (fun γ86 => ?_)
        refine ops_nil ?_
        refine done_any ?_
        exact any_weakP (hmx24 (Y26, Y66, cq26, cq66, m26, m66, q26, q66, γ86) ⟨hO26, hO66, hm26, hm66⟩) [1, 5, 17, 19] [[bx (γ86 0) (#[.slice none 0 0]) 24], [bx (γ1 0) (#[.slice p n cap]) 24], Y26, Y66] [0, 1, 2, 3] (by kernel_rfl) rfl rfl (by kernel_rfl) rfl rfl
      ·
        refine om 1 [] [1, 17, 19] (fun γ106 => [(6, .pointer (some ⟨γ106 0, 0, none⟩))]) (fun γ106 L => bx (γ106 0) (#[.slice none 0 0]) 24 :: L) (fun γ106 => []) (fun _ => by kernel_rfl) (fun γ106 => al0) (fun γ106 => ?_)
        refine ops_nil ?_
        refine done_any ?_
        exact any_weakP (hmx25 (Y26, Y66, cq26, cq66, m26, m66, q26, q66, γ106) ⟨hO26, hO66, hm26, hm66⟩) [1, 6, 17, 19] [[bx (γ106 0) (#[.slice none 0 0]) 24], [bx (γ1 0) (#[.slice p n cap]) 24], Y26, Y66] [0, 1, 2, 3] (by kernel_rfl) rfl rfl (by kernel_rfl) rfl rfl
    refine any_cutX (V := (Nat → Nat) × (Nat → Nat)) (fun ⟨γ106, γ86⟩ => True) 5 #[false, false, true, false, true, true, false, false] (fun ⟨γ106, γ86⟩ => [(1, .slice q m cap2), (2, .pointer (some ⟨γ1 0, 0, none⟩)), (5, .pointer (some ⟨γ86 0, 0, none⟩)), (6, .pointer (some ⟨γ106 0, 0, none⟩)), (18, .agg #[.slice p n cap])]) (fun ⟨γ106, γ86⟩ => [bx (γ106 0) (#[.slice none 0 0]) 24, bx (γ86 0) (#[.slice none 0 0]) 24, bx (γ1 0) (#[.slice p n cap]) 24]) ?_ (fun hmx18 => ?_)
    ·
      rintro ⟨γ106, γ86⟩ _
      refine any_one 0 _ (by kernel_rfl) rfl ?_
      refine oq 1 [(0, .go (owns 2 0 1))] [1, 5, 6, 18] [(16, .agg #[.slice p n cap])] ([]) (fun _ => by kernel_rfl) al0 ?_
      refine ops_nil ?_
      refine done_any ?_
      exact any_weakP (hmx23 (γ106, γ86) trivial) [1, 5, 6, 16, 18] [[bx (γ106 0) (#[.slice none 0 0]) 24], [bx (γ86 0) (#[.slice none 0 0]) 24], [bx (γ1 0) (#[.slice p n cap]) 24]] [0, 1, 2] (by kernel_rfl) rfl rfl (by kernel_rfl) rfl rfl
    refine any_cutX (V := (Nat → Nat) × (Nat → Nat)) (fun ⟨γ106, γ86⟩ => True) 5 #[true, false, false, false, true, true, false, false] (fun ⟨γ106, γ86⟩ => [(1, .slice q m cap2), (2, .pointer (some ⟨γ1 0, 0, none⟩)), (5, .pointer (some ⟨γ86 0, 0, none⟩)), (6, .pointer (some ⟨γ106 0, 0, none⟩)), (16, .agg #[.slice p n cap])]) (fun ⟨γ106, γ86⟩ => [bx (γ106 0) (#[.slice none 0 0]) 24, bx (γ86 0) (#[.slice none 0 0]) 24, bx (γ1 0) (#[.slice p n cap]) 24]) ?_ (fun hmx17 => ?_)
    ·
      rintro ⟨γ106, γ86⟩ _
      refine any_fork [1, 2] (by kernel_rfl) (by simp) (each_cons _ rfl ?_ (each_cons _ rfl ?_ (each_nil)))
      ·
        refine ops_call (fun v L' => ∃ q m capq Y, v = .agg #[.slice q m capq] ∧ L' = List.take 3 ([bx (γ106 0) (#[.slice none 0 0]) 24, bx (γ86 0) (#[.slice none 0 0]) 24, bx (γ1 0) (#[.slice p n cap]) 24]) ++ (Y ++ List.drop 3 ([bx (γ106 0) (#[.slice none 0 0]) 24, bx (γ86 0) (#[.slice none 0 0]) 24, bx (γ1 0) (#[.slice p n cap]) 24])) ∧ SlO 40 Y q m capq (l.take 33) ∧ m ≤ 33) (by kernel_rfl) (by kernel_rfl) (by kernel_rfl) (fun args w => Try.call11 args w) (fun w hw => (short_d p n cap l w (hsl.kept hw.below) hn (by omega) (by omega)).mono fun e w' ⟨q, m, capq, Y, he, hO, hm, hb, hY⟩ => ⟨_, _, he, ⟨q, m, capq, Y, rfl, rfl, hO, hm⟩, hw.join hb hY 3⟩) ?_
        rintro v26 L26 ⟨q26, m26, cq26, Y26, rfl, rfl, hO26, hm26⟩
        refine ops_nil ?_
        refine done_any ?_
        exact any_weakP (hmx22 (Y26, cq26, m26, q26, γ106, γ86) ⟨hO26, hm26⟩) [1, 2, 5, 6, 17] [[bx (γ106 0) (#[.slice none 0 0]) 24], [bx (γ86 0) (#[.slice none 0 0]) 24], [bx (γ1 0) (#[.slice p n cap]) 24], Y26] [0, 1, 2, 3] (by kernel_rfl) rfl rfl (by kernel_rfl) rfl rfl
      ·
        refine oq 1 [(2, .go (owns 2 0 1))] [1, 5, 6, 16] [(18, .agg #[.slice p n cap])] ([]) (fun _ => by kernel_rfl) al0 ?_
        refine ops_nil ?_
        refine done_any ?_
        exact any_weakP (hmx23 (γ106, γ86) trivial) [1, 5, 6, 16, 18] [[bx (γ106 0) (#[.slice none 0 0]) 24], [bx (γ86 0) (#[.slice none 0 0]) 24], [bx (γ1 0) (#[.slice p n cap]) 24]] [0, 1, 2] (by kernel_rfl) rfl rfl (by kernel_rfl) rfl rfl
    refine any_cutX (V := (Nat → Nat)) (fun γ106 => True) 5 #[true, false, true, false, false, true, false, false] (fun γ106 => [(1, .slice q m cap2), (6, .pointer (some ⟨γ106 0, 0, none⟩)), (16, .agg #[.slice p n cap]), (18, .agg #[.slice p n cap])]) (fun γ106 => [bx (γ106 0) (#[.slice none 0 0]) 24, bx (γ1 0) (#[.slice p n cap]) 24]) ?_ (fun hmx16 => ?_)
    ·
      rintro γ106 _
      refine any_fork [1, 4] (by kernel_rfl) (by simp) (each_cons _ rfl ?_ (each_cons _ rfl ?_ (each_nil)))
      ·
        refine ops_call (fun v L' => ∃ q m capq Y, v = .agg #[.slice q m capq] ∧ L' = List.take 2 ([bx (γ106 0) (#[.slice none 0 0]) 24, bx (γ1 0) (#[.slice p n cap]) 24]) ++ (Y ++ List.drop 2 ([bx (γ106 0) (#[.slice none 0 0]) 24, bx (γ1 0) (#[.slice p n cap]) 24])) ∧ SlO 40 Y q m capq (l.take 33) ∧ m ≤ 33) (by kernel_rfl) (by kernel_rfl) (by kernel_rfl) (fun args w => Try.call11 args w) (fun w hw => (short_d p n cap l w (hsl.kept hw.below) hn (by omega) (by omega)).mono fun e w' ⟨q, m, capq, Y, he, hO, hm, hb, hY⟩ => ⟨_, _, he, ⟨q, m, capq, Y, rfl, rfl, hO, hm⟩, hw.join hb hY 2⟩) ?_
        rintro v26 L26 ⟨q26, m26, cq26, Y26, rfl, rfl, hO26, hm26⟩
        refine ops_nil ?_
        refine done_any ?_
        exact any_weakP (hmx21 (Y26, cq26, m26, q26, γ106) ⟨hO26, hm26⟩) [1, 6, 17, 18] [[bx (γ106 0) (#[.slice none 0 0]) 24], [bx (γ1 0) (#[.slice p n cap]) 24], Y26] [0, 1, 2] (by kernel_rfl) rfl rfl (by kernel_rfl) rfl rfl
      ·
        refine om 1 [] [1, 6, 16, 18] (fun γ86 => [(5, .pointer (some ⟨γ86 0, 0, none⟩))]) (fun γ86 L => bx (γ86 0) (#[.slice none 0 0]) 24 :: L) (fun γ86 => []) (fun _ => by kernel_rfl) (fun γ86 => al0) (fun γ86 => ?_)
        refine ops_nil ?_
        refine done_any ?_
        exact any_weakP (hmx23 (γ106, γ86) trivial) [1, 5, 6, 16, 18] [[bx (γ86 0) (#[.slice none 0 0]) 24], [bx (γ106 0) (#[.slice none 0 0]) 24], [bx (γ1 0) (#[.slice p n cap]) 24]] [1, 0, 2] (by kernel_rfl) rfl rfl (by kernel_rfl) rfl rfl
    refine any_cutX (V := (Nat → Nat)) (fun γ86 => True) 5 #[true, false, true, false, true, false, false, false] (fun γ86 => [(1, .slice q m cap2), (5, .pointer (some ⟨γ86 0, 0, none⟩)), (16, .agg #[.slice p n cap]), (18, .agg #[.slice p n cap])]) (fun γ86 => [bx (γ86 0) (#[.slice none 0 0]) 24, bx (γ1 0) (#[.slice p n cap]) 24]) ?_ (fun hmx15 => ?_)
    ·
      rintro γ86 _
      refine any_fork [1, 5] (by kernel_rfl) (by simp) (each_cons _ rfl ?_ (each_cons _ rfl ?_ (each_nil)))
      ·
        refine ops_call (fun v L' => ∃ q m capq Y, v = .agg #[.slice q m capq] ∧ L' = List.take 2 ([bx (γ86 0) (#[.slice none 0 0]) 24, bx (γ1 0) (#[.slice p n cap]) 24]) ++ (Y ++ List.drop 2 ([bx (γ86 0) (#[.slice none 0 0]) 24, bx (γ1 0) (#[.slice p n cap]) 24])) ∧ SlO 40 Y q m capq (l.take 33) ∧ m ≤ 33) (by kernel_rfl) (by kernel_rfl) (by kernel_rfl) (fun args w => Try.call11 args w) (fun w hw => (short_d p n cap l w (hsl.kept hw.below) hn (by omega) (by omega)).mono fun e w' ⟨q, m, capq, Y, he, hO, hm, hb, hY⟩ => ⟨_, _, he, ⟨q, m, capq, Y, rfl, rfl, hO, hm⟩, hw.join hb hY 2⟩) ?_
        rintro v26 L26 ⟨q26, m26, cq26, Y26, rfl, rfl, hO26, hm26⟩
        refine ops_nil ?_
        refine done_any ?_
        exact any_weakP (hmx20 (Y26, cq26, m26, q26, γ86) ⟨hO26, hm26⟩) [1, 5, 17, 18] [[bx (γ86 0) (#[.slice none 0 0]) 24], [bx (γ1 0) (#[.slice p n cap]) 24], Y26] [0, 1, 2] (by kernel_rfl) rfl rfl (by kernel_rfl) rfl rfl
      ·
        refine om 1 [] [1, 5, 16, 18] (fun γ106 => [(6, .pointer (some ⟨γ106 0, 0, none⟩))]) (fun γ106 L => bx (γ106 0) (#[.slice none 0 0]) 24 :: L) (fun γ106 => []) (fun _ => by kernel_rfl) (fun γ106 => al0) (fun γ106 => ?_)
        refine ops_nil ?_
        refine done_any ?_
        exact any_weakP (hmx23 (γ106, γ86) trivial) [1, 5, 6, 16, 18] [[bx (γ106 0) (#[.slice none 0 0]) 24], [bx (γ86 0) (#[.slice none 0 0]) 24], [bx (γ1 0) (#[.slice p n cap]) 24]] [0, 1, 2] (by kernel_rfl) rfl rfl (by kernel_rfl) rfl rfl
    refine any_cutX (V := (List Ob) × (Nat) × (Nat) × (Option Addr) × (Nat → Nat)) (fun ⟨Y26, cq26, m26, q26, γ106⟩ => SlO 40 Y26 q26 m26 cq26 (l.take 33) ∧ m26 ≤ 33) 5 #[true, true, false, false, false, true, false, false] (fun ⟨Y26, cq26, m26, q26, γ106⟩ => [(1, .slice q m cap2), (2, .pointer (some ⟨γ1 0, 0, none⟩)), (6, .pointer (some ⟨γ106 0, 0, none⟩)), (17, .agg #[.slice q26 m26 cq26])]) (fun ⟨Y26, cq26, m26, q26, γ106⟩ => bx (γ106 0) (#[.slice none 0 0]) 24 :: bx (γ1 0) (#[.slice p n cap]) 24 :: (Y26 ++ [])) ?_ (fun hmx14 => ?_)
    ·
      rintro ⟨Y26, cq26, m26, q26, γ106⟩ ⟨hO26, hm26⟩
      refine any_fork [2, 4] (by kernel_rfl) (by simp) (each_cons _ rfl ?_ (each_cons _ rfl ?_ (each_nil)))
      ·
        refine oq 1 [(2, .go (owns 1 0 1))] [1, 6, 17] [(18, .agg #[.slice p n cap])] ([]) (fun _ => by kernel_rfl) al0 ?_
        refine ops_nil ?_
        refine done_any ?_
        exact any_weakP (hmx21 (Y26, cq26, m26, q26, γ106) ⟨hO26, hm26⟩) [1, 6, 17, 18] [[bx (γ106 0) (#[.slice none 0 0]) 24], [bx (γ1 0) (#[.slice p n cap]) 24], Y26] [0, 1, 2] (by kernel_rfl) rfl rfl (by kernel_rfl) rfl rfl
      ·
        refine om 1 [] [1, 2, 6, 17] (fun γ86 => [(5, .pointer (some ⟨γ86 0, 0, none⟩))]) (fun γ86 L => bx (γ86 0) (#[.slice none 0 0]) 24 :: L) (fun γ86 => []) (fun _ => by kernel_rfl) (fun γ86 => al0) (fun γ86 => ?_)
        refine ops_nil ?_
        refine done_any ?_
        exact any_weakP (hmx22 (Y26, cq26, m26, q26, γ106, γ86) ⟨hO26, hm26⟩) [1, 2, 5, 6, 17] [[bx (γ86 0) (#[.slice none 0 0]) 24], [bx (γ106 0) (#[.slice none 0 0]) 24], [bx (γ1 0) (#[.slice p n cap]) 24], Y26] [1, 0, 2, 3] (by kernel_rfl) rfl rfl (by kernel_rfl) rfl rfl
    refine any_cutX (V := (List Ob) × (Nat) × (Nat) × (Option Addr) × (Nat → Nat)) (fun ⟨Y26, cq26, m26, q26, γ86⟩ => SlO 40 Y26 q26 m26 cq26 (l.take 33) ∧ m26 ≤ 33) 5 #[true, true, false, false, true, false, false, false] (fun ⟨Y26, cq26, m26, q26, γ86⟩ => [(1, .slice q m cap2), (2, .pointer (some ⟨γ1 0, 0, none⟩)), (5, .pointer (some ⟨γ86 0, 0, none⟩)), (17, .agg #[.slice q26 m26 cq26])]) (fun ⟨Y26, cq26, m26, q26, γ86⟩ => bx (γ86 0) (#[.slice none 0 0]) 24 :: bx (γ1 0) (#[.slice p n cap]) 24 :: (Y26 ++ [])) ?_ (fun hmx13 => ?_)
    ·
      rintro ⟨Y26, cq26, m26, q26, γ86⟩ ⟨hO26, hm26⟩
      refine any_fork [2, 5] (by kernel_rfl) (by simp) (each_cons _ rfl ?_ (each_cons _ rfl ?_ (each_nil)))
      ·
        refine oq 1 [(2, .go (owns 1 0 1))] [1, 5, 17] [(18, .agg #[.slice p n cap])] ([]) (fun _ => by kernel_rfl) al0 ?_
        refine ops_nil ?_
        refine done_any ?_
        exact any_weakP (hmx20 (Y26, cq26, m26, q26, γ86) ⟨hO26, hm26⟩) [1, 5, 17, 18] [[bx (γ86 0) (#[.slice none 0 0]) 24], [bx (γ1 0) (#[.slice p n cap]) 24], Y26] [0, 1, 2] (by kernel_rfl) rfl rfl (by kernel_rfl) rfl rfl
      ·
        refine om 1 [] [1, 2, 5, 17] (fun γ106 => [(6, .pointer (some ⟨γ106 0, 0, none⟩))]) (fun γ106 L => bx (γ106 0) (#[.slice none 0 0]) 24 :: L) (fun γ106 => []) (fun _ => by kernel_rfl) (fun γ106 => al0) (fun γ106 => ?_)
        refine ops_nil ?_
        refine done_any ?_
        exact any_weakP (hmx22 (Y26, cq26, m26, q26, γ106, γ86) ⟨hO26, hm26⟩) [1, 2, 5, 6, 17] [[bx (γ106 0) (#[.slice none 0 0]) 24], [bx (γ86 0) (#[.slice none 0 0]) 24], [bx (γ1 0) (#[.slice p n cap]) 24], Y26] [0, 1, 2, 3] (by kernel_rfl) rfl rfl (by kernel_rfl) rfl rfl
    refine any_cutX (V := (List Ob) × (Nat) × (Nat) × (Option Addr)) (fun ⟨Y26, cq26, m26, q26⟩ => SlO 40 Y26 q26 m26 cq26 (l.take 33) ∧ m26 ≤ 33) 5 #[true, true, true, false, false, false, false, false] (fun ⟨Y26, cq26, m26, q26⟩ => [(1, .slice q m cap2), (17, .agg #[.slice q26 m26 cq26]), (18, .agg #[.slice p n cap])]) (fun ⟨Y26, cq26, m26, q26⟩ => bx (γ1 0) (#[.slice p n cap]) 24 :: (Y26 ++ [])) ?_ (fun hmx12 => ?_)
    ·
      rintro ⟨Y26, cq26, m26, q26⟩ ⟨hO26, hm26⟩
      refine any_fork [3, 4, 5] (by kernel_rfl) (by simp) (each_cons _ rfl ?_ (each_cons _ rfl ?_ (each_cons _ rfl ?_ (each_nil))))
      ·
        refine ops_call (fun v L' => ∃ q m capq Y, v = .agg #[.slice q m capq] ∧ L' = List.take 1 (bx (γ1 0) (#[.slice p n cap]) 24 :: (Y26 ++ [])) ++ (Y ++ List.drop 1 (bx (γ1 0) (#[.slice p n cap]) 24 :: (Y26 ++ []))) ∧ SlO 40 Y q m capq (l.take 33) ∧ m ≤ 33) (by kernel_rfl) (by kernel_rfl) (by kernel_rfl) (fun args w => Try.call11 args w) (fun w hw => (short_d p n cap l w (hsl.kept hw.below) hn (by omega) (by omega)).mono fun e w' ⟨q, m, capq, Y, he, hO, hm, hb, hY⟩ => ⟨_, _, he, ⟨q, m, capq, Y, rfl, rfl, hO, hm⟩, hw.join hb hY 1⟩) ?_
        rintro v66 L66 ⟨q66, m66, cq66, Y66, rfl, rfl, hO66, hm66⟩
        refine ops_nil ?_
        refine done_any ?_
        exact any_weakP (hmx19 (Y26, Y66, cq26, cq66, m26, m66, q26, q66) ⟨hO26, hO66, hm26, hm66⟩) [1, 17, 19] [[bx (γ1 0) (#[.slice p n cap]) 24], Y66, Y26] [0, 2, 1] (by kernel_rfl) rfl rfl (by kernel_rfl) rfl rfl
      ·
        refine om 1 [] [1, 17, 18] (fun γ86 => [(5, .pointer (some ⟨γ86 0, 0, none⟩))]) (fun γ86 L => bx (γ86 0) (#[.slice none 0 0]) 24 :: L) (fun γ86 => []) (fun _ => by kernel_rfl) (fun γ86 => al0) (fun γ86 => ?_)
        refine ops_nil ?_
        refine done_any ?_
        exact any_weakP (hmx20 (Y26, cq26, m26, q26, γ86) ⟨hO26, hm26⟩) [1, 5, 17, 18] [[bx (γ86 0) (#[.slice none 0 0]) 24], [bx (γ1 0) (#[.slice p n cap]) 24], Y26] [0, 1, 2] (by kernel_rfl) rfl rfl (by kernel_rfl) rfl rfl
      ·
        refine om 1 [] [1, 17, 18] (fun γ106 => [(6, .pointer (some ⟨γ106 0, 0, none⟩))]) (fun γ106 L => bx (γ106 0) (#[.slice none 0 0]) 24 :: L) (fun γ106 => []) (fun _ => by kernel_rfl) (fun γ106 => al0) (fun γ106 => ?_)
        refine ops_nil ?_
        refine done_any ?_
        exact any_weakP (hmx21 (Y26, cq26, m26, q26, γ106) ⟨hO26, hm26⟩) [1, 6, 17, 18] [[bx (γ106 0) (#[.slice none 0 0]) 24], [bx (γ1 0) (#[.slice p n cap]) 24], Y26] [0, 1, 2] (by kernel_rfl) rfl rfl (by kernel_rfl) rfl rfl
    refine any_cutX (V := (Nat → Nat) × (Nat → Nat)) (fun ⟨γ106, γ86⟩ => True) 6 #[false, false, false, false, true, true, false, false] (fun ⟨γ106, γ86⟩ => [(1, .slice q m cap2), (2, .pointer (some ⟨γ1 0, 0, none⟩)), (5, .pointer (some ⟨γ86 0, 0, none⟩)), (6, .pointer (some ⟨γ106 0, 0, none⟩))]) (fun ⟨γ106, γ86⟩ => [bx (γ106 0) (#[.slice none 0 0]) 24, bx (γ86 0) (#[.slice none 0 0]) 24, bx (γ1 0) (#[.slice p n cap]) 24]) ?_ (fun hmx11 => ?_)
    ·
      rintro ⟨γ106, γ86⟩ _
      refine any_fork [0, 2] (by kernel_rfl) (by simp) (each_cons _ rfl ?_ (each_cons _ rfl ?_ (each_nil)))
      ·
        refine oq 1 [(0, .go (owns 2 0 1))] [1, 2, 5, 6] [(16, .agg #[.slice p n cap])] ([]) (fun _ => by kernel_rfl) al0 ?_
        refine ops_nil ?_
        refine done_any ?_
        exact any_weakP (hmx17 (γ106, γ86) trivial) [1, 2, 5, 6, 16] [[bx (γ106 0) (#[.slice none 0 0]) 24], [bx (γ86 0) (#[.slice none 0 0]) 24], [bx (γ1 0) (#[.slice p n cap]) 24]] [0, 1, 2] (by kernel_rfl) rfl rfl (by kernel_rfl) rfl rfl
      ·
        refine oq 1 [(2, .go (owns 2 0 1))] [1, 2, 5, 6] [(18, .agg #[.slice p n cap])] ([]) (fun _ => by kernel_rfl) al0 ?_
        refine ops_nil ?_
        refine done_any ?_
        exact any_weakP (hmx18 (γ106, γ86) trivial) [1, 2, 5, 6, 18] [[bx (γ106 0) (#[.slice none 0 0]) 24], [bx (γ86 0) (#[.slice none 0 0]) 24], [bx (γ1 0) (#[.slice p n cap]) 24]] [0, 1, 2] (by kernel_rfl) rfl rfl (by kernel_rfl) rfl rfl
    refine any_cutX (V := (Nat → Nat)) (fun γ106 => True) 6 #[false, false, true, false, false, true, false, false] (fun γ106 => [(1, .slice q m cap2), (2, .pointer (some ⟨γ1 0, 0, none⟩)), (6, .pointer (some ⟨γ106 0, 0, none⟩)), (18, .agg #[.slice p n cap])]) (fun γ106 => [bx (γ106 0) (#[.slice none 0 0]) 24, bx (γ1 0) (#[.slice p n cap]) 24]) ?_ (fun hmx10 => ?_)
    ·
      rintro γ106 _
      refine any_fork [0, 4] (by kernel_rfl) (by simp) (each_cons _ rfl ?_ (each_cons _ rfl ?_ (each_nil)))
      ·
        refine oq 1 [(0, .go (owns 1 0 1))] [1, 6, 18] [(16, .agg #[.slice p n cap])] ([]) (fun _ => by kernel_rfl) al0 ?_
        refine ops_nil ?_
        refine done_any ?_
        exact any_weakP (hmx16 γ106 trivial) [1, 6, 16, 18] [[bx (γ106 0) (#[.slice none 0 0]) 24], [bx (γ1 0) (#[.slice p n cap]) 24]] [0, 1] (by kernel_rfl) rfl rfl (by kernel_rfl) rfl rfl
      ·
        refine om 1 [] [1, 2, 6, 18] (fun γ86 => [(5, .pointer (some ⟨γ86 0, 0, none⟩))]) (fun γ86 L => bx (γ86 0) (#[.slice none 0 0]) 24 :: L) (fun γ86 => []) (fun _ => by kernel_rfl) (fun γ86 => al0) (fun γ86 => ?_)
        refine ops_nil ?_
        refine done_any ?_
        exact any_weakP (hmx18 (γ106, γ86) trivial) [1, 2, 5, 6, 18] [[bx (γ86 0) (#[.slice none 0 0]) 24], [bx (γ106 0) (#[.slice none 0 0]) 24], [bx (γ1 0) (#[.slice p n cap]) 24]] [1, 0, 2] (by kernel_rfl) rfl rfl (by kernel_rfl) rfl rfl
    refine any_cutX (V := (Nat → Nat)) (fun γ86 => True) 6 #[false, false, true, false, true, false, false, false] (fun γ86 => [(1, .slice q m cap2), (2, .pointer (some ⟨γ1 0, 0, none⟩)), (5, .pointer (some ⟨γ86 0, 0, none⟩)), (18, .agg #[.slice p n cap])]) (fun γ86 => [bx (γ86 0) (#[.slice none 0 0]) 24, bx (γ1 0) (#[.slice p n cap]) 24]) ?_ (fun hmx9 => ?_)
    ·
      rintro γ86 _
      refine any_fork [0, 5] (by kernel_rfl) (by simp) (each_cons _ rfl ?_ (each_cons _ rfl ?_ (each_nil)))
      ·
        refine oq 1 [(0, .go (owns 1 0 1))] [1, 5, 18] [(16, .agg #[.slice p n cap])] ([]) (fun _ => by kernel_rfl) al0 ?_
        refine ops_nil ?_
        refine done_any ?_
        exact any_weakP (hmx15 γ86 trivial) [1, 5, 16, 18] [[bx (γ86 0) (#[.slice none 0 0]) 24], [bx (γ1 0) (#[.slice p n cap]) 24]] [0, 1] (by kernel_rfl) rfl rfl (by kernel_rfl) rfl rfl
      ·
        refine om 1 [] [1, 2, 5, 18] (fun γ106 => [(6, .pointer (some ⟨γ106 0, 0, none⟩))]) (fun γ106 L => bx (γ106 0) (#[.slice none 0 0]) 24 :: L) (fun γ106 => []) (fun _ => by kernel_rfl) (fun γ106 => al0) (fun γ106 => ?_)
        refine ops_nil ?_
        refine done_any ?_
        exact any_weakP (hmx18 (γ106, γ86) trivial) [1, 2, 5, 6, 18] [[bx (γ106 0) (#[.slice none 0 0]) 24], [bx (γ86 0) (#[.slice none 0 0]) 24], [bx (γ1 0) (#[.slice p n cap]) 24]] [0, 1, 2] (by kernel_rfl) rfl rfl (by kernel_rfl) rfl rfl
    refine any_cutX (V := (Nat → Nat)) (fun γ106 => True) 6 #[true, false, false, false, false, true, false, false] (fun γ106 => [(1, .slice q m cap2), (2, .pointer (some ⟨γ1 0, 0, none⟩)), (6, .pointer (some ⟨γ106 0, 0, none⟩)), (16, .agg #[.slice p n cap])]) (fun γ106 => [bx (γ106 0) (#[.slice none 0 0]) 24, bx (γ1 0) (#[.slice p n cap]) 24]) ?_ (fun hmx8 => ?_)
    ·
      rintro γ106 _
      refine any_fork [1, 2, 4] (by kernel_rfl) (by simp) (each_cons _ rfl ?_ (each_cons _ rfl ?_ (each_cons _ rfl ?_ (each_nil))))
      ·
        refine ops_call (fun v L' => ∃ q m capq Y, v = .agg #[.slice q m capq] ∧ L' = List.take 2 ([bx (γ106 0) (#[.slice none 0 0]) 24, bx (γ1 0) (#[.slice p n cap]) 24]) ++ (Y ++ List.drop 2 ([bx (γ106 0) (#[.slice none 0 0]) 24, bx (γ1 0) (#[.slice p n cap]) 24])) ∧ SlO 40 Y q m capq (l.take 33) ∧ m ≤ 33) (by kernel_rfl) (by kernel_rfl) (by kernel_rfl) (fun args w => Try.call11 args w) (fun w hw => (short_d p n cap l w (hsl.kept hw.below) hn (by omega) (by omega)).mono fun e w' ⟨q, m, capq, Y, he, hO, hm, hb, hY⟩ => ⟨_, _, he, ⟨q, m, capq, Y, rfl, rfl, hO, hm⟩, hw.join hb hY 2⟩) ?_
        rintro v26 L26 ⟨q26, m26, cq26, Y26, rfl, rfl, hO26, hm26⟩
        refine ops_nil ?_
        refine done_any ?_
        exact any_weakP (hmx14 (Y26, cq26, m26, q26, γ106) ⟨hO26, hm26⟩) [1, 2, 6, 17] [[bx (γ106 0) (#[.slice none 0 0]) 24], [bx (γ1 0) (#[.slice p n cap]) 24], Y26] [0, 1, 2] (by kernel_rfl) rfl rfl (by kernel_rfl) rfl rfl
      ·
        refine oq 1 [(2, .go (owns 1 0 1))] [1, 6, 16] [(18, .agg #[.slice p n cap])] ([]) (fun _ => by kernel_rfl) al0 ?_
        refine ops_nil ?_
        refine done_any ?_
        exact any_weakP (hmx16 γ106 trivial) [1, 6, 16, 18] [[bx (γ106 0) (#[.slice none 0 0]) 24], [bx (γ1 0) (#[.slice p n cap]) 24]] [0, 1] (by kernel_rfl) rfl rfl (by kernel_rfl) rfl rfl
      ·
        refine om 1 [] [1, 2, 6, 16] (fun γ86 => [(5, .pointer (some ⟨γ86 0, 0, none⟩))]) (fun γ86 L => bx (γ86 0) (#[.slice none 0 0]) 24 :: L) (fun γ86 => []) (fun _ => by kernel_rfl) (fun γ86 => al0) (fun γ86 => ?_)
        refine ops_nil ?_
        refine done_any ?_
        exact any_weakP (hmx17 (γ106, γ86) trivial) [1, 2, 5, 6, 16] [[bx (γ86 0) (#[.slice none 0 0]) 24], [bx (γ106 0) (#[.slice none 0 0]) 24], [bx (γ1 0) (#[.slice p n cap]) 24]] [1, 0, 2] (by kernel_rfl) rfl rfl (by kernel_rfl) rfl rfl
    refine any_cutX (V := (Nat → Nat)) (fun γ86 => True) 6 #[true, false, false, false, true, false, false, false] (fun γ86 => [(1, .slice q m cap2), (2, .pointer (some ⟨γ1 0, 0, none⟩)), (5, .pointer (some ⟨γ86 0, 0, none⟩)), (16, .agg #[.slice p n cap])]) (fun γ86 => [bx (γ86 0) (#[.slice none 0 0]) 24, bx (γ1 0) (#[.slice p n cap]) 24]) ?_ (fun hmx7 => ?_)
    ·
      rintro γ86 _
      refine any_fork [1, 2, 5] (by kernel_rfl) (by simp) (each_cons _ rfl ?_ (each_cons _ rfl ?_ (each_cons _ rfl ?_ (each_nil))))
      ·
        refine ops_call (fun v L' => ∃ q m capq Y, v = .agg #[.slice q m capq] ∧ L' = List.take 2 ([bx (γ86 0) (#[.slice none 0 0]) 24, bx (γ1 0) (#[.slice p n cap]) 24]) ++ (Y ++ List.drop 2 ([bx (γ86 0) (#[.slice none 0 0]) 24, bx (γ1 0) (#[.slice p n cap]) 24])) ∧ SlO 40 Y q m capq (l.take 33) ∧ m ≤ 33) (by kernel_rfl) (by kernel_rfl) (by kernel_rfl) (fun args w => Try.call11 args w) (fun w hw => (short_d p n cap l w (hsl.kept hw.below) hn (by omega) (by omega)).mono fun e w' ⟨q, m, capq, Y, he, hO, hm, hb, hY⟩ => ⟨_, _, he, ⟨q, m, capq, Y, rfl, rfl, hO, hm⟩, hw.join hb hY 2⟩) ?_
        rintro v26 L26 ⟨q26, m26, cq26, Y26, rfl, rfl, hO26, hm26⟩
        refine ops_nil ?_
        refine done_any ?_
        exact any_weakP (hmx13 (Y26, cq26, m26, q26, γ86) ⟨hO26, hm26⟩) [1, 2, 5, 17] [[bx (γ86 0) (#[.slice none 0 0]) 24], [bx (γ1 0) (#[.slice p n cap]) 24], Y26] [0, 1, 2] (by kernel_rfl) rfl rfl (by kernel_rfl) rfl rfl
      ·
        refine oq 1 [(2, .go (owns 1 0 1))] [1, 5, 16] [(18, .agg #[.slice p n cap])] ([]) (fun _ => by kernel_rfl) al0 ?_
        refine ops_nil ?_
        refine done_any ?_
        exact any_weakP (hmx15 γ86 trivial) [1, 5, 16, 18] [[bx (γ86 0) (#[.slice none 0 0]) 24], [bx (γ1 0) (#[.slice p n cap]) 24]] [0, 1] (by kernel_rfl) rfl rfl (by kernel_rfl) rfl rfl
      ·
        refine om 1 [] [1, 2, 5, 16] (fun γ106 => [(6, .pointer (some ⟨γ106 0, 0, none⟩))]) (fun γ106 L => bx (γ106 0) (#[.slice none 0 0]) 24 :: L) (fun γ106 => []) (fun _ => by kernel_rfl) (fun γ106 => al0) (fun γ106 => ?_)
        refine ops_nil ?_
        refine done_any ?_
        exact any_weakP (hmx17 (γ106, γ86) trivial) [1, 2, 5, 6, 16] [[bx (γ106 0) (#[.slice none 0 0]) 24], [bx (γ86 0) (#[.slice none 0 0]) 24], [bx (γ1 0) (#[.slice p n cap]) 24]] [0, 1, 2] (by kernel_rfl) rfl rfl (by kernel_rfl) rfl rfl
    refine any_cutX (V := Unit) (fun _ => True) 6 #[true, false, true, false, false, false, false, false] (fun _ => [(1, .slice q m cap2), (16, .agg #[.slice p n cap]), (18, .agg #[.slice p n cap])]) (fun _ => [bx (γ1 0) (#[.slice p n cap]) 24]) ?_ (fun hmx6 => ?_)
    ·
      rintro _ _
      refine any_fork [1, 4, 5] (by kernel_rfl) (by simp) (each_cons _ rfl ?_ (each_cons _ rfl ?_ (each_cons _ rfl ?_ (each_nil))))
      ·
        refine ops_call (fun v L' => ∃ q m capq Y, v = .agg #[.slice q m capq] ∧ L' = List.take 1 ([bx (γ1 0) (#[.slice p n cap]) 24]) ++ (Y ++ List.drop 1 ([bx (γ1 0) (#[.slice p n cap]) 24])) ∧ SlO 40 Y q m capq (l.take 33) ∧ m ≤ 33) (by kernel_rfl) (by kernel_rfl) (by kernel_rfl) (fun args w => Try.call11 args w) (fun w hw => (short_d p n cap l w (hsl.kept hw.below) hn (by omega) (by omega)).mono fun e w' ⟨q, m, capq, Y, he, hO, hm, hb, hY⟩ => ⟨_, _, he, ⟨q, m, capq, Y, rfl, rfl, hO, hm⟩, hw.join hb hY 1⟩) ?_
        rintro v26 L26 ⟨q26, m26, cq26, Y26, rfl, rfl, hO26, hm26⟩
        refine ops_nil ?_
        refine done_any ?_
        exact any_weakP (hmx12 (Y26, cq26, m26, q26) ⟨hO26, hm26⟩) [1, 17, 18] [[bx (γ1 0) (#[.slice p n cap]) 24], Y26] [0, 1] (by kernel_rfl) rfl rfl (by kernel_rfl) rfl rfl
      ·
        refine om 1 [] [1, 16, 18] (fun γ86 => [(5, .pointer (some ⟨γ86 0, 0, none⟩))]) (fun γ86 L => bx (γ86 0) (#[.slice none 0 0]) 24 :: L) (fun γ86 => []) (fun _ => by kernel_rfl) (fun γ86 => al0) (fun γ86 => ?_)
        refine ops_nil ?_
        refine done_any ?_
        exact any_weakP (hmx15 γ86 trivial) [1, 5, 16, 18] [[bx (γ86 0) (#[.slice none 0 0]) 24], [bx (γ1 0) (#[.slice p n cap]) 24]] [0, 1] (by kernel_rfl) rfl rfl (by kernel_rfl) rfl rfl
      ·
        refine om 1 [] [1, 16, 18] (fun γ106 => [(6, .pointer (some ⟨γ106 0, 0, none⟩))]) (fun γ106 L => bx (γ106 0) (#[.slice none 0 0]) 24 :: L) (fun γ106 => []) (fun _ => by kernel_rfl) (fun γ106 => al0) (fun γ106 => ?_)
        refine ops_nil ?_
        refine done_any ?_
        exact any_weakP (hmx16 γ106 trivial) [1, 6, 16, 18] [[bx (γ106 0) (#[.slice none 0 0]) 24], [bx (γ1 0) (#[.slice p n cap]) 24]] [0, 1] (by kernel_rfl) rfl rfl (by kernel_rfl) rfl rfl
    refine any_cutX (V := (List Ob) × (Nat) × (Nat) × (Option Addr)) (fun ⟨Y26, cq26, m26, q26⟩ => SlO 40 Y26 q26 m26 cq26 (l.take 33) ∧ m26 ≤ 33) 6 #[true, true, false, false, false, false, false, false] (fun ⟨Y26, cq26, m26, q26⟩ => [(1, .slice q m cap2), (2, .pointer (some ⟨γ1 0, 0, none⟩)), (17, .agg #[.slice q26 m26 cq26])]) (fun ⟨Y26, cq26, m26, q26⟩ => bx (γ1 0) (#[.slice p n cap]) 24 :: (Y26 ++ [])) ?_ (fun hmx5 => ?_)
    ·
      rintro ⟨Y26, cq26, m26, q26⟩ ⟨hO26, hm26⟩
      refine any_fork [2, 4, 5] (by kernel_rfl) (by simp) (each_cons _ rfl ?_ (each_cons _ rfl ?_ (each_cons _ rfl ?_ (each_nil))))
      ·
        refine oq 1 [(2, .go (owns 0 0 1))] [1, 17] [(18, .agg #[.slice p n cap])] ([]) (fun _ => by kernel_rfl) al0 ?_
        refine ops_nil ?_
        refine done_any ?_
        exact any_weakP (hmx12 (Y26, cq26, m26, q26) ⟨hO26, hm26⟩) [1, 17, 18] [[bx (γ1 0) (#[.slice p n cap]) 24], Y26] [0, 1] (by kernel_rfl) rfl rfl (by kernel_rfl) rfl rfl
      ·
        refine om 1 [] [1, 2, 17] (fun γ86 => [(5, .pointer (some ⟨γ86 0, 0, none⟩))]) (fun γ86 L => bx (γ86 0) (#[.slice none 0 0]) 24 :: L) (fun γ86 => []) (fun _ => by kernel_rfl) (fun γ86 => al0) (fun γ86 => ?_)
        refine ops_nil ?_
        refine done_any ?_
        exact any_weakP (hmx13 (Y26, cq26, m26, q26, γ86) ⟨hO26, hm26⟩) [1, 2, 5, 17] [[bx (γ86 0) (#[.slice none 0 0]) 24], [bx (γ1 0) (#[.slice p n cap]) 24], Y26] [0, 1, 2] (by kernel_rfl) rfl rfl (by kernel_rfl) rfl rfl
      ·
        refine om 1 [] [1, 2, 17] (fun γ106 => [(6, .pointer (some ⟨γ106 0, 0, none⟩))]) (fun γ106 L => bx (γ106 0) (#[.slice none 0 0]) 24 :: L) (fun γ106 => []) (fun _ => by kernel_rfl) (fun γ106 => al0) (fun γ106 => ?_)
        refine ops_nil ?_
        refine done_any ?_
        exact any_weakP (hmx14 (Y26, cq26, m26, q26, γ106) ⟨hO26, hm26⟩) [1, 2, 6, 17] [[bx (γ106 0) (#[.slice none 0 0]) 24], [bx (γ1 0) (#[.slice p n cap]) 24], Y26] [0, 1, 2] (by kernel_rfl) rfl rfl (by kernel_rfl) rfl rfl
    refine any_cutX (V := (Nat → Nat)) (fun γ106 => True) 7 #[false, false, false, false, false, true, false, false] (fun γ106 => [(1, .slice q m cap2), (2, .pointer (some ⟨γ1 0, 0, none⟩)), (6, .pointer (some ⟨γ106 0, 0, none⟩))]) (fun γ106 => [bx (γ106 0) (#[.slice none 0 0]) 24, bx (γ1 0) (#[.slice p n cap]) 24]) ?_ (fun hmx4 => ?_)
    ·
      rintro γ106 _
      refine any_fork [0, 2, 4] (by kernel_rfl) (by simp) (each_cons _ rfl ?_ (each_cons _ rfl ?_ (each_cons _ rfl ?_ (each_nil))))
      ·
        refine oq 1 [(0, .go (owns 1 0 1))] [1, 2, 6] [(16, .agg #[.slice p n cap])] ([]) (fun _ => by kernel_rfl) al0 ?_
        refine ops_nil ?_
        refine done_any ?_
        exact any_weakP (hmx8 γ106 trivial) [1, 2, 6, 16] [[bx (γ106 0) (#[.slice none 0 0]) 24], [bx (γ1 0) (#[.slice p n cap]) 24]] [0, 1] (by kernel_rfl) rfl rfl (by kernel_rfl) rfl rfl
      ·
        refine oq 1 [(2, .go (owns 1 0 1))] [1, 2, 6] [(18, .agg #[.slice p n cap])] ([]) (fun _ => by kernel_rfl) al0 ?_
        refine ops_nil ?_
        refine done_any ?_
        exact any_weakP (hmx10 γ106 trivial) [1, 2, 6, 18] [[bx (γ106 0) (#[.slice none 0 0]) 24], [bx (γ1 0) (#[.slice p n cap]) 24]] [0, 1] (by kernel_rfl) rfl rfl (by kernel_rfl) rfl rfl
      ·
        refine om 1 [] [1, 2, 6] (fun γ86 => [(5, .pointer (some ⟨γ86 0, 0, none⟩))]) (fun γ86 L => bx (γ86 0) (#[.slice none 0 0]) 24 :: L) (fun γ86 => []) (fun _ => by kernel_rfl) (fun γ86 => al0) (fun γ86 => ?_)
        refine ops_nil ?_
        refine done_any ?_
        exact any_weakP (hmx11 (γ106, γ86) trivial) [1, 2, 5, 6] [[bx (γ86 0) (#[.slice none 0 0]) 24], [bx (γ106 0) (#[.slice none 0 0]) 24], [bx (γ1 0) (#[.slice p n cap]) 24]] [1, 0, 2] (by kernel_rfl) rfl rfl (by kernel_rfl) rfl rfl
    refine any_cutX (V := (Nat → Nat)) (fun γ86 => True) 7 #[false, false, false, false, true, false, false, false] (fun γ86 => [(1, .slice q m cap2), (2, .pointer (some ⟨γ1 0, 0, none⟩)), (5, .pointer (some ⟨γ86 0, 0, none⟩))]) (fun γ86 => [bx (γ86 0) (#[.slice none 0 0]) 24, bx (γ1 0) (#[.slice p n cap]) 24]) ?_ (fun hmx3 => ?_)
    ·
      rintro γ86 _
      refine any_fork [0, 2, 5] (by kernel_rfl) (by simp) (each_cons _ rfl ?_ (each_cons _ rfl ?_ (each_cons _ rfl ?_ (each_nil))))
      ·
        refine oq 1 [(0, .go (owns 1 0 1))] [1, 2, 5] [(16, .agg #[.slice p n cap])] ([]) (fun _ => by kernel_rfl) al0 ?_
        refine ops_nil ?_
        refine done_any ?_
        exact any_weakP (hmx7 γ86 trivial) [1, 2, 5, 16] [[bx (γ86 0) (#[.slice none 0 0]) 24], [bx (γ1 0) (#[.slice p n cap]) 24]] [0, 1] (by kernel_rfl) rfl rfl (by kernel_rfl) rfl rfl
      ·
        refine oq 1 [(2, .go (owns 1 0 1))] [1, 2, 5] [(18, .agg #[.slice p n cap])] ([]) (fun _ => by kernel_rfl) al0 ?_
        refine ops_nil ?_
        refine done_any ?_
        exact any_weakP (hmx9 γ86 trivial) [1, 2, 5, 18] [[bx (γ86 0) (#[.slice none 0 0]) 24], [bx (γ1 0) (#[.slice p n cap]) 24]] [0, 1] (by kernel_rfl) rfl rfl (by kernel_rfl) rfl rfl
      ·
        refine om 1 [] [1, 2, 5] (fun γ106 => [(6, .pointer (some ⟨γ106 0, 0, none⟩))]) (fun γ106 L => bx (γ106 0) (#[.slice none 0 0]) 24 :: L) (fun γ106 => []) (fun _ => by kernel_rfl) (fun γ106 => al0) (fun γ106 => ?_)
        refine ops_nil ?_
        refine done_any ?_
        exact any_weakP (hmx11 (γ106, γ86) trivial) [1, 2, 5, 6] [[bx (γ106 0) (#[.slice none 0 0]) 24], [bx (γ86 0) (#[.slice none 0 0]) 24], [bx (γ1 0) (#[.slice p n cap]) 24]] [0, 1, 2] (by kernel_rfl) rfl rfl (by kernel_rfl) rfl rfl
    refine any_cutX (V := Unit) (fun _ => True) 7 #[false, false, true, false, false, false, false, false] (fun _ => [(1, .slice q m cap2), (2, .pointer (some ⟨γ1 0, 0, none⟩)), (18, .agg #[.slice p n cap])]) (fun _ => [bx (γ1 0) (#[.slice p n cap]) 24]) ?_ (fun hmx2 => ?_)
    ·
      rintro _ _
      refine any_fork [0, 4, 5] (by kernel_rfl) (by simp) (each_cons _ rfl ?_ (each_cons _ rfl ?_ (each_cons _ rfl ?_ (each_nil))))
      ·
        refine oq 1 [(0, .go (owns 0 0 1))] [1, 18] [(16, .agg #[.slice p n cap])] ([]) (fun _ => by kernel_rfl) al0 ?_
        refine ops_nil ?_
        refine done_any ?_
        exact any_weakP (hmx6 () trivial) [1, 16, 18] [[bx (γ1 0) (#[.slice p n cap]) 24]] [0] (by kernel_rfl) rfl rfl (by kernel_rfl) rfl rfl
      ·
        refine om 1 [] [1, 2, 18] (fun γ86 => [(5, .pointer (some ⟨γ86 0, 0, none⟩))]) (fun γ86 L => bx (γ86 0) (#[.slice none 0 0]) 24 :: L) (fun γ86 => []) (fun _ => by kernel_rfl) (fun γ86 => al0) (fun γ86 => ?_)
        refine ops_nil ?_
        refine done_any ?_
        exact any_weakP (hmx9 γ86 trivial) [1, 2, 5, 18] [[bx (γ86 0) (#[.slice none 0 0]) 24], [bx (γ1 0) (#[.slice p n cap]) 24]] [0, 1] (by kernel_rfl) rfl rfl (by kernel_rfl) rfl rfl
      ·
        refine om 1 [] [1, 2, 18] (fun γ106 => [(6, .pointer (some ⟨γ106 0, 0, none⟩))]) (fun γ106 L => bx (γ106 0) (#[.slice none 0 0]) 24 :: L) (fun γ106 => []) (fun _ => by kernel_rfl) (fun γ106 => al0) (fun γ106 => ?_)
        refine ops_nil ?_
        refine done_any ?_
        exact any_weakP (hmx10 γ106 trivial) [1, 2, 6, 18] [[bx (γ106 0) (#[.slice none 0 0]) 24], [bx (γ1 0) (#[.slice p n cap]) 24]] [0, 1] (by kernel_rfl) rfl rfl (by kernel_rfl) rfl rfl
    refine any_cutX (V := Unit) (fun _ => True) 7 #[true, false, false, false, false, false, false, false] (fun _ => [(1, .slice q m cap2), (2, .pointer (some ⟨γ1 0, 0, none⟩)), (16, .agg #[.slice p n cap])]) (fun _ => [bx (γ1 0) (#[.slice p n cap]) 24]) ?_ (fun hmx1 => ?_)
    ·
      rintro _ _
      refine any_fork [1, 2, 4, 5] (by kernel_rfl) (by simp) (each_cons _ rfl ?_ (each_cons _ rfl ?_ (each_cons _ rfl ?_ (each_cons _ rfl ?_ (each_nil)))))
      ·
        refine ops_call (fun v L' => ∃ q m capq Y, v = .agg #[.slice q m capq] ∧ L' = List.take 1 ([bx (γ1 0) (#[.slice p n cap]) 24]) ++ (Y ++ List.drop 1 ([bx (γ1 0) (#[.slice p n cap]) 24])) ∧ SlO 40 Y q m capq (l.take 33) ∧ m ≤ 33) (by kernel_rfl) (by kernel_rfl) (by kernel_rfl) (fun args w => Try.call11 args w) (fun w hw => (short_d p n cap l w (hsl.kept hw.below) hn (by omega) (by omega)).mono fun e w' ⟨q, m, capq, Y, he, hO, hm, hb, hY⟩ => ⟨_, _, he, ⟨q, m, capq, Y, rfl, rfl, hO, hm⟩, hw.join hb hY 1⟩) ?_
        rintro v26 L26 ⟨q26, m26, cq26, Y26, rfl, rfl, hO26, hm26⟩
        refine ops_nil ?_
        refine done_any ?_
        exact any_weakP (hmx5 (Y26, cq26, m26, q26) ⟨hO26, hm26⟩) [1, 2, 17] [[bx (γ1 0) (#[.slice p n cap]) 24], Y26] [0, 1] (by kernel_rfl) rfl rfl (by kernel_rfl) rfl rfl
      ·
        refine oq 1 [(2, .go (owns 0 0 1))] [1, 16] [(18, .agg #[.slice p n cap])] ([]) (fun _ => by kernel_rfl) al0 ?_
        refine ops_nil ?_
        refine done_any ?_
        exact any_weakP (hmx6 () trivial) [1, 16, 18] [[bx (γ1 0) (#[.slice p n cap]) 24]] [0] (by kernel_rfl) rfl rfl (by kernel_rfl) rfl rfl
      ·
        refine om 1 [] [1, 2, 16] (fun γ86 => [(5, .pointer (some ⟨γ86 0, 0, none⟩))]) (fun γ86 L => bx (γ86 0) (#[.slice none 0 0]) 24 :: L) (fun γ86 => []) (fun _ => by kernel_rfl) (fun γ86 => al0) (fun γ86 => ?_)
        refine ops_nil ?_
        refine done_any ?_
        exact any_weakP (hmx7 γ86 trivial) [1, 2, 5, 16] [[bx (γ86 0) (#[.slice none 0 0]) 24], [bx (γ1 0) (#[.slice p n cap]) 24]] [0, 1] (by kernel_rfl) rfl rfl (by kernel_rfl) rfl rfl
      ·
        refine om 1 [] [1, 2, 16] (fun γ106 => [(6, .pointer (some ⟨γ106 0, 0, none⟩))]) (fun γ106 L => bx (γ106 0) (#[.slice none 0 0]) 24 :: L) (fun γ106 => []) (fun _ => by kernel_rfl) (fun γ106 => al0) (fun γ106 => ?_)
        refine ops_nil ?_
        refine done_any ?_
        exact any_weakP (hmx8 γ106 trivial) [1, 2, 6, 16] [[bx (γ106 0) (#[.slice none 0 0]) 24], [bx (γ1 0) (#[.slice p n cap]) 24]] [0, 1] (by kernel_rfl) rfl rfl (by kernel_rfl) rfl rfl
    refine any_fork [0, 2, 4, 5] (by kernel_rfl) (by simp) (each_cons _ rfl ?_ (each_cons _ rfl ?_ (each_cons _ rfl ?_ (each_cons _ rfl ?_ (each_nil)))))
    ·
      refine oq 1 [(0, .go (owns 0 0 1))] [1, 2] [(16, .agg #[.slice p n cap])] ([]) (fun _ => by kernel_rfl) al0 ?_
      refine ops_nil ?_
      refine done_any ?_
      exact any_weakP (hmx1 () trivial) [1, 2, 16] [[bx (γ1 0) (#[.slice p n cap]) 24]] [0] (by kernel_rfl) rfl rfl (by kernel_rfl) rfl rfl
    ·
      refine oq 1 [(2, .go (owns 0 0 1))] [1, 2] [(18, .agg #[.slice p n cap])] ([]) (fun _ => by kernel_rfl) al0 ?_
      refine ops_nil ?_
      refine done_any ?_
      exact any_weakP (hmx2 () trivial) [1, 2, 18] [[bx (γ1 0) (#[.slice p n cap]) 24]] [0] (by kernel_rfl) rfl rfl (by kernel_rfl) rfl rfl
    ·
      refine om 1 [] [1, 2] (fun γ86 => [(5, .pointer (some ⟨γ86 0, 0, none⟩))]) (fun γ86 L => bx (γ86 0) (#[.slice none 0 0]) 24 :: L) (fun γ86 => []) (fun _ => by kernel_rfl) (fun γ86 => al0) (fun γ86 => ?_)
      refine ops_nil ?_
      refine done_any ?_
      exact any_weakP (hmx3 γ86 trivial) [1, 2, 5] [[bx (γ86 0) (#[.slice none 0 0]) 24], [bx (γ1 0) (#[.slice p n cap]) 24]] [0, 1] (by kernel_rfl) rfl rfl (by kernel_rfl) rfl rfl
    ·
      refine om 1 [] [1, 2] (fun γ106 => [(6, .pointer (some ⟨γ106 0, 0, none⟩))]) (fun γ106 L => bx (γ106 0) (#[.slice none 0 0]) 24 :: L) (fun γ106 => []) (fun _ => by kernel_rfl) (fun γ106 => al0) (fun γ106 => ?_)
      refine ops_nil ?_
      refine done_any ?_
      exact any_weakP (hmx4 γ106 trivial) [1, 2, 6] [[bx (γ106 0) (#[.slice none 0 0]) 24], [bx (γ1 0) (#[.slice p n cap]) 24]] [0, 1] (by kernel_rfl) rfl rfl (by kernel_rfl) rfl rfl
  rintro ⟨Y26, Y66, cq26, cq66, m26, m66, q26, q66, γ106, γ86⟩ ⟨hO26, hO66, hm26, hm66⟩
  refine any_nil (by kernel_rfl) ?_
  refine done_seq ?_
  refine at_seq ?_
  refine at_seq ?_
  refine aq [] [5, 6] [(20, .slice q m cap2), (21, .int .i64 ((m : Nat))), (22, .int .i64 0)] ([]) (fun _ => by kernel_rfl) al0 ?_
  refine done_seq ?_
  refine at_block ?_
  refine at_loop (α := Nat) [5, 6, 20, 21, 22] (fun j => [(5, .pointer (some ⟨γ86 0, 0, none⟩)), (6, .pointer (some ⟨γ106 0, 0, none⟩)), (20, .slice q m cap2), (21, .int .i64 ((m : Nat))), (22, .int .i64 ((j : Nat)))]) (fun j => bx (γ106 0) (#[.slice q66 m66 cq66]) 24 :: bx (γ86 0) (#[.slice q26 m26 cq26]) 24 :: bx (γ1 0) (#[.slice p n cap]) 24 :: (Y26 ++ (Y66 ++ []))) (fun j => j ≤ m) (fun j => m - j) 0 (by kernel_rfl) rfl (Nat.zero_le _) ?_
  rintro j
  rintro hj
  refine at_seq ?_
  by_cases q207 : ((j : Nat) : Int) < ((m : Nat) : Int)
  ·
    refine aq [(0, .yes)] [5, 6, 20, 21, 22] [(23, .bool true)] ([((j : Nat) : Int) < ((m : Nat) : Int)]) (fun _ => by kernel_rfl) (al1 q207) ?_
    refine done_seq ?_
    refine at_seq ?_
    refine at_true (by kernel_rfl) ?_
    refine at_skip ?_
    refine done_seq ?_
    refine at_seq ?_
    refine at_block ?_
    refine at_seq ?_
    obtain ⟨b210, o210, rfl⟩ := hal.pos (i := j) (by omega)
    obtain ⟨x212, hx212⟩ := get_some (l := al) (m := j) (by omega)
    obtain ⟨hsx212, hlx212, hcx212, hdx212⟩ := hnm x212 (List.mem_of_getElem? hx212)
    refine am [(1, .at b210 o210 j), (2, .go (outs b210 (o210 + j * 2) [.int .i64 x212.vcpu, .slice x212.np x212.nn x212.ncap])), (5, .go (owns 0 0 2))] [5, 6, 20, 21, 22] (fun γ213 => [(7, .int .i64 ((j : Nat))), (8, .pointer (some ⟨γ213 0, 0, none⟩))]) (fun γ213 L => bx (γ213 0) (#[.int .i64 x212.vcpu, .slice x212.np x212.nn x212.ncap]) 30 :: L) (fun γ213 => [(some ⟨b210, o210, none⟩ : Option Addr) = some ⟨b210, o210, none⟩, ((j : Nat)) = ((j : Nat) : Int), j < m] ++ (cellsP w b210 (o210 + j * 2) [.int .i64 x212.vcpu, .slice x212.np x212.nn x212.ncap])) (fun _ => by kernel_rfl) (fun γ213 => (alA (al2 rfl (al2 rfl (al1 (by omega)))) (rd_pre (hal.get hx212) _ rfl))) (fun γ213 => ?_)
    refine done_seq ?_
    refine at_seq ?_
    refine at_seq ?_
    by_cases q215 : ((j : Nat) : Int) = (12 : Int)
    ·
      refine aq [(1, .yes)] [5, 6, 8, 20, 21, 22] [(28, .bool true)] ([((j : Nat) : Int) = (12 : Int)]) (fun _ => by kernel_rfl) (al1 q215) ?_
      refine done_seq ?_
      refine at_true (by kernel_rfl) ?_
      refine at_leave _ (by rfl) ?_
      refine done_seq ?_
      refine at_seq ?_
      refine at_ops ?_
      refine oq 2 [(0, .go (owns 2 0 1)), (1, .go (owns 1 0 1))] [] [(65, .agg #[.slice q26 m26 cq26]), (66, .agg #[.slice q66 m66 cq66])] ([]) (fun _ => by kernel_rfl) al0 ?_
      refine ops_callD (.bool true) (by kernel_rfl) (by kernel_rfl) (by kernel_rfl) (fun args w => Try.call15 args w) (fun w hw => by have := rsame_d q26 m26 cq26 ((l.take 33)) q66 m66 cq66 ((l.take 33)) w (hO26.atN (A := [_, _, _, _]) hw) hO26.len (by omega) (hO66.atN (A := (_ :: _ :: _ :: _ :: Y26)) hw) hO66.len (by omega); simpa using this) ?_
      refine oq 1 [] [] [(4, .bool true)] ([]) (fun _ => by kernel_rfl) al0 ?_
      refine ops_nil ?_
      refine done_seq ?_
      refine at_return ([]) (.bool true) [] (by kernel_rfl) (by kernel_rfl) al0 ?_
      exact fun w' hw => ⟨rfl, hw.below⟩
    ·
      refine aq [(1, .no)] [5, 6, 8, 20, 21, 22] [(28, .bool false)] ([¬ (((j : Nat) : Int) = (12 : Int))]) (fun _ => by kernel_rfl) (al1 q215) ?_
      refine done_seq ?_
      refine at_false (by kernel_rfl) ?_
      refine at_skip ?_
      refine done_seq ?_
      refine at_seq ?_
      by_cases q221 : (33 : Int) < ((x212.nn : Nat) : Int)
      ·
        refine at_ops ?_
        refine om 8 [(2, .go (owns 1 1 1)), (4, .go (owns 1 1 1)), (6, .is [] (.int .i64 33)), (7, .sl (.slice x212.np 33 x212.ncap))] [5, 6, 8, 20, 21, 22] (fun γ222 => [(29, .slice (some ⟨γ222 0, 0, none⟩) 0 0), (36, .slice x212.np 33 x212.ncap)]) (fun γ222 L => bx (γ222 0) (#[]) 3 :: L) (fun γ222 => [Value.int .i64 (if (33 : Int) < ((x212.nn : Nat) : Int) then 33 else (x212.nn : Nat)) = .int .i64 33] ++ ([SlRun Try.prog 28 (.slice x212.np x212.nn x212.ncap) none (some (.int .i64 33)) none (.slice x212.np 33 x212.ncap)])) (fun _ => by kernel_rfl) (fun γ222 => (alA (al1 (by rw [if_pos q221])) (al1 (slE_hi (P := Try.prog) (h := 33) (T := 28) (e := 3) (k := 1) (by_ := 8) (by kernel_rfl) (by omega))))) (fun γ222 => ?_)
        refine ops_append (α := Int) [bx (γ213 0) (#[.int .i64 x212.vcpu, .slice x212.np x212.nn x212.ncap]) 30, bx (γ106 0) (#[.slice q66 m66 cq66]) 24, bx (γ86 0) (#[.slice q26 m26 cq26]) 24, bx (γ1 0) (#[.slice p n cap]) 24] ([bx (γ222 0) (#[]) 3]) ((Y26 ++ (Y66 ++ []))) (mvE rfl) rfl (by kernel_rfl) (by kernel_rfl) (p := (some ⟨γ222 0, 0, none⟩)) (n := 0) (cap := 0) (m := 33) (yv := .slice x212.np 33 x212.ncap) (by kernel_rfl) (by kernel_rfl) (T := 3) (by_ := 8) (by kernel_rfl) ([]) ((x212.ns.take 33)) (SlO.lit (by rfl) (by rfl) (by simp [maxLen])) (fun w hw => src_svn Try.underlying28 ((hsx212.kept hw.below).take 33) (by rw [List.length_take]; omega)) (by rw [List.length_take]; omega) (by have hmx : maxLen = 9223372036854775807 := rfl; omega) (by have hmx : maxLen = 9223372036854775807 := rfl; omega) (fun Y223 p223 cap223 hO223 => ?_)
        refine oq 1 [] [5, 6, 8, 20, 21, 22] [(9, .slice p223 (0 + 33) cap223)] ([]) (fun _ => by kernel_rfl) al0 ?_
        refine ops_nil ?_
        refine done_seq ?_
        refine at_seq ?_
        refine at_ops ?_
        refine oq 4 [(0, .go (owns 2 0 1)), (2, .go (owns 0 0 1))] [5, 6, 8, 9, 20, 21, 22] [(39, .agg #[.slice q26 m26 cq26]), (41, .int .i64 x212.vcpu), (42, .slice p223 (0 + 33) cap223)] ([]) (fun _ => by kernel_rfl) al0 ?_
        rcases q226 : rightB ((l.take 33)) with _ | _
        ·
          refine ops_callD (.tuple #[.bool false, .int .i64 260]) (by kernel_rfl) (by kernel_rfl) (by kernel_rfl) (fun args w => Try.call12 args w) (fun w hw => by have := poll_d q26 m26 cq26 ((l.take 33)) x212.vcpu p223 (0 + 33) cap223 (([] ++ (x212.ns.take 33))) w (hO26.atN (A := (_ :: _ :: _ :: _ :: Y223)) hw) hO26.len (by omega) (hO223.atN (A := [_, _, _, _]) hw) hO223.len (by omega); rw [pollV_bad q226] at this; exact this) ?_
          refine oq 5 [] [5, 6, 8, 9, 20, 21, 22] [(10, .bool false), (11, .int .i64 260)] ([]) (fun _ => by kernel_rfl) al0 ?_
          refine ops_nil ?_
          refine done_seq ?_
          refine at_seq ?_
          refine aq [] [5, 6, 8, 9, 10, 11, 20, 21, 22] [(12, .bool false), (13, .int .i64 260)] ([]) (fun _ => by kernel_rfl) al0 ?_
          refine done_seq ?_
          refine at_seq ?_
          refine at_seq ?_
          refine at_ops ?_
          refine oq 1 [(0, .go (owns 1 0 1))] [5, 6, 8, 9, 10, 11, 12, 13, 20, 21, 22] [(46, .agg #[.slice q66 m66 cq66])] ([]) (fun _ => by kernel_rfl) al0 ?_
          refine ops_callD (.bool false) (by kernel_rfl) (by kernel_rfl) (by kernel_rfl) (fun args w => Try.call13 args w) (fun w hw => by have := rright_d q66 m66 cq66 ((l.take 33)) w (hO66.at ((hw.tailN 4).sub ((List.sublist_append_right Y26 _).trans (List.sublist_append_right Y223 _)))) hO66.len (by omega); rw [q226] at this; exact this) ?_
          refine ops_nil ?_
          refine done_seq ?_
          refine at_false (by kernel_rfl) ?_
          refine at_skip ?_
          refine done_seq ?_
          refine at_seq ?_
          refine aq [(2, .eqs false)] [5, 6, 20, 21, 22] [(63, .bool false)] ([EqRun Try.prog .neq 4 (.tmp 56) (.tmp 57) (.bool false) (.bool false) false]) (fun _ => by kernel_rfl) (al1 (bool_ne false false)) ?_
          refine done_seq ?_
          refine at_false (by kernel_rfl) ?_
          refine at_skip ?_
          refine done_block ?_
          refine done_seq ?_
          refine aq [(0, .fit)] [5, 6, 20, 21] [(22, .int .i64 ((j + 1 : Nat)))] ([Fit .i64 ((j + 1 : Nat))]) (fun _ => by kernel_rfl) (al1 (fit64 (by omega) (by omega))) ?_
          refine Done.drop (L' := bx (γ106 0) (#[.slice q66 m66 cq66]) 24 :: bx (γ86 0) (#[.slice q26 m26 cq26]) 24 :: bx (γ1 0) (#[.slice p n cap]) 24 :: (Y26 ++ (Y66 ++ []))) ?_ (List.Sublist.cons _ (List.Sublist.cons_cons _ (List.Sublist.cons_cons _ (List.Sublist.cons_cons _ (List.sublist_append_right _ _)))))
          exact done_round [5, 6, 20, 21, 22] (j + 1) (by kernel_rfl) rfl (by omega) (by first | omega | (simp only; omega))
        ·
          refine ops_callD (.tuple #[.bool ((pollV ((l.take 33)) x212.vcpu (([] ++ (x212.ns.take 33)))).1), .int .i64 ((pollV ((l.take 33)) x212.vcpu (([] ++ (x212.ns.take 33)))).2)]) (by kernel_rfl) (by kernel_rfl) (by kernel_rfl) (fun args w => Try.call12 args w) (fun w hw => by have := poll_d q26 m26 cq26 ((l.take 33)) x212.vcpu p223 (0 + 33) cap223 (([] ++ (x212.ns.take 33))) w (hO26.atN (A := (_ :: _ :: _ :: _ :: Y223)) hw) hO26.len (by omega) (hO223.atN (A := [_, _, _, _]) hw) hO223.len (by omega); exact this) ?_
          refine oq 5 [] [5, 6, 8, 9, 20, 21, 22] [(10, .bool ((pollV ((l.take 33)) x212.vcpu (([] ++ (x212.ns.take 33)))).1)), (11, .int .i64 ((pollV ((l.take 33)) x212.vcpu (([] ++ (x212.ns.take 33)))).2))] ([]) (fun _ => by kernel_rfl) al0 ?_
          refine ops_nil ?_
          refine done_seq ?_
          refine at_seq ?_
          refine aq [] [5, 6, 8, 9, 10, 11, 20, 21, 22] [(12, .bool false), (13, .int .i64 260)] ([]) (fun _ => by kernel_rfl) al0 ?_
          refine done_seq ?_
          refine at_seq ?_
          refine at_seq ?_
          refine at_ops ?_
          refine oq 1 [(0, .go (owns 1 0 1))] [5, 6, 8, 9, 10, 11, 12, 13, 20, 21, 22] [(46, .agg #[.slice q66 m66 cq66])] ([]) (fun _ => by kernel_rfl) al0 ?_
          refine ops_callD (.bool true) (by kernel_rfl) (by kernel_rfl) (by kernel_rfl) (fun args w => Try.call13 args w) (fun w hw => by have := rright_d q66 m66 cq66 ((l.take 33)) w (hO66.at ((hw.tailN 4).sub ((List.sublist_append_right Y26 _).trans (List.sublist_append_right Y223 _)))) hO66.len (by omega); rw [q226] at this; exact this) ?_
          refine ops_nil ?_
          refine done_seq ?_
          refine at_true (by kernel_rfl) ?_
          refine at_ops ?_
          refine oq 4 [(0, .go (owns 1 0 1)), (2, .go (owns 0 0 1))] [5, 6, 10, 11, 20, 21, 22] [(49, .agg #[.slice q66 m66 cq66]), (51, .int .i64 x212.vcpu), (52, .slice p223 (0 + 33) cap223)] ([]) (fun _ => by kernel_rfl) al0 ?_
          refine ops_callD (.tuple #[.bool ((pollV ((l.take 33)) x212.vcpu (([] ++ (x212.ns.take 33)))).1), .int .i64 ((pollV ((l.take 33)) x212.vcpu (([] ++ (x212.ns.take 33)))).2)]) (by kernel_rfl) (by kernel_rfl) (by kernel_rfl) (fun args w => Try.call14 args w) (fun w hw => by have := rpoll_d q66 m66 cq66 ((l.take 33)) x212.vcpu p223 (0 + 33) cap223 (([] ++ (x212.ns.take 33))) w (hO66.at ((hw.tailN 4).sub ((List.sublist_append_right Y26 _).trans (List.sublist_append_right Y223 _)))) hO66.len (by omega) (hO223.atN (A := [_, _, _, _]) hw) hO223.len (by omega); rw [poll_eq q226] at this; exact this) ?_
          refine oq 5 [] [5, 6, 10, 11, 20, 21, 22] [(12, .bool ((pollV ((l.take 33)) x212.vcpu (([] ++ (x212.ns.take 33)))).1)), (13, .int .i64 ((pollV ((l.take 33)) x212.vcpu (([] ++ (x212.ns.take 33)))).2))] ([]) (fun _ => by kernel_rfl) al0 ?_
          refine ops_nil ?_
          refine done_seq ?_
          refine at_seq ?_
          refine aq [(2, .eqs false), (6, .no)] [5, 6, 20, 21, 22] [(63, .bool false)] ([EqRun Try.prog .neq 4 (.tmp 56) (.tmp 57) (.bool ((pollV ((l.take 33)) x212.vcpu (([] ++ (x212.ns.take 33)))).1)) (.bool ((pollV ((l.take 33)) x212.vcpu (([] ++ (x212.ns.take 33)))).1)) false] ++ ([¬ (((pollV ((l.take 33)) x212.vcpu (([] ++ (x212.ns.take 33)))).2 : Int) ≠ ((pollV ((l.take 33)) x212.vcpu (([] ++ (x212.ns.take 33)))).2 : Int))])) (fun _ => by kernel_rfl) (alA (al1 (bool_same _)) (al1 ((fun h => h rfl)))) ?_
          refine done_seq ?_
          refine at_false (by kernel_rfl) ?_
          refine at_skip ?_
          refine done_block ?_
          refine done_seq ?_
          refine aq [(0, .fit)] [5, 6, 20, 21] [(22, .int .i64 ((j + 1 : Nat)))] ([Fit .i64 ((j + 1 : Nat))]) (fun _ => by kernel_rfl) (al1 (fit64 (by omega) (by omega))) ?_
          refine Done.drop (L' := bx (γ106 0) (#[.slice q66 m66 cq66]) 24 :: bx (γ86 0) (#[.slice q26 m26 cq26]) 24 :: bx (γ1 0) (#[.slice p n cap]) 24 :: (Y26 ++ (Y66 ++ []))) ?_ (List.Sublist.cons _ (List.Sublist.cons_cons _ (List.Sublist.cons_cons _ (List.Sublist.cons_cons _ (List.sublist_append_right _ _)))))
          exact done_round [5, 6, 20, 21, 22] (j + 1) (by kernel_rfl) rfl (by omega) (by first | omega | (simp only; omega))
      ·
        refine at_ops ?_
        refine om 8 [(2, .go (owns 1 1 1)), (4, .go (owns 1 1 1)), (6, .is [] (.int .i64 ((x212.nn : Nat)))), (7, .sl (.slice x212.np x212.nn x212.ncap))] [5, 6, 8, 20, 21, 22] (fun γ241 => [(29, .slice (some ⟨γ241 0, 0, none⟩) 0 0), (36, .slice x212.np x212.nn x212.ncap)]) (fun γ241 L => bx (γ241 0) (#[]) 3 :: L) (fun γ241 => [Value.int .i64 (if (33 : Int) < ((x212.nn : Nat) : Int) then 33 else (x212.nn : Nat)) = .int .i64 ((x212.nn : Nat))] ++ ([SlRun Try.prog 28 (.slice x212.np x212.nn x212.ncap) none (some (.int .i64 ((x212.nn : Nat)))) none (.slice x212.np x212.nn x212.ncap)])) (fun _ => by kernel_rfl) (fun γ241 => (alA (al1 (by rw [if_neg q221])) (al1 (slE_hi (P := Try.prog) (h := x212.nn) (T := 28) (e := 3) (k := 1) (by_ := 8) (by kernel_rfl) (by omega))))) (fun γ241 => ?_)
        refine ops_append (α := Int) [bx (γ213 0) (#[.int .i64 x212.vcpu, .slice x212.np x212.nn x212.ncap]) 30, bx (γ106 0) (#[.slice q66 m66 cq66]) 24, bx (γ86 0) (#[.slice q26 m26 cq26]) 24, bx (γ1 0) (#[.slice p n cap]) 24] ([bx (γ241 0) (#[]) 3]) ((Y26 ++ (Y66 ++ []))) (mvE rfl) rfl (by kernel_rfl) (by kernel_rfl) (p := (some ⟨γ241 0, 0, none⟩)) (n := 0) (cap := 0) (m := x212.nn) (yv := .slice x212.np x212.nn x212.ncap) (by kernel_rfl) (by kernel_rfl) (T := 3) (by_ := 8) (by kernel_rfl) ([]) ((x212.ns.take x212.nn)) (SlO.lit (by rfl) (by rfl) (by simp [maxLen])) (fun w hw => src_svn Try.underlying28 ((hsx212.kept hw.below).take x212.nn) (by rw [List.length_take]; omega)) (by rw [List.length_take]; omega) (by have hmx : maxLen = 9223372036854775807 := rfl; omega) (by have hmx : maxLen = 9223372036854775807 := rfl; omega) (fun Y242 p242 cap242 hO242 => ?_)
        refine oq 1 [] [5, 6, 8, 20, 21, 22] [(9, .slice p242 (0 + x212.nn) cap242)] ([]) (fun _ => by kernel_rfl) al0 ?_
        refine ops_nil ?_
        refine done_seq ?_
        refine at_seq ?_
        refine at_ops ?_
        refine oq 4 [(0, .go (owns 2 0 1)), (2, .go (owns 0 0 1))] [5, 6, 8, 9, 20, 21, 22] [(39, .agg #[.slice q26 m26 cq26]), (41, .int .i64 x212.vcpu), (42, .slice p242 (0 + x212.nn) cap242)] ([]) (fun _ => by kernel_rfl) al0 ?_
        rcases q245 : rightB ((l.take 33)) with _ | _
        ·
          refine ops_callD (.tuple #[.bool false, .int .i64 260]) (by kernel_rfl) (by kernel_rfl) (by kernel_rfl) (fun args w => Try.call12 args w) (fun w hw => by have := poll_d q26 m26 cq26 ((l.take 33)) x212.vcpu p242 (0 + x212.nn) cap242 (([] ++ (x212.ns.take x212.nn))) w (hO26.atN (A := (_ :: _ :: _ :: _ :: Y242)) hw) hO26.len (by omega) (hO242.atN (A := [_, _, _, _]) hw) hO242.len (by omega); rw [pollV_bad q245] at this; exact this) ?_
          refine oq 5 [] [5, 6, 8, 9, 20, 21, 22] [(10, .bool false), (11, .int .i64 260)] ([]) (fun _ => by kernel_rfl) al0 ?_
          refine ops_nil ?_
          refine done_seq ?_
          refine at_seq ?_
          refine aq [] [5, 6, 8, 9, 10, 11, 20, 21, 22] [(12, .bool false), (13, .int .i64 260)] ([]) (fun _ => by kernel_rfl) al0 ?_
          refine done_seq ?_
          refine at_seq ?_
          refine at_seq ?_
          refine at_ops ?_
          refine oq 1 [(0, .go (owns 1 0 1))] [5, 6, 8, 9, 10, 11, 12, 13, 20, 21, 22] [(46, .agg #[.slice q66 m66 cq66])] ([]) (fun _ => by kernel_rfl) al0 ?_
          refine ops_callD (.bool false) (by kernel_rfl) (by kernel_rfl) (by kernel_rfl) (fun args w => Try.call13 args w) (fun w hw => by have := rright_d q66 m66 cq66 ((l.take 33)) w (hO66.at ((hw.tailN 4).sub ((List.sublist_append_right Y26 _).trans (List.sublist_append_right Y242 _)))) hO66.len (by omega); rw [q245] at this; exact this) ?_
          refine ops_nil ?_
          refine done_seq ?_
          refine at_false (by kernel_rfl) ?_
          refine at_skip ?_
          refine done_seq ?_
          refine at_seq ?_
          refine aq [(2, .eqs false)] [5, 6, 20, 21, 22] [(63, .bool false)] ([EqRun Try.prog .neq 4 (.tmp 56) (.tmp 57) (.bool false) (.bool false) false]) (fun _ => by kernel_rfl) (al1 (bool_ne false false)) ?_
          refine done_seq ?_
          refine at_false (by kernel_rfl) ?_
          refine at_skip ?_
          refine done_block ?_
          refine done_seq ?_
          refine aq [(0, .fit)] [5, 6, 20, 21] [(22, .int .i64 ((j + 1 : Nat)))] ([Fit .i64 ((j + 1 : Nat))]) (fun _ => by kernel_rfl) (al1 (fit64 (by omega) (by omega))) ?_
          refine Done.drop (L' := bx (γ106 0) (#[.slice q66 m66 cq66]) 24 :: bx (γ86 0) (#[.slice q26 m26 cq26]) 24 :: bx (γ1 0) (#[.slice p n cap]) 24 :: (Y26 ++ (Y66 ++ []))) ?_ (List.Sublist.cons _ (List.Sublist.cons_cons _ (List.Sublist.cons_cons _ (List.Sublist.cons_cons _ (List.sublist_append_right _ _)))))
          exact done_round [5, 6, 20, 21, 22] (j + 1) (by kernel_rfl) rfl (by omega) (by first | omega | (simp only; omega))
        ·
          refine ops_callD (.tuple #[.bool ((pollV ((l.take 33)) x212.vcpu (([] ++ (x212.ns.take x212.nn)))).1), .int .i64 ((pollV ((l.take 33)) x212.vcpu (([] ++ (x212.ns.take x212.nn)))).2)]) (by kernel_rfl) (by kernel_rfl) (by kernel_rfl) (fun args w => Try.call12 args w) (fun w hw => by have := poll_d q26 m26 cq26 ((l.take 33)) x212.vcpu p242 (0 + x212.nn) cap242 (([] ++ (x212.ns.take x212.nn))) w (hO26.atN (A := (_ :: _ :: _ :: _ :: Y242)) hw) hO26.len (by omega) (hO242.atN (A := [_, _, _, _]) hw) hO242.len (by omega); exact this) ?_
          refine oq 5 [] [5, 6, 8, 9, 20, 21, 22] [(10, .bool ((pollV ((l.take 33)) x212.vcpu (([] ++ (x212.ns.take x212.nn)))).1)), (11, .int .i64 ((pollV ((l.take 33)) x212.vcpu (([] ++ (x212.ns.take x212.nn)))).2))] ([]) (fun _ => by kernel_rfl) al0 ?_
          refine ops_nil ?_
          refine done_seq ?_
          refine at_seq ?_
          refine aq [] [5, 6, 8, 9, 10, 11, 20, 21, 22] [(12, .bool false), (13, .int .i64 260)] ([]) (fun _ => by kernel_rfl) al0 ?_
          refine done_seq ?_
          refine at_seq ?_
          refine at_seq ?_
          refine at_ops ?_
          refine oq 1 [(0, .go (owns 1 0 1))] [5, 6, 8, 9, 10, 11, 12, 13, 20, 21, 22] [(46, .agg #[.slice q66 m66 cq66])] ([]) (fun _ => by kernel_rfl) al0 ?_
          refine ops_callD (.bool true) (by kernel_rfl) (by kernel_rfl) (by kernel_rfl) (fun args w => Try.call13 args w) (fun w hw => by have := rright_d q66 m66 cq66 ((l.take 33)) w (hO66.at ((hw.tailN 4).sub ((List.sublist_append_right Y26 _).trans (List.sublist_append_right Y242 _)))) hO66.len (by omega); rw [q245] at this; exact this) ?_
          refine ops_nil ?_
          refine done_seq ?_
          refine at_true (by kernel_rfl) ?_
          refine at_ops ?_
          refine oq 4 [(0, .go (owns 1 0 1)), (2, .go (owns 0 0 1))] [5, 6, 10, 11, 20, 21, 22] [(49, .agg #[.slice q66 m66 cq66]), (51, .int .i64 x212.vcpu), (52, .slice p242 (0 + x212.nn) cap242)] ([]) (fun _ => by kernel_rfl) al0 ?_
          refine ops_callD (.tuple #[.bool ((pollV ((l.take 33)) x212.vcpu (([] ++ (x212.ns.take x212.nn)))).1), .int .i64 ((pollV ((l.take 33)) x212.vcpu (([] ++ (x212.ns.take x212.nn)))).2)]) (by kernel_rfl) (by kernel_rfl) (by kernel_rfl) (fun args w => Try.call14 args w) (fun w hw => by have := rpoll_d q66 m66 cq66 ((l.take 33)) x212.vcpu p242 (0 + x212.nn) cap242 (([] ++ (x212.ns.take x212.nn))) w (hO66.at ((hw.tailN 4).sub ((List.sublist_append_right Y26 _).trans (List.sublist_append_right Y242 _)))) hO66.len (by omega) (hO242.atN (A := [_, _, _, _]) hw) hO242.len (by omega); rw [poll_eq q245] at this; exact this) ?_
          refine oq 5 [] [5, 6, 10, 11, 20, 21, 22] [(12, .bool ((pollV ((l.take 33)) x212.vcpu (([] ++ (x212.ns.take x212.nn)))).1)), (13, .int .i64 ((pollV ((l.take 33)) x212.vcpu (([] ++ (x212.ns.take x212.nn)))).2))] ([]) (fun _ => by kernel_rfl) al0 ?_
          refine ops_nil ?_
          refine done_seq ?_
          refine at_seq ?_
          refine aq [(2, .eqs false), (6, .no)] [5, 6, 20, 21, 22] [(63, .bool false)] ([EqRun Try.prog .neq 4 (.tmp 56) (.tmp 57) (.bool ((pollV ((l.take 33)) x212.vcpu (([] ++ (x212.ns.take x212.nn)))).1)) (.bool ((pollV ((l.take 33)) x212.vcpu (([] ++ (x212.ns.take x212.nn)))).1)) false] ++ ([¬ (((pollV ((l.take 33)) x212.vcpu (([] ++ (x212.ns.take x212.nn)))).2 : Int) ≠ ((pollV ((l.take 33)) x212.vcpu (([] ++ (x212.ns.take x212.nn)))).2 : Int))])) (fun _ => by kernel_rfl) (alA (al1 (bool_same _)) (al1 ((fun h => h rfl)))) ?_
          refine done_seq ?_
          refine at_false (by kernel_rfl) ?_
          refine at_skip ?_
          refine done_block ?_
          refine done_seq ?_
          refine aq [(0, .fit)] [5, 6, 20, 21] [(22, .int .i64 ((j + 1 : Nat)))] ([Fit .i64 ((j + 1 : Nat))]) (fun _ => by kernel_rfl) (al1 (fit64 (by omega) (by omega))) ?_
          refine Done.drop (L' := bx (γ106 0) (#[.slice q66 m66 cq66]) 24 :: bx (γ86 0) (#[.slice q26 m26 cq26]) 24 :: bx (γ1 0) (#[.slice p n cap]) 24 :: (Y26 ++ (Y66 ++ []))) ?_ (List.Sublist.cons _ (List.Sublist.cons_cons _ (List.Sublist.cons_cons _ (List.Sublist.cons_cons _ (List.sublist_append_right _ _)))))
          exact done_round [5, 6, 20, 21, 22] (j + 1) (by kernel_rfl) rfl (by omega) (by first | omega | (simp only; omega))
  ·
    refine aq [(0, .no)] [5, 6, 20, 21, 22] [(23, .bool false)] ([¬ (((j : Nat) : Int) < ((m : Nat) : Int))]) (fun _ => by kernel_rfl) (al1 q207) ?_
    refine done_seq ?_
    refine at_seq ?_
    refine at_false (by kernel_rfl) ?_
    refine at_leave _ (by rfl) ?_
    refine done_seq ?_
    refine at_seq ?_
    refine at_ops ?_
    refine oq 2 [(0, .go (owns 1 0 1)), (1, .go (owns 0 0 1))] [] [(65, .agg #[.slice q26 m26 cq26]), (66, .agg #[.slice q66 m66 cq66])] ([]) (fun _ => by kernel_rfl) al0 ?_
    refine ops_callD (.bool true) (by kernel_rfl) (by kernel_rfl) (by kernel_rfl) (fun args w => Try.call15 args w) (fun w hw => by have := rsame_d q26 m26 cq26 ((l.take 33)) q66 m66 cq66 ((l.take 33)) w (hO26.atN (A := [_, _, _]) hw) hO26.len (by omega) (hO66.atN (A := (_ :: _ :: _ :: Y26)) hw) hO66.len (by omega); simpa using this) ?_
    refine oq 1 [] [] [(4, .bool true)] ([]) (fun _ => by kernel_rfl) al0 ?_
    refine ops_nil ?_
    refine done_seq ?_
    refine at_return ([]) (.bool true) [] (by kernel_rfl) (by kernel_rfl) al0 ?_
    exact fun w' hw => ⟨rfl, hw.below⟩
end Go.Proofs.Ytfhlmijdokfdpaa
