/- Texts of this proof, one behind the other. -/
import Derived.Test.YtnoefldpkfpglaaZd
import Derived.Test.YtnoefldpkfpglaaZb
import Derived.Test.YtnoefldpkfpglaaZe
import Derived.ProofKit
import Derived.Carry
import Derived.Deep.Slices
import Derived.Lib.SmallJoins
import Derived.Test.YtnoefldpkfpglaaProg
/-! Domains: the reference, weights. -/
namespace Go.Proofs.Ytnoefldpkfpglaa
open Go Go.RowKit

set_option maxRecDepth 100000 in
theorem rweights_d (p : Option Addr) (n cap : Nat) (ds : List Dom) (q : Option Addr) (m capv : Nat) (vs : List Vcp) (k : Int) (w : World)
 (hds : Sv w p ds) (hn : n = ds.length) (hb : n ≤ 1000)
 (hvs : Sv w q vs) (hm : m = vs.length) (hmb : m ≤ 1000)
 (hgd : guestsB ds vs = true)
 : Calls Try.prog 38 #[.agg #[.slice p n cap, .slice q m capv], .int .i64 k] w fun e w' => e = .returned (.int .i64 (wgtV ds vs k)) ∧ Below w.heap.size w w' := by
 refine enter (Hs.start w) Try.func38 rfl Try.ntmps38 rfl (sq_ (ma0 [] [1] (fun γ1 => [(2, .pointer (some ⟨γ1 0, 0, none⟩))]) (fun γ1 L => bx (γ1 0) (#[.slice p n cap, .slice q m capv]) 25 :: L) (fun γ1 => ds_ (sq_ (qa0 [] [1, 2] [(5, .int .i64 0)] (ds_ (sq_ (sq_ (qa0 [] [1, 2, 5] [(6, .int .i64 0)] (ds_ (at_block (at_loop (α := Nat × Int) [1, 2, 5, 6] (fun ⟨j, c⟩ => [(1, .int .i64 k), (2, .pointer (some ⟨γ1 0, 0, none⟩)), (5, .int .i64 c), (6, .int .i64 ((j : Nat)))]) (fun ⟨j, c⟩ => [bx (γ1 0) (#[.slice p n cap, .slice q m capv]) 25]) (fun ⟨j, c⟩ => j ≤ n ∧ c = wgtV (ds.take j) vs k ∧ 0 ≤ c ∧ c ≤ 65535 * j) (fun ⟨j, c⟩ => n - j) (0, 0) (by kernel_rfl) rfl ⟨Nat.zero_le _, wgt_zero.symm, by omega, by omega⟩ ?_))))))))))))
 rintro ⟨j, c⟩
 rintro ⟨hj, hc, h0, h1⟩
 refine sq_ (sq_ ?_)
 by_cases q5 : ((j : Nat) : Int) < ((n : Nat) : Int)
 ·
  refine qa [(2, .go (owns 0 0 1)), (4, .yes)] [1, 2, 5, 6] [(11, .bool true)] ([((j : Nat) : Int) < ((n : Nat) : Int)]) (al1 q5) (ds_ (t_ (at_skip (ds_ (sq_ (at_block (sq_ ?_)))))))
  obtain ⟨x7, hx7⟩ := get_some (l := ds) (m := j) (by omega)
  by_cases q8 : (x7.pool : Int) = (k : Int)
  ·
   by_cases q9 : ((cntV vs x7.id : Nat) : Int) > (0 : Int)
   ·
    obtain ⟨b11, o11, rfl⟩ := hds.pos (i := j) (by omega)
    refine at_any (by kernel_rfl) ?_
    refine tk (m := 17) [0, 2, 6] [] [1, 2, 5, 6] [(14, .pointer (some ⟨γ1 0, 0, none⟩)), (16, .int .i64 ((j : Nat))), (20, .int .i64 k)] ([]) #[true, false, true, false, false, false, true, false, false, false, false, false, false, false, false, false, false, false, false, false] al0 ?_
    refine any_cutX (V := (List Ob) × (Nat) × (Option Addr)) (fun ⟨Y335, cq335, q335⟩ => SlO 3 Y335 q335 (cntV vs x7.id) cq335 (ofV vs x7.id)) 0 #[true, true, true, true, true, true, true, true, true, true, true, true, true, true, true, true, true, true, true, true] (fun ⟨Y335, cq335, q335⟩ => [(1, .int .i64 k), (2, .pointer (some ⟨γ1 0, 0, none⟩)), (5, .int .i64 c), (6, .int .i64 ((j : Nat))), (33, .bool true)]) (fun ⟨Y335, cq335, q335⟩ => bx (γ1 0) (#[.slice (some ⟨b11, o11, none⟩) n cap, .slice q m capv]) 25 :: (Y335 ++ [])) ?_ (fun hmx8 => ?_)
    rotate_left
    ·
     refine any_cutX (V := Unit) (fun _ => True) 4 #[true, true, true, true, true, true, true, true, true, true, true, true, true, true, true, true, false, false, false, false] (fun _ => [(1, .int .i64 k), (2, .pointer (some ⟨γ1 0, 0, none⟩)), (5, .int .i64 c), (6, .int .i64 ((j : Nat))), (22, .bool true), (23, .agg #[.slice (some ⟨b11, o11, none⟩) n cap, .slice q m capv]), (29, .int .i64 x7.id)]) (fun _ => [bx (γ1 0) (#[.slice (some ⟨b11, o11, none⟩) n cap, .slice q m capv]) 25]) ?_ (fun hmx7 => ?_)
     ·
      rintro _ _
      refine a1 16 rfl ?_
      refine cP (fun v L' => ∃ q_ c_ Y_, v = .slice q_ (cntV vs x7.id) c_ ∧ L' = List.take 1 ([bx (γ1 0) (#[.slice (some ⟨b11, o11, none⟩) n cap, .slice q m capv]) 25]) ++ (Y_ ++ List.drop 1 ([bx (γ1 0) (#[.slice (some ⟨b11, o11, none⟩) n cap, .slice q m capv]) 25])) ∧ SlO 3 Y_ q_ (cntV vs x7.id) c_ (ofV vs x7.id)) Try.call20 (fun w hw => (rof_d (some ⟨b11, o11, none⟩) n cap ds q m capv vs x7.id w (hds.kept hw.below) hn (by omega) (hvs.kept hw.below) hm (by omega)).mono fun e w' ⟨q_, c_, Y_, he, hO, hb, hY⟩ => ⟨_, _, he, ⟨q_, c_, Y_, rfl, rfl, hO⟩, hw.join hb hY 1⟩) ?_
      rintro v335 L335 ⟨q335, cq335, Y335, rfl, rfl, hO335⟩
      refine od_ ?_
      refine tk (m := 0) [17, 18, 19] [(18, .yes)] [1, 2, 5, 6] [(33, .bool true)] ([((cntV vs x7.id : Nat) : Int) > (0 : Int)]) #[true, true, true, true, true, true, true, true, true, true, true, true, true, true, true, true, true, true, true, true] (al1 q9) ?_
      exact wk (hmx8 (Y335, cq335, q335) hO335) [1, 2, 5, 6, 33] [[_], _] [0, 1] rfl rfl
     refine any_cutX (V := Unit) (fun _ => True) 5 #[true, true, true, true, true, true, true, true, true, false, true, true, true, true, true, true, false, false, false, false] (fun _ => [(1, .int .i64 k), (2, .pointer (some ⟨γ1 0, 0, none⟩)), (5, .int .i64 c), (6, .int .i64 ((j : Nat))), (22, .bool true), (29, .int .i64 x7.id)]) (fun _ => [bx (γ1 0) (#[.slice (some ⟨b11, o11, none⟩) n cap, .slice q m capv]) 25]) ?_ (fun hmx6 => ?_)
     ·
      rintro _ _
      refine a1 9 rfl ?_
      refine qo0 1 [(9, .go (owns 0 0 2))] [1, 2, 5, 6, 22, 29] [(23, .agg #[.slice (some ⟨b11, o11, none⟩) n cap, .slice q m capv])] ?_
      refine od_ ?_
      exact wk (hmx7 () trivial) [1, 2, 5, 6, 22, 23, 29] [[_]] [0] rfl rfl
     refine any_cutX (V := Unit) (fun _ => True) 5 #[true, true, true, true, true, true, true, true, true, true, true, true, true, true, true, false, false, false, false, false] (fun _ => [(1, .int .i64 k), (2, .pointer (some ⟨γ1 0, 0, none⟩)), (5, .int .i64 c), (6, .int .i64 ((j : Nat))), (22, .bool true), (23, .agg #[.slice (some ⟨b11, o11, none⟩) n cap, .slice q m capv]), (28, .pointer (some ⟨b11, o11 + j * 4, none⟩))]) (fun _ => [bx (γ1 0) (#[.slice (some ⟨b11, o11, none⟩) n cap, .slice q m capv]) 25]) ?_ (fun hmx5 => ?_)
     ·
      rintro _ _
      refine a1 15 rfl ?_
      refine qo 1 [(15, .go (outs b11 (o11 + j * 4) [.int .i64 x7.id]))] [1, 2, 5, 6, 22, 23] [(29, .int .i64 x7.id)] (cellsP w b11 (o11 + j * 4) [.int .i64 x7.id]) (rd_pre (hds.get hx7) _ rfl) ?_
      refine od_ ?_
      exact wk (hmx7 () trivial) [1, 2, 5, 6, 22, 23, 29] [[_]] [0] rfl rfl
     refine any_cutX (V := Unit) (fun _ => True) 6 #[true, true, true, true, true, true, true, true, true, false, true, true, true, true, true, false, false, false, false, false] (fun _ => [(1, .int .i64 k), (2, .pointer (some ⟨γ1 0, 0, none⟩)), (5, .int .i64 c), (6, .int .i64 ((j : Nat))), (22, .bool true), (28, .pointer (some ⟨b11, o11 + j * 4, none⟩))]) (fun _ => [bx (γ1 0) (#[.slice (some ⟨b11, o11, none⟩) n cap, .slice q m capv]) 25]) ?_ (fun hmx4 => ?_)
     ·
      rintro _ _
      refine any_fork [9, 15] (by kernel_rfl) (by simp) (each_cons _ rfl ?_ (each_cons _ rfl ?_ (each_nil)))
      ·
       refine qo0 1 [(9, .go (owns 0 0 2))] [1, 2, 5, 6, 22, 28] [(23, .agg #[.slice (some ⟨b11, o11, none⟩) n cap, .slice q m capv])] ?_
       refine od_ ?_
       exact wk (hmx5 () trivial) [1, 2, 5, 6, 22, 23, 28] [[_]] [0] rfl rfl
      ·
       refine qo 1 [(15, .go (outs b11 (o11 + j * 4) [.int .i64 x7.id]))] [1, 2, 5, 6, 22] [(29, .int .i64 x7.id)] (cellsP w b11 (o11 + j * 4) [.int .i64 x7.id]) (rd_pre (hds.get hx7) _ rfl) ?_
       refine od_ ?_
       exact wk (hmx6 () trivial) [1, 2, 5, 6, 22, 29] [[_]] [0] rfl rfl
     refine any_cutX (V := Unit) (fun _ => True) 8 #[true, true, true, true, true, true, true, true, true, true, true, false, true, false, false, false, false, false, false, false] (fun _ => [(1, .int .i64 k), (2, .pointer (some ⟨γ1 0, 0, none⟩)), (5, .int .i64 c), (6, .int .i64 ((j : Nat))), (22, .bool true), (23, .agg #[.slice (some ⟨b11, o11, none⟩) n cap, .slice q m capv]), (24, .pointer (some ⟨γ1 0, 0, none⟩)), (26, .int .i64 ((j : Nat)))]) (fun _ => [bx (γ1 0) (#[.slice (some ⟨b11, o11, none⟩) n cap, .slice q m capv]) 25]) ?_ (fun hmx3 => ?_)
     ·
      rintro _ _
      refine a1 11 rfl ?_
      refine qo0 1 [(11, .go (owns 0 0 1))] [1, 2, 5, 6, 22, 23, 26] [(25, .slice (some ⟨b11, o11, none⟩) n cap)] ?_
      refine od_ ?_
      refine tk (m := 5) [13, 14] [(13, .at b11 o11 j)] [1, 2, 5, 6, 22, 23] [(28, .pointer (some ⟨b11, o11 + j * 4, none⟩))] ([(some ⟨b11, o11, none⟩ : Option Addr) = some ⟨b11, o11, none⟩, ((j : Nat)) = ((j : Nat) : Int), j < n]) #[true, true, true, true, true, true, true, true, true, true, true, true, true, true, true, false, false, false, false, false] (al2 rfl (al2 rfl (al1 (by omega)))) ?_
      exact wk (hmx5 () trivial) [1, 2, 5, 6, 22, 23, 28] [[_]] [0] rfl rfl
     refine any_cutX (V := Unit) (fun _ => True) 9 #[true, true, true, true, true, true, true, true, true, false, true, false, true, false, false, false, false, false, false, false] (fun _ => [(1, .int .i64 k), (2, .pointer (some ⟨γ1 0, 0, none⟩)), (5, .int .i64 c), (6, .int .i64 ((j : Nat))), (22, .bool true), (24, .pointer (some ⟨γ1 0, 0, none⟩)), (26, .int .i64 ((j : Nat)))]) (fun _ => [bx (γ1 0) (#[.slice (some ⟨b11, o11, none⟩) n cap, .slice q m capv]) 25]) ?_ (fun hmx2 => ?_)
     ·
      rintro _ _
      refine any_fork [9, 11] (by kernel_rfl) (by simp) (each_cons _ rfl ?_ (each_cons _ rfl ?_ (each_nil)))
      ·
       refine qo0 1 [(9, .go (owns 0 0 2))] [1, 2, 5, 6, 22, 24, 26] [(23, .agg #[.slice (some ⟨b11, o11, none⟩) n cap, .slice q m capv])] ?_
       refine od_ ?_
       exact wk (hmx3 () trivial) [1, 2, 5, 6, 22, 23, 24, 26] [[_]] [0] rfl rfl
      ·
       refine qo0 1 [(11, .go (owns 0 0 1))] [1, 2, 5, 6, 22, 26] [(25, .slice (some ⟨b11, o11, none⟩) n cap)] ?_
       refine od_ ?_
       refine tk (m := 6) [13, 14] [(13, .at b11 o11 j)] [1, 2, 5, 6, 22] [(28, .pointer (some ⟨b11, o11 + j * 4, none⟩))] ([(some ⟨b11, o11, none⟩ : Option Addr) = some ⟨b11, o11, none⟩, ((j : Nat)) = ((j : Nat) : Int), j < n]) #[true, true, true, true, true, true, true, true, true, false, true, true, true, true, true, false, false, false, false, false] (al2 rfl (al2 rfl (al1 (by omega)))) ?_
       exact wk (hmx4 () trivial) [1, 2, 5, 6, 22, 28] [[_]] [0] rfl rfl
     refine any_cutX (V := Unit) (fun _ => True) 14 #[true, true, true, true, true, false, true, false, false, false, false, false, false, false, false, false, false, false, false, false] (fun _ => [(1, .int .i64 k), (2, .pointer (some ⟨γ1 0, 0, none⟩)), (5, .int .i64 c), (6, .int .i64 ((j : Nat))), (18, .pointer (some ⟨b11, o11 + j * 4 + 3, none⟩)), (20, .int .i64 k)]) (fun _ => [bx (γ1 0) (#[.slice (some ⟨b11, o11, none⟩) n cap, .slice q m capv]) 25]) ?_ (fun hmx1 => ?_)
     ·
      rintro _ _
      refine a1 5 rfl ?_
      refine qo 1 [(5, .go (outs b11 (o11 + j * 4 + 3) [.int .i64 x7.pool]))] [1, 2, 5, 6, 20] [(19, .int .i64 x7.pool)] (cellsP w b11 (o11 + j * 4 + 3) [.int .i64 x7.pool]) (rd_part (hds.get hx7) 3 _ rfl) ?_
      refine od_ ?_
      refine tk (m := 9) [7, 8, 10, 12] [(7, .yes)] [1, 2, 5, 6] [(22, .bool true), (24, .pointer (some ⟨γ1 0, 0, none⟩)), (26, .int .i64 ((j : Nat)))] ([(x7.pool : Int) = (k : Int)]) #[true, true, true, true, true, true, true, true, true, false, true, false, true, false, false, false, false, false, false, false] (al1 q8) ?_
      exact wk (hmx2 () trivial) [1, 2, 5, 6, 22, 24, 26] [[_]] [0] rfl rfl
     refine a1 1 rfl ?_
     refine qo0 1 [(1, .go (owns 0 0 1))] [1, 2, 5, 6, 16, 20] [(15, .slice (some ⟨b11, o11, none⟩) n cap)] ?_
     refine od_ ?_
     refine tk (m := 14) [3, 4] [(3, .at b11 o11 j)] [1, 2, 5, 6, 20] [(18, .pointer (some ⟨b11, o11 + j * 4 + 3, none⟩))] ([(some ⟨b11, o11, none⟩ : Option Addr) = some ⟨b11, o11, none⟩, ((j : Nat)) = ((j : Nat) : Int), j < n]) #[true, true, true, true, true, false, true, false, false, false, false, false, false, false, false, false, false, false, false, false] (al2 rfl (al2 rfl (al1 (by omega)))) ?_
     exact wk (hmx1 () trivial) [1, 2, 5, 6, 18, 20] [[_]] [0] rfl rfl
    rintro ⟨Y335, cq335, q335⟩ hO335
    refine any_nil (by kernel_rfl) ?_
    refine ds_ (t_ ?_)
    have hmb' := (((guests_iff.1 hgd).dm x7 (List.mem_of_getElem? hx7)).1)
    unfold mayB at hmb'
    simp only [decide_eq_true_eq] at hmb'
    refine qa [(2, .go (owns 0 0 1)), (4, .at b11 o11 j), (6, .go (outs b11 (o11 + j * 4 + 1) [.int .i64 x7.weight])), (7, .fit)] [1, 2, 6] [(5, .int .i64 (c + x7.weight))] ([(some ⟨b11, o11, none⟩ : Option Addr) = some ⟨b11, o11, none⟩, ((j : Nat)) = ((j : Nat) : Int), j < n] ++ (cellsP w b11 (o11 + j * 4 + 1) [.int .i64 x7.weight] ++ ([Fit .i64 (c + x7.weight)]))) (alA (al2 rfl (al2 rfl (al1 (by omega)))) (alA (rd_part (hds.get hx7) 1 _ rfl) (al1 (fit64 (by omega) (by omega))))) (done_block (ds_ (qa [(1, .fit)] [1, 2, 5] [(6, .int .i64 ((j + 1 : Nat)))] ([Fit .i64 ((j + 1 : Nat))]) (al1 (fit64 (by omega) (by omega))) (Done.drop (L' := [bx (γ1 0) (#[.slice (some ⟨b11, o11, none⟩) n cap, .slice q m capv]) 25]) ?_ (List.Sublist.cons_cons _ (List.sublist_append_right _ _))))))
    have hwb := wF_bnd (vs := vs) (k := k) (((guests_iff.1 hgd).dm x7 (List.mem_of_getElem? hx7)).1)
    rw [wF_yes q8 q9] at hwb
    exact dr [1, 2, 5, 6] (j + 1, c + x7.weight) ⟨by omega, by rw [wgt_on hx7, wF_yes q8 q9, ← hc], by omega, by omega⟩
   ·
    obtain ⟨b467, o467, rfl⟩ := hds.pos (i := j) (by omega)
    refine at_any (by kernel_rfl) ?_
    refine tk (m := 17) [0, 2, 6] [] [1, 2, 5, 6] [(14, .pointer (some ⟨γ1 0, 0, none⟩)), (16, .int .i64 ((j : Nat))), (20, .int .i64 k)] ([]) #[true, false, true, false, false, false, true, false, false, false, false, false, false, false, false, false, false, false, false, false] al0 ?_
    refine any_cutX (V := (List Ob) × (Nat) × (Option Addr)) (fun ⟨Y791, cq791, q791⟩ => SlO 3 Y791 q791 (cntV vs x7.id) cq791 (ofV vs x7.id)) 0 #[true, true, true, true, true, true, true, true, true, true, true, true, true, true, true, true, true, true, true, true] (fun ⟨Y791, cq791, q791⟩ => [(1, .int .i64 k), (2, .pointer (some ⟨γ1 0, 0, none⟩)), (5, .int .i64 c), (6, .int .i64 ((j : Nat))), (33, .bool false)]) (fun ⟨Y791, cq791, q791⟩ => bx (γ1 0) (#[.slice (some ⟨b467, o467, none⟩) n cap, .slice q m capv]) 25 :: (Y791 ++ [])) ?_ (fun hmx8 => ?_)
    rotate_left
    ·
     refine any_cutX (V := Unit) (fun _ => True) 4 #[true, true, true, true, true, true, true, true, true, true, true, true, true, true, true, true, false, false, false, false] (fun _ => [(1, .int .i64 k), (2, .pointer (some ⟨γ1 0, 0, none⟩)), (5, .int .i64 c), (6, .int .i64 ((j : Nat))), (22, .bool true), (23, .agg #[.slice (some ⟨b467, o467, none⟩) n cap, .slice q m capv]), (29, .int .i64 x7.id)]) (fun _ => [bx (γ1 0) (#[.slice (some ⟨b467, o467, none⟩) n cap, .slice q m capv]) 25]) ?_ (fun hmx7 => ?_)
     ·
      rintro _ _
      refine a1 16 rfl ?_
      refine cP (fun v L' => ∃ q_ c_ Y_, v = .slice q_ (cntV vs x7.id) c_ ∧ L' = List.take 1 ([bx (γ1 0) (#[.slice (some ⟨b467, o467, none⟩) n cap, .slice q m capv]) 25]) ++ (Y_ ++ List.drop 1 ([bx (γ1 0) (#[.slice (some ⟨b467, o467, none⟩) n cap, .slice q m capv]) 25])) ∧ SlO 3 Y_ q_ (cntV vs x7.id) c_ (ofV vs x7.id)) Try.call20 (fun w hw => (rof_d (some ⟨b467, o467, none⟩) n cap ds q m capv vs x7.id w (hds.kept hw.below) hn (by omega) (hvs.kept hw.below) hm (by omega)).mono fun e w' ⟨q_, c_, Y_, he, hO, hb, hY⟩ => ⟨_, _, he, ⟨q_, c_, Y_, rfl, rfl, hO⟩, hw.join hb hY 1⟩) ?_
      rintro v791 L791 ⟨q791, cq791, Y791, rfl, rfl, hO791⟩
      refine od_ ?_
      refine tk (m := 0) [17, 18, 19] [(18, .no)] [1, 2, 5, 6] [(33, .bool false)] ([¬ (((cntV vs x7.id : Nat) : Int) > (0 : Int))]) #[true, true, true, true, true, true, true, true, true, true, true, true, true, true, true, true, true, true, true, true] (al1 q9) ?_
      exact wk (hmx8 (Y791, cq791, q791) hO791) [1, 2, 5, 6, 33] [[_], _] [0, 1] rfl rfl
     refine any_cutX (V := Unit) (fun _ => True) 5 #[true, true, true, true, true, true, true, true, true, false, true, true, true, true, true, true, false, false, false, false] (fun _ => [(1, .int .i64 k), (2, .pointer (some ⟨γ1 0, 0, none⟩)), (5, .int .i64 c), (6, .int .i64 ((j : Nat))), (22, .bool true), (29, .int .i64 x7.id)]) (fun _ => [bx (γ1 0) (#[.slice (some ⟨b467, o467, none⟩) n cap, .slice q m capv]) 25]) ?_ (fun hmx6 => ?_)
     ·
      rintro _ _
      refine a1 9 rfl ?_
      refine qo0 1 [(9, .go (owns 0 0 2))] [1, 2, 5, 6, 22, 29] [(23, .agg #[.slice (some ⟨b467, o467, none⟩) n cap, .slice q m capv])] ?_
      refine od_ ?_
      exact wk (hmx7 () trivial) [1, 2, 5, 6, 22, 23, 29] [[_]] [0] rfl rfl
     refine any_cutX (V := Unit) (fun _ => True) 5 #[true, true, true, true, true, true, true, true, true, true, true, true, true, true, true, false, false, false, false, false] (fun _ => [(1, .int .i64 k), (2, .pointer (some ⟨γ1 0, 0, none⟩)), (5, .int .i64 c), (6, .int .i64 ((j : Nat))), (22, .bool true), (23, .agg #[.slice (some ⟨b467, o467, none⟩) n cap, .slice q m capv]), (28, .pointer (some ⟨b467, o467 + j * 4, none⟩))]) (fun _ => [bx (γ1 0) (#[.slice (some ⟨b467, o467, none⟩) n cap, .slice q m capv]) 25]) ?_ (fun hmx5 => ?_)
     ·
      rintro _ _
      refine a1 15 rfl ?_
      refine qo 1 [(15, .go (outs b467 (o467 + j * 4) [.int .i64 x7.id]))] [1, 2, 5, 6, 22, 23] [(29, .int .i64 x7.id)] (cellsP w b467 (o467 + j * 4) [.int .i64 x7.id]) (rd_pre (hds.get hx7) _ rfl) ?_
      refine od_ ?_
      exact wk (hmx7 () trivial) [1, 2, 5, 6, 22, 23, 29] [[_]] [0] rfl rfl
     refine any_cutX (V := Unit) (fun _ => True) 6 #[true, true, true, true, true, true, true, true, true, false, true, true, true, true, true, false, false, false, false, false] (fun _ => [(1, .int .i64 k), (2, .pointer (some ⟨γ1 0, 0, none⟩)), (5, .int .i64 c), (6, .int .i64 ((j : Nat))), (22, .bool true), (28, .pointer (some ⟨b467, o467 + j * 4, none⟩))]) (fun _ => [bx (γ1 0) (#[.slice (some ⟨b467, o467, none⟩) n cap, .slice q m capv]) 25]) ?_ (fun hmx4 => ?_)
     ·
      rintro _ _
      refine any_fork [9, 15] (by kernel_rfl) (by simp) (each_cons _ rfl ?_ (each_cons _ rfl ?_ (each_nil)))
      ·
       refine qo0 1 [(9, .go (owns 0 0 2))] [1, 2, 5, 6, 22, 28] [(23, .agg #[.slice (some ⟨b467, o467, none⟩) n cap, .slice q m capv])] ?_
       refine od_ ?_
       exact wk (hmx5 () trivial) [1, 2, 5, 6, 22, 23, 28] [[_]] [0] rfl rfl
      ·
       refine qo 1 [(15, .go (outs b467 (o467 + j * 4) [.int .i64 x7.id]))] [1, 2, 5, 6, 22] [(29, .int .i64 x7.id)] (cellsP w b467 (o467 + j * 4) [.int .i64 x7.id]) (rd_pre (hds.get hx7) _ rfl) ?_
       refine od_ ?_
       exact wk (hmx6 () trivial) [1, 2, 5, 6, 22, 29] [[_]] [0] rfl rfl
     refine any_cutX (V := Unit) (fun _ => True) 8 #[true, true, true, true, true, true, true, true, true, true, true, false, true, false, false, false, false, false, false, false] (fun _ => [(1, .int .i64 k), (2, .pointer (some ⟨γ1 0, 0, none⟩)), (5, .int .i64 c), (6, .int .i64 ((j : Nat))), (22, .bool true), (23, .agg #[.slice (some ⟨b467, o467, none⟩) n cap, .slice q m capv]), (24, .pointer (some ⟨γ1 0, 0, none⟩)), (26, .int .i64 ((j : Nat)))]) (fun _ => [bx (γ1 0) (#[.slice (some ⟨b467, o467, none⟩) n cap, .slice q m capv]) 25]) ?_ (fun hmx3 => ?_)
     ·
      rintro _ _
      refine a1 11 rfl ?_
      refine qo0 1 [(11, .go (owns 0 0 1))] [1, 2, 5, 6, 22, 23, 26] [(25, .slice (some ⟨b467, o467, none⟩) n cap)] ?_
      refine od_ ?_
      refine tk (m := 5) [13, 14] [(13, .at b467 o467 j)] [1, 2, 5, 6, 22, 23] [(28, .pointer (some ⟨b467, o467 + j * 4, none⟩))] ([(some ⟨b467, o467, none⟩ : Option Addr) = some ⟨b467, o467, none⟩, ((j : Nat)) = ((j : Nat) : Int), j < n]) #[true, true, true, true, true, true, true, true, true, true, true, true, true, true, true, false, false, false, false, false] (al2 rfl (al2 rfl (al1 (by omega)))) ?_
      exact wk (hmx5 () trivial) [1, 2, 5, 6, 22, 23, 28] [[_]] [0] rfl rfl
     refine any_cutX (V := Unit) (fun _ => True) 9 #[true, true, true, true, true, true, true, true, true, false, true, false, true, false, false, false, false, false, false, false] (fun _ => [(1, .int .i64 k), (2, .pointer (some ⟨γ1 0, 0, none⟩)), (5, .int .i64 c), (6, .int .i64 ((j : Nat))), (22, .bool true), (24, .pointer (some ⟨γ1 0, 0, none⟩)), (26, .int .i64 ((j : Nat)))]) (fun _ => [bx (γ1 0) (#[.slice (some ⟨b467, o467, none⟩) n cap, .slice q m capv]) 25]) ?_ (fun hmx2 => ?_)
     ·
      rintro _ _
      refine any_fork [9, 11] (by kernel_rfl) (by simp) (each_cons _ rfl ?_ (each_cons _ rfl ?_ (each_nil)))
      ·
       refine qo0 1 [(9, .go (owns 0 0 2))] [1, 2, 5, 6, 22, 24, 26] [(23, .agg #[.slice (some ⟨b467, o467, none⟩) n cap, .slice q m capv])] ?_
       refine od_ ?_
       exact wk (hmx3 () trivial) [1, 2, 5, 6, 22, 23, 24, 26] [[_]] [0] rfl rfl
      ·
       refine qo0 1 [(11, .go (owns 0 0 1))] [1, 2, 5, 6, 22, 26] [(25, .slice (some ⟨b467, o467, none⟩) n cap)] ?_
       refine od_ ?_
       refine tk (m := 6) [13, 14] [(13, .at b467 o467 j)] [1, 2, 5, 6, 22] [(28, .pointer (some ⟨b467, o467 + j * 4, none⟩))] ([(some ⟨b467, o467, none⟩ : Option Addr) = some ⟨b467, o467, none⟩, ((j : Nat)) = ((j : Nat) : Int), j < n]) #[true, true, true, true, true, true, true, true, true, false, true, true, true, true, true, false, false, false, false, false] (al2 rfl (al2 rfl (al1 (by omega)))) ?_
       exact wk (hmx4 () trivial) [1, 2, 5, 6, 22, 28] [[_]] [0] rfl rfl
     refine any_cutX (V := Unit) (fun _ => True) 14 #[true, true, true, true, true, false, true, false, false, false, false, false, false, false, false, false, false, false, false, false] (fun _ => [(1, .int .i64 k), (2, .pointer (some ⟨γ1 0, 0, none⟩)), (5, .int .i64 c), (6, .int .i64 ((j : Nat))), (18, .pointer (some ⟨b467, o467 + j * 4 + 3, none⟩)), (20, .int .i64 k)]) (fun _ => [bx (γ1 0) (#[.slice (some ⟨b467, o467, none⟩) n cap, .slice q m capv]) 25]) ?_ (fun hmx1 => ?_)
     ·
      rintro _ _
      refine a1 5 rfl ?_
      refine qo 1 [(5, .go (outs b467 (o467 + j * 4 + 3) [.int .i64 x7.pool]))] [1, 2, 5, 6, 20] [(19, .int .i64 x7.pool)] (cellsP w b467 (o467 + j * 4 + 3) [.int .i64 x7.pool]) (rd_part (hds.get hx7) 3 _ rfl) ?_
      refine od_ ?_
      refine tk (m := 9) [7, 8, 10, 12] [(7, .yes)] [1, 2, 5, 6] [(22, .bool true), (24, .pointer (some ⟨γ1 0, 0, none⟩)), (26, .int .i64 ((j : Nat)))] ([(x7.pool : Int) = (k : Int)]) #[true, true, true, true, true, true, true, true, true, false, true, false, true, false, false, false, false, false, false, false] (al1 q8) ?_
      exact wk (hmx2 () trivial) [1, 2, 5, 6, 22, 24, 26] [[_]] [0] rfl rfl
     refine a1 1 rfl ?_
     refine qo0 1 [(1, .go (owns 0 0 1))] [1, 2, 5, 6, 16, 20] [(15, .slice (some ⟨b467, o467, none⟩) n cap)] ?_
     refine od_ ?_
     refine tk (m := 14) [3, 4] [(3, .at b467 o467 j)] [1, 2, 5, 6, 20] [(18, .pointer (some ⟨b467, o467 + j * 4 + 3, none⟩))] ([(some ⟨b467, o467, none⟩ : Option Addr) = some ⟨b467, o467, none⟩, ((j : Nat)) = ((j : Nat) : Int), j < n]) #[true, true, true, true, true, false, true, false, false, false, false, false, false, false, false, false, false, false, false, false] (al2 rfl (al2 rfl (al1 (by omega)))) ?_
     exact wk (hmx1 () trivial) [1, 2, 5, 6, 18, 20] [[_]] [0] rfl rfl
    rintro ⟨Y791, cq791, q791⟩ hO791
    refine any_nil (by kernel_rfl) ?_
    refine ds_ (f_ (at_skip (done_block (ds_ (qa [(1, .fit)] [1, 2, 5] [(6, .int .i64 ((j + 1 : Nat)))] ([Fit .i64 ((j + 1 : Nat))]) (al1 (fit64 (by omega) (by omega))) (Done.drop (L' := [bx (γ1 0) (#[.slice (some ⟨b467, o467, none⟩) n cap, .slice q m capv]) 25]) ?_ (List.Sublist.cons_cons _ (List.sublist_append_right _ _))))))))
    have hwb := wF_bnd (vs := vs) (k := k) (((guests_iff.1 hgd).dm x7 (List.mem_of_getElem? hx7)).1)
    rw [wF_none q9] at hwb
    exact dr [1, 2, 5, 6] (j + 1, c) ⟨by omega, by rw [wgt_on hx7, wF_none q9, ← hc]; omega, by omega, by omega⟩
  ·
   obtain ⟨b922, o922, rfl⟩ := hds.pos (i := j) (by omega)
   refine at_any (by kernel_rfl) ?_
   refine tk (m := 17) [0, 2, 6] [] [1, 2, 5, 6] [(14, .pointer (some ⟨γ1 0, 0, none⟩)), (16, .int .i64 ((j : Nat))), (20, .int .i64 k)] ([]) #[true, false, true, false, false, false, true, false, false, false, false, false, false, false, false, false, false, false, false, false] al0 ?_
   refine any_cutX (V := Unit) (fun _ => True) 0 #[true, true, true, true, true, true, true, true, true, true, true, true, true, true, true, true, true, true, true, true] (fun _ => [(1, .int .i64 k), (2, .pointer (some ⟨γ1 0, 0, none⟩)), (5, .int .i64 c), (6, .int .i64 ((j : Nat))), (33, .bool false)]) (fun _ => [bx (γ1 0) (#[.slice (some ⟨b922, o922, none⟩) n cap, .slice q m capv]) 25]) ?_ (fun hmx8 => ?_)
   rotate_left
   ·
    refine any_cutX (V := Unit) (fun _ => True) 4 #[true, true, true, true, true, true, true, true, true, true, true, true, true, true, true, true, false, false, false, false] (fun _ => [(1, .int .i64 k), (2, .pointer (some ⟨γ1 0, 0, none⟩)), (5, .int .i64 c), (6, .int .i64 ((j : Nat))), (22, .bool false), (23, undef), (29, undef)]) (fun _ => [bx (γ1 0) (#[.slice (some ⟨b922, o922, none⟩) n cap, .slice q m capv]) 25]) ?_ (fun hmx7 => ?_)
    ·
     rintro _ _
     refine a1 16 rfl ?_
     refine qo0 1 [] [1, 2, 5, 6, 22] [(30, undef)] ?_
     refine od_ ?_
     refine tk (m := 0) [17, 18, 19] [] [1, 2, 5, 6] [(33, .bool false)] ([]) #[true, true, true, true, true, true, true, true, true, true, true, true, true, true, true, true, true, true, true, true] al0 ?_
     exact wk (hmx8 () trivial) [1, 2, 5, 6, 33] [[_]] [0] rfl rfl
    refine any_cutX (V := Unit) (fun _ => True) 5 #[true, true, true, true, true, true, true, true, true, false, true, true, true, true, true, true, false, false, false, false] (fun _ => [(1, .int .i64 k), (2, .pointer (some ⟨γ1 0, 0, none⟩)), (5, .int .i64 c), (6, .int .i64 ((j : Nat))), (22, .bool false), (29, undef)]) (fun _ => [bx (γ1 0) (#[.slice (some ⟨b922, o922, none⟩) n cap, .slice q m capv]) 25]) ?_ (fun hmx6 => ?_)
    ·
     rintro _ _
     refine a1 9 rfl ?_
     refine qo0 1 [] [1, 2, 5, 6, 22, 29] [(23, undef)] ?_
     refine od_ ?_
     exact wk (hmx7 () trivial) [1, 2, 5, 6, 22, 23, 29] [[_]] [0] rfl rfl
    refine any_cutX (V := Unit) (fun _ => True) 5 #[true, true, true, true, true, true, true, true, true, true, true, true, true, true, true, false, false, false, false, false] (fun _ => [(1, .int .i64 k), (2, .pointer (some ⟨γ1 0, 0, none⟩)), (5, .int .i64 c), (6, .int .i64 ((j : Nat))), (22, .bool false), (23, undef), (28, undef)]) (fun _ => [bx (γ1 0) (#[.slice (some ⟨b922, o922, none⟩) n cap, .slice q m capv]) 25]) ?_ (fun hmx5 => ?_)
    ·
     rintro _ _
     refine a1 15 rfl ?_
     refine qo0 1 [] [1, 2, 5, 6, 22, 23] [(29, undef)] ?_
     refine od_ ?_
     exact wk (hmx7 () trivial) [1, 2, 5, 6, 22, 23, 29] [[_]] [0] rfl rfl
    refine any_cutX (V := Unit) (fun _ => True) 6 #[true, true, true, true, true, true, true, true, true, false, true, true, true, true, true, false, false, false, false, false] (fun _ => [(1, .int .i64 k), (2, .pointer (some ⟨γ1 0, 0, none⟩)), (5, .int .i64 c), (6, .int .i64 ((j : Nat))), (22, .bool false), (28, undef)]) (fun _ => [bx (γ1 0) (#[.slice (some ⟨b922, o922, none⟩) n cap, .slice q m capv]) 25]) ?_ (fun hmx4 => ?_)
    ·
     rintro _ _
     refine any_fork [9, 15] (by kernel_rfl) (by simp) (each_cons _ rfl ?_ (each_cons _ rfl ?_ (each_nil)))
     ·
      refine qo0 1 [] [1, 2, 5, 6, 22, 28] [(23, undef)] ?_
      refine od_ ?_
      exact wk (hmx5 () trivial) [1, 2, 5, 6, 22, 23, 28] [[_]] [0] rfl rfl
     ·
      refine qo0 1 [] [1, 2, 5, 6, 22] [(29, undef)] ?_
      refine od_ ?_
      exact wk (hmx6 () trivial) [1, 2, 5, 6, 22, 29] [[_]] [0] rfl rfl
    refine any_cutX (V := Unit) (fun _ => True) 8 #[true, true, true, true, true, true, true, true, true, true, true, false, true, false, false, false, false, false, false, false] (fun _ => [(1, .int .i64 k), (2, .pointer (some ⟨γ1 0, 0, none⟩)), (5, .int .i64 c), (6, .int .i64 ((j : Nat))), (22, .bool false), (23, undef), (24, undef), (26, undef)]) (fun _ => [bx (γ1 0) (#[.slice (some ⟨b922, o922, none⟩) n cap, .slice q m capv]) 25]) ?_ (fun hmx3 => ?_)
    ·
     rintro _ _
     refine a1 11 rfl ?_
     refine qo0 1 [] [1, 2, 5, 6, 22, 23, 26] [(25, undef)] ?_
     refine od_ ?_
     refine tk (m := 5) [13, 14] [] [1, 2, 5, 6, 22, 23] [(28, undef)] ([]) #[true, true, true, true, true, true, true, true, true, true, true, true, true, true, true, false, false, false, false, false] al0 ?_
     exact wk (hmx5 () trivial) [1, 2, 5, 6, 22, 23, 28] [[_]] [0] rfl rfl
    refine any_cutX (V := Unit) (fun _ => True) 9 #[true, true, true, true, true, true, true, true, true, false, true, false, true, false, false, false, false, false, false, false] (fun _ => [(1, .int .i64 k), (2, .pointer (some ⟨γ1 0, 0, none⟩)), (5, .int .i64 c), (6, .int .i64 ((j : Nat))), (22, .bool false), (24, undef), (26, undef)]) (fun _ => [bx (γ1 0) (#[.slice (some ⟨b922, o922, none⟩) n cap, .slice q m capv]) 25]) ?_ (fun hmx2 => ?_)
    ·
     rintro _ _
     refine any_fork [9, 11] (by kernel_rfl) (by simp) (each_cons _ rfl ?_ (each_cons _ rfl ?_ (each_nil)))
     ·
      refine qo0 1 [] [1, 2, 5, 6, 22, 24, 26] [(23, undef)] ?_
      refine od_ ?_
      exact wk (hmx3 () trivial) [1, 2, 5, 6, 22, 23, 24, 26] [[_]] [0] rfl rfl
     ·
      refine qo0 1 [] [1, 2, 5, 6, 22, 26] [(25, undef)] ?_
      refine od_ ?_
      refine tk (m := 6) [13, 14] [] [1, 2, 5, 6, 22] [(28, undef)] ([]) #[true, true, true, true, true, true, true, true, true, false, true, true, true, true, true, false, false, false, false, false] al0 ?_
      exact wk (hmx4 () trivial) [1, 2, 5, 6, 22, 28] [[_]] [0] rfl rfl
    refine any_cutX (V := Unit) (fun _ => True) 14 #[true, true, true, true, true, false, true, false, false, false, false, false, false, false, false, false, false, false, false, false] (fun _ => [(1, .int .i64 k), (2, .pointer (some ⟨γ1 0, 0, none⟩)), (5, .int .i64 c), (6, .int .i64 ((j : Nat))), (18, .pointer (some ⟨b922, o922 + j * 4 + 3, none⟩)), (20, .int .i64 k)]) (fun _ => [bx (γ1 0) (#[.slice (some ⟨b922, o922, none⟩) n cap, .slice q m capv]) 25]) ?_ (fun hmx1 => ?_)
    ·
     rintro _ _
     refine a1 5 rfl ?_
     refine qo 1 [(5, .go (outs b922 (o922 + j * 4 + 3) [.int .i64 x7.pool]))] [1, 2, 5, 6, 20] [(19, .int .i64 x7.pool)] (cellsP w b922 (o922 + j * 4 + 3) [.int .i64 x7.pool]) (rd_part (hds.get hx7) 3 _ rfl) ?_
     refine od_ ?_
     refine tk (m := 9) [7, 8, 10, 12] [(7, .no)] [1, 2, 5, 6] [(22, .bool false), (24, undef), (26, undef)] ([¬ ((x7.pool : Int) = (k : Int))]) #[true, true, true, true, true, true, true, true, true, false, true, false, true, false, false, false, false, false, false, false] (al1 q8) ?_
     exact wk (hmx2 () trivial) [1, 2, 5, 6, 22, 24, 26] [[_]] [0] rfl rfl
    refine a1 1 rfl ?_
    refine qo0 1 [(1, .go (owns 0 0 1))] [1, 2, 5, 6, 16, 20] [(15, .slice (some ⟨b922, o922, none⟩) n cap)] ?_
    refine od_ ?_
    refine tk (m := 14) [3, 4] [(3, .at b922 o922 j)] [1, 2, 5, 6, 20] [(18, .pointer (some ⟨b922, o922 + j * 4 + 3, none⟩))] ([(some ⟨b922, o922, none⟩ : Option Addr) = some ⟨b922, o922, none⟩, ((j : Nat)) = ((j : Nat) : Int), j < n]) #[true, true, true, true, true, false, true, false, false, false, false, false, false, false, false, false, false, false, false, false] (al2 rfl (al2 rfl (al1 (by omega)))) ?_
    exact wk (hmx1 () trivial) [1, 2, 5, 6, 18, 20] [[_]] [0] rfl rfl
   rintro _ _
   refine any_nil (by kernel_rfl) ?_
   refine ds_ (f_ (at_skip (done_block (ds_ (qa [(1, .fit)] [1, 2, 5] [(6, .int .i64 ((j + 1 : Nat)))] ([Fit .i64 ((j + 1 : Nat))]) (al1 (fit64 (by omega) (by omega))) ?_)))))
   have hwb := wF_bnd (vs := vs) (k := k) (((guests_iff.1 hgd).dm x7 (List.mem_of_getElem? hx7)).1)
   rw [wF_pool q8] at hwb
   exact dr [1, 2, 5, 6] (j + 1, c) ⟨by omega, by rw [wgt_on hx7, wF_pool q8, ← hc]; omega, by omega, by omega⟩
 ·
  refine qa [(2, .go (owns 0 0 1)), (4, .no)] [1, 2, 5, 6] [(11, .bool false)] ([¬ (((j : Nat) : Int) < ((n : Nat) : Int))]) (al1 q5) (ds_ (f_ (at_leave _ rfl (ds_ (sq_ (qa0 [] [] [(4, .int .i64 c)] (ds_ (rt ([]) (.int .i64 c) ?_))))))))
  exact fun w' hw => ⟨by rw [List.take_of_length_le (by omega)] at hc; rw [hc], hw.below⟩
end Go.Proofs.Ytnoefldpkfpglaa

/-! The statement DomainTells, walked. -/
namespace Go.Proofs.Ytnoefldpkfpglaa
open Go Go.RowKit
theorem bool_eqRun (op : BinOp) (hop : op = .eql ∨ op = .neq) (x y : Operand) (a b r : Bool) (hr : r = (if op = .eql then a == b else !(a == b))) : EqRun Try.prog op 4 x y (.bool a) (.bool b) r := by
 intro w
 subst hr
 have hg : Try.prog.eqGuardType Try.prog.depth 4 = false := by kernel_rfl
 have key : (Op.equal 4 (.bool a) (.bool b)).run Try.prog w = .ok (a == b) w := by
  unfold Op.equal
  rw [show Op.maxDepth = 9999 + 1 from rfl]
  exact run_equalIn_bool' w 9999 4 a b Try.underlying4
 have guard : (eqGuard op 4 x y (.bool a) (.bool b)).run Try.prog w = .ok () w := by
  unfold eqGuard
  rcases hop with rfl | rfl <;> simp [hg]
 rw [Sem.run_bind, guard]
 simp only [Result.andThen_ok]
 rcases hop with rfl | rfl <;> simp [binOp, Sem.run_bind, key]
theorem bool_same {x y : Operand} (a : Bool) : EqRun Try.prog .neq 4 x y (.bool a) (.bool a) false := bool_eqRun _ (.inr rfl) x y a a _ (by simp)
theorem bool_same' {x y : Operand} (a : Bool) : EqRun Try.prog .eql 4 x y (.bool a) (.bool a) true := bool_eqRun _ (.inl rfl) x y a a _ (by simp)
theorem bool_ne {x y : Operand} (a b : Bool) : EqRun Try.prog .neq 4 x y (.bool a) (.bool b) (!(a == b)) := bool_eqRun _ (.inr rfl) x y a b _ (by simp)
theorem bool_eq {x y : Operand} (a b : Bool) : EqRun Try.prog .eql 4 x y (.bool a) (.bool b) (a == b) := bool_eqRun _ (.inl rfl) x y a b _ (by simp)

set_option maxRecDepth 100000 in
theorem tells_d (p : Option Addr) (n cap : Nat) (ds : List Dom) (q : Option Addr) (m capv : Nat) (vs : List Vcp) (p2 : Option Addr) (n2 cap2 : Nat) (ds2 : List Dom) (q2 : Option Addr) (m2 capv2 : Nat) (vs2 : List Vcp) (k : Int) (w : World)
 (hds : Sv w p ds) (hn : n = ds.length)
 (hvs : Sv w q vs) (hm : m = vs.length) (hr : Wrd vs)
 (hds2 : Sv w p2 ds2) (hn2 : n2 = ds2.length)
 (hvs2 : Sv w q2 vs2) (hm2 : m2 = vs2.length)
 : Calls Try.prog 6 #[.agg #[.slice p n cap, .slice q m capv], .agg #[.slice p2 n2 cap2, .slice q2 m2 capv2], .int .i64 k] w fun e w' => e = .returned (.bool true) ∧ Below w.heap.size w w' := by
 refine enter (Hs.start w) Try.func6 rfl Try.ntmps6 rfl (sq_ (ma0 [] [2] (fun γ1 => [(3, .pointer (some ⟨γ1 0, 0, none⟩)), (4, .pointer (some ⟨γ1 1, 0, none⟩))]) (fun γ1 L => bx (γ1 1) (#[.slice p2 n2 cap2, .slice q2 m2 capv2]) 25 :: bx (γ1 0) (#[.slice p n cap, .slice q m capv]) 25 :: L) (fun γ1 => ds_ (sq_ (sq_ (ao_ (cD (.bool true) Try.call8 (fun w hw => wakes_d w) (qo0 1 [] [2, 3, 4] [(26, .bool false)] (on_ (ds_ (f_ (at_skip (ds_ (sq_ (sq_ (ao_ (qo0 1 [(0, .go (owns 1 0 2))] [2, 3, 4] [(27, .agg #[.slice p n cap, .slice q m capv])] ?_)))))))))))))))))
 rcases q5 : decide (100 < n ∨ 100 < m) with _ | _
 ·
  refine cD (.bool false) Try.call9 (fun w hw => by have := over_d p n cap ds q m capv vs w; rw [q5] at this; exact this) (qo0 2 [(3, .go (owns 0 0 2))] [2, 3, 4] [(29, .bool false), (30, .agg #[.slice p2 n2 cap2, .slice q2 m2 capv2])] ?_)
  rcases q7 : decide (100 < n2 ∨ 100 < m2) with _ | _
  ·
   refine cD (.bool false) Try.call9 (fun w hw => by have := over_d p2 n2 cap2 ds2 q2 m2 capv2 vs2 w; rw [q7] at this; exact this) (qo0 1 [] [2, 3, 4] [(32, .bool false)] (on_ (ds_ (f_ (at_skip (ds_ (sq_ ?_)))))))
   have hoq5 := of_decide_eq_false q5
   have hoq7 := of_decide_eq_false q7
   refine ao_ (qo0 1 [(0, .go (owns 1 0 2))] [2, 3, 4] [(33, .agg #[.slice p n cap, .slice q m capv])] ?_)
   rcases q10 : guestsB ds vs with _ | _
   ·
    refine cD (.bool false) Try.call24 (fun w hw => by have := rright_d p n cap ds q m capv vs w (hds.kept hw.below) hn (by omega) (hvs.kept hw.below) hm (by omega) hr; rw [q10] at this; exact this) (qo0 1 [] [2, 3, 4] [(7, .bool false)] (on_ (ds_ (sq_ (ao_ (qo0 1 [(0, .go (owns 1 0 2))] [2, 3, 4, 7] [(35, .agg #[.slice p n cap, .slice q m capv])] (cP (fun v L' => ∃ q_ c_ Y_ q2_ c2_ X_, v = .agg #[.slice q_ n c_, .slice q2_ m c2_] ∧ L' = List.take 2 ([bx (γ1 1) (#[.slice p2 n2 cap2, .slice q2 m2 capv2]) 25, bx (γ1 0) (#[.slice p n cap, .slice q m capv]) 25]) ++ (Y_ ++ (X_ ++ List.drop 2 ([bx (γ1 1) (#[.slice p2 n2 cap2, .slice q2 m2 capv2]) 25, bx (γ1 0) (#[.slice p n cap, .slice q m capv]) 25]))) ∧ SlO 32 Y_ q_ n c_ ds ∧ SlO 43 X_ q2_ m c2_ vs) Try.call15 (fun w hw => (copied_d p n cap ds q m capv vs w (hds.kept hw.below) hn (by omega) (hvs.kept hw.below) hm (by omega)).mono fun e w' ⟨q_, c_, Y_, q2_, c2_, X_, he, h1, h2, hb, hY⟩ => ⟨_, _, he, ⟨q_, c_, Y_, q2_, c2_, X_, rfl, rfl, h1, h2⟩, hw.join2 hb hY 2⟩) ?_)))))))
    rintro v13 L13 ⟨q13, c13, Y13, p13, d13, Yx13, rfl, rfl, hO13, hP13⟩
    refine cD (.int .i64 190) Try.call10 (fun w hw => by have := gcheck_d q13 n c13 ds p13 m d13 vs w (hO13.atN (A := [_, _]) hw) hO13.len (by omega) (hP13.atN (A := (_ :: _ :: Y13)) hw) hP13.len (by omega); rw [q10] at this; exact this) (qo0 1 [] [2, 3, 4, 7] [(8, .int .i64 190)] (on_ (ds_ (sq_ (sq_ ?_)))))
    refine at_any (by kernel_rfl) ?_
    refine tk (m := 15) [0, 1, 2, 3, 4, 5, 6, 7, 8, 9, 10, 11, 12] [(3, .eqs false)] [2, 3, 4, 7] [(50, .bool false)] ([EqRun Try.prog .neq 4 (.tmp 38) (.tmp 40) (.bool false) (.bool false) false]) #[true, true, true, true, true, true, true, true, true, true, true, true, true, false, false, false, false, false, false, false, false, false, false, false, false, false, false, false] (al1 (bool_ne false false)) ?_
    refine any_cutX (V := (List Ob) × (List Ob) × (Nat) × (Nat) × (Option Addr) × (Option Addr)) (fun ⟨Y499, Yx499, c499, d499, p499, q499⟩ => SlO 32 Y499 q499 n c499 ds ∧ SlO 43 Yx499 p499 m d499 vs) 0 #[true, true, true, true, true, true, true, true, true, true, true, true, true, true, true, true, true, true, true, true, true, true, true, true, true, true, true, true] (fun ⟨Y499, Yx499, c499, d499, p499, q499⟩ => [(2, .int .i64 k), (3, .pointer (some ⟨γ1 0, 0, none⟩)), (7, .bool false), (65, .bool false)]) (fun ⟨Y499, Yx499, c499, d499, p499, q499⟩ => bx (γ1 1) (#[.slice p2 n2 cap2, .slice q2 m2 capv2]) 25 :: bx (γ1 0) (#[.slice p n cap, .slice q m capv]) 25 :: (Y499 ++ (Yx499 ++ (Y13 ++ (Yx13 ++ []))))) ?_ (fun hmx26 => ?_)
    rotate_left
    ·
     refine any_cutX (V := (List Ob) × (List Ob) × (Nat) × (Nat) × (Option Addr) × (Option Addr)) (fun ⟨Y499, Yx499, c499, d499, p499, q499⟩ => SlO 32 Y499 q499 n c499 ds ∧ SlO 43 Yx499 p499 m d499 vs) 3 #[true, true, true, true, true, true, true, true, true, true, true, true, true, true, true, true, true, true, true, true, true, true, true, true, true, false, false, false] (fun ⟨Y499, Yx499, c499, d499, p499, q499⟩ => [(2, .int .i64 k), (3, .pointer (some ⟨γ1 0, 0, none⟩)), (7, .bool false), (59, .bool false), (60, .agg #[.slice p n cap, .slice q m capv]), (62, .agg #[.slice q499 n c499, .slice p499 m d499])]) (fun ⟨Y499, Yx499, c499, d499, p499, q499⟩ => bx (γ1 1) (#[.slice p2 n2 cap2, .slice q2 m2 capv2]) 25 :: bx (γ1 0) (#[.slice p n cap, .slice q m capv]) 25 :: (Y499 ++ (Yx499 ++ (Y13 ++ (Yx13 ++ []))))) ?_ (fun hmx25 => ?_)
     ·
      rintro ⟨Y499, Yx499, c499, d499, p499, q499⟩ ⟨hO499, hP499⟩
      refine a1 25 rfl ?_
      refine cD (.bool true) Try.call35 (fun w hw => by have := same_d p n cap ds q m capv vs q499 n c499 ds p499 m d499 vs w (hds.kept hw.below) hn (by omega) (hvs.kept hw.below) hm (by omega) (hO499.atN (A := [_, _]) hw) hO499.len (by omega) (hP499.atN (A := (_ :: _ :: Y499)) hw) hP499.len (by omega); simpa using this) ?_
      refine od_ ?_
      refine tk (m := 0) [26, 27] [] [2, 3, 7] [(65, .bool false)] ([]) #[true, true, true, true, true, true, true, true, true, true, true, true, true, true, true, true, true, true, true, true, true, true, true, true, true, true, true, true] al0 ?_
      exact wk (hmx26 (Y499, Yx499, c499, d499, p499, q499) ⟨hO499, hP499⟩) [2, 3, 7, 65] [[_], [_], _, _, _, _] [0, 1, 2, 3, 4, 5] rfl rfl
     refine any_cutX (V := (List Ob) × (List Ob) × (Nat) × (Nat) × (Option Addr) × (Option Addr)) (fun ⟨Y499, Yx499, c499, d499, p499, q499⟩ => SlO 32 Y499 q499 n c499 ds ∧ SlO 43 Yx499 p499 m d499 vs) 4 #[true, true, true, true, true, true, true, true, true, true, true, true, true, true, true, true, true, true, true, true, true, true, false, true, true, false, false, false] (fun ⟨Y499, Yx499, c499, d499, p499, q499⟩ => [(2, .int .i64 k), (3, .pointer (some ⟨γ1 0, 0, none⟩)), (7, .bool false), (59, .bool false), (62, .agg #[.slice q499 n c499, .slice p499 m d499])]) (fun ⟨Y499, Yx499, c499, d499, p499, q499⟩ => bx (γ1 1) (#[.slice p2 n2 cap2, .slice q2 m2 capv2]) 25 :: bx (γ1 0) (#[.slice p n cap, .slice q m capv]) 25 :: (Y499 ++ (Yx499 ++ (Y13 ++ (Yx13 ++ []))))) ?_ (fun hmx24 => ?_)
     ·
      rintro ⟨Y499, Yx499, c499, d499, p499, q499⟩ ⟨hO499, hP499⟩
      refine a1 22 rfl ?_
      refine qo0 1 [(22, .go (owns 1 0 2))] [2, 3, 7, 59, 62] [(60, .agg #[.slice p n cap, .slice q m capv])] ?_
      refine od_ ?_
      exact wk (hmx25 (Y499, Yx499, c499, d499, p499, q499) ⟨hO499, hP499⟩) [2, 3, 7, 59, 60, 62] [[_], [_], _, _, _, _] [0, 1, 2, 3, 4, 5] rfl rfl
     refine any_cutX (V := Unit) (fun _ => True) 4 #[true, true, true, true, true, true, true, true, true, true, true, true, true, true, true, true, true, true, true, true, true, true, true, true, false, false, false, false] (fun _ => [(2, .int .i64 k), (3, .pointer (some ⟨γ1 0, 0, none⟩)), (7, .bool false), (59, .bool false), (60, .agg #[.slice p n cap, .slice q m capv]), (61, .agg #[.slice p n cap, .slice q m capv])]) (fun _ => bx (γ1 1) (#[.slice p2 n2 cap2, .slice q2 m2 capv2]) 25 :: bx (γ1 0) (#[.slice p n cap, .slice q m capv]) 25 :: (Y13 ++ (Yx13 ++ []))) ?_ (fun hmx23 => ?_)
     ·
      rintro _ _
      refine a1 24 rfl ?_
      refine cP (fun v L' => ∃ q_ c_ Y_ q2_ c2_ X_, v = .agg #[.slice q_ n c_, .slice q2_ m c2_] ∧ L' = List.take 2 (bx (γ1 1) (#[.slice p2 n2 cap2, .slice q2 m2 capv2]) 25 :: bx (γ1 0) (#[.slice p n cap, .slice q m capv]) 25 :: (Y13 ++ (Yx13 ++ []))) ++ (Y_ ++ (X_ ++ List.drop 2 (bx (γ1 1) (#[.slice p2 n2 cap2, .slice q2 m2 capv2]) 25 :: bx (γ1 0) (#[.slice p n cap, .slice q m capv]) 25 :: (Y13 ++ (Yx13 ++ []))))) ∧ SlO 32 Y_ q_ n c_ ds ∧ SlO 43 X_ q2_ m c2_ vs) Try.call15 (fun w hw => (copied_d p n cap ds q m capv vs w (hds.kept hw.below) hn (by omega) (hvs.kept hw.below) hm (by omega)).mono fun e w' ⟨q_, c_, Y_, q2_, c2_, X_, he, h1, h2, hb, hY⟩ => ⟨_, _, he, ⟨q_, c_, Y_, q2_, c2_, X_, rfl, rfl, h1, h2⟩, hw.join2 hb hY 2⟩) ?_
      rintro v499 L499 ⟨q499, c499, Y499, p499, d499, Yx499, rfl, rfl, hO499, hP499⟩
      refine od_ ?_
      exact wk (hmx25 (Y499, Yx499, c499, d499, p499, q499) ⟨hO499, hP499⟩) [2, 3, 7, 59, 60, 62] [[_], [_], _, _, _, _] [0, 1, 2, 3, 4, 5] rfl rfl
     refine any_cutX (V := Unit) (fun _ => True) 5 #[true, true, true, true, true, true, true, true, true, true, true, true, true, true, true, true, true, true, true, true, true, true, false, true, false, false, false, false] (fun _ => [(2, .int .i64 k), (3, .pointer (some ⟨γ1 0, 0, none⟩)), (7, .bool false), (59, .bool false), (61, .agg #[.slice p n cap, .slice q m capv])]) (fun _ => bx (γ1 1) (#[.slice p2 n2 cap2, .slice q2 m2 capv2]) 25 :: bx (γ1 0) (#[.slice p n cap, .slice q m capv]) 25 :: (Y13 ++ (Yx13 ++ []))) ?_ (fun hmx22 => ?_)
     ·
      rintro _ _
      refine any_fork [22, 24] (by kernel_rfl) (by simp) (each_cons _ rfl ?_ (each_cons _ rfl ?_ (each_nil)))
      ·
       refine qo0 1 [(22, .go (owns 1 0 2))] [2, 3, 7, 59, 61] [(60, .agg #[.slice p n cap, .slice q m capv])] ?_
       refine od_ ?_
       exact wk (hmx23 () trivial) [2, 3, 7, 59, 60, 61] [[_], [_], _, _] [0, 1, 2, 3] rfl rfl
      ·
       refine cP (fun v L' => ∃ q_ c_ Y_ q2_ c2_ X_, v = .agg #[.slice q_ n c_, .slice q2_ m c2_] ∧ L' = List.take 2 (bx (γ1 1) (#[.slice p2 n2 cap2, .slice q2 m2 capv2]) 25 :: bx (γ1 0) (#[.slice p n cap, .slice q m capv]) 25 :: (Y13 ++ (Yx13 ++ []))) ++ (Y_ ++ (X_ ++ List.drop 2 (bx (γ1 1) (#[.slice p2 n2 cap2, .slice q2 m2 capv2]) 25 :: bx (γ1 0) (#[.slice p n cap, .slice q m capv]) 25 :: (Y13 ++ (Yx13 ++ []))))) ∧ SlO 32 Y_ q_ n c_ ds ∧ SlO 43 X_ q2_ m c2_ vs) Try.call15 (fun w hw => (copied_d p n cap ds q m capv vs w (hds.kept hw.below) hn (by omega) (hvs.kept hw.below) hm (by omega)).mono fun e w' ⟨q_, c_, Y_, q2_, c2_, X_, he, h1, h2, hb, hY⟩ => ⟨_, _, he, ⟨q_, c_, Y_, q2_, c2_, X_, rfl, rfl, h1, h2⟩, hw.join2 hb hY 2⟩) ?_
       rintro v499 L499 ⟨q499, c499, Y499, p499, d499, Yx499, rfl, rfl, hO499, hP499⟩
       refine od_ ?_
       exact wk (hmx24 (Y499, Yx499, c499, d499, p499, q499) ⟨hO499, hP499⟩) [2, 3, 7, 59, 62] [[_], [_], _, _, _, _] [0, 1, 2, 3, 4, 5] rfl rfl
     refine any_cutX (V := Unit) (fun _ => True) 5 #[true, true, true, true, true, true, true, true, true, true, true, true, true, true, true, true, true, true, true, true, true, true, true, false, false, false, false, false] (fun _ => [(2, .int .i64 k), (3, .pointer (some ⟨γ1 0, 0, none⟩)), (7, .bool false), (59, .bool false), (60, .agg #[.slice p n cap, .slice q m capv])]) (fun _ => bx (γ1 1) (#[.slice p2 n2 cap2, .slice q2 m2 capv2]) 25 :: bx (γ1 0) (#[.slice p n cap, .slice q m capv]) 25 :: (Y13 ++ (Yx13 ++ []))) ?_ (fun hmx21 => ?_)
     ·
      rintro _ _
      refine a1 23 rfl ?_
      refine qo0 1 [(23, .go (owns 1 0 2))] [2, 3, 7, 59, 60] [(61, .agg #[.slice p n cap, .slice q m capv])] ?_
      refine od_ ?_
      exact wk (hmx23 () trivial) [2, 3, 7, 59, 60, 61] [[_], [_], _, _] [0, 1, 2, 3] rfl rfl
     refine any_cutX (V := Unit) (fun _ => True) 6 #[true, true, true, true, true, true, true, true, true, true, true, true, true, true, true, true, true, true, true, true, true, true, false, false, false, false, false, false] (fun _ => [(2, .int .i64 k), (3, .pointer (some ⟨γ1 0, 0, none⟩)), (7, .bool false), (59, .bool false)]) (fun _ => bx (γ1 1) (#[.slice p2 n2 cap2, .slice q2 m2 capv2]) 25 :: bx (γ1 0) (#[.slice p n cap, .slice q m capv]) 25 :: (Y13 ++ (Yx13 ++ []))) ?_ (fun hmx20 => ?_)
     ·
      rintro _ _
      refine any_fork [22, 23] (by kernel_rfl) (by simp) (each_cons _ rfl ?_ (each_cons _ rfl ?_ (each_nil)))
      ·
       refine qo0 1 [(22, .go (owns 1 0 2))] [2, 3, 7, 59] [(60, .agg #[.slice p n cap, .slice q m capv])] ?_
       refine od_ ?_
       exact wk (hmx21 () trivial) [2, 3, 7, 59, 60] [[_], [_], _, _] [0, 1, 2, 3] rfl rfl
      ·
       refine qo0 1 [(23, .go (owns 1 0 2))] [2, 3, 7, 59] [(61, .agg #[.slice p n cap, .slice q m capv])] ?_
       refine od_ ?_
       exact wk (hmx22 () trivial) [2, 3, 7, 59, 61] [[_], [_], _, _] [0, 1, 2, 3] rfl rfl
     refine any_cutX (V := Unit) (fun _ => True) 10 #[true, true, true, true, true, true, true, true, true, true, true, true, true, true, true, true, true, true, false, false, false, false, false, false, false, false, false, false] (fun _ => [(2, .int .i64 k), (3, .pointer (some ⟨γ1 0, 0, none⟩)), (7, .bool false), (50, .bool false), (53, .bool ((decide (ds = ds2) && decide (vs = vs2)))), (54, .agg #[.slice p n cap, .slice q m capv]), (55, .agg #[.slice p2 n2 cap2, .slice q2 m2 capv2])]) (fun _ => bx (γ1 1) (#[.slice p2 n2 cap2, .slice q2 m2 capv2]) 25 :: bx (γ1 0) (#[.slice p n cap, .slice q m capv]) 25 :: (Y13 ++ (Yx13 ++ []))) ?_ (fun hmx19 => ?_)
     ·
      rintro _ _
      refine a1 18 rfl ?_
      refine cD (.bool ((decide (ds = ds2) && decide (vs = vs2)))) Try.call19 (fun w hw => by have := rsame_d p n cap ds q m capv vs p2 n2 cap2 ds2 q2 m2 capv2 vs2 w (hds.kept hw.below) hn (by omega) (hvs.kept hw.below) hm (by omega) (hds2.kept hw.below) hn2 (by omega) (hvs2.kept hw.below) hm2 (by omega); exact this) ?_
      refine od_ ?_
      refine tk (m := 6) [19, 20, 21] [(19, .eqs false)] [2, 3, 7] [(59, .bool false)] ([EqRun Try.prog .neq 4 (.tmp 53) (.tmp 56) (.bool ((decide (ds = ds2) && decide (vs = vs2)))) (.bool ((decide (ds = ds2) && decide (vs = vs2)))) false]) #[true, true, true, true, true, true, true, true, true, true, true, true, true, true, true, true, true, true, true, true, true, true, false, false, false, false, false, false] (al1 (bool_same _)) ?_
      exact wk (hmx20 () trivial) [2, 3, 7, 59] [[_], [_], _, _] [0, 1, 2, 3] rfl rfl
     refine any_cutX (V := Unit) (fun _ => True) 11 #[true, true, true, true, true, true, true, true, true, true, true, true, true, true, true, false, true, true, false, false, false, false, false, false, false, false, false, false] (fun _ => [(2, .int .i64 k), (3, .pointer (some ⟨γ1 0, 0, none⟩)), (7, .bool false), (50, .bool false), (51, .agg #[.slice p n cap, .slice q m capv]), (52, .agg #[.slice p2 n2 cap2, .slice q2 m2 capv2]), (54, .agg #[.slice p n cap, .slice q m capv]), (55, .agg #[.slice p2 n2 cap2, .slice q2 m2 capv2])]) (fun _ => bx (γ1 1) (#[.slice p2 n2 cap2, .slice q2 m2 capv2]) 25 :: bx (γ1 0) (#[.slice p n cap, .slice q m capv]) 25 :: (Y13 ++ (Yx13 ++ []))) ?_ (fun hmx18 => ?_)
     ·
      rintro _ _
      refine a1 15 rfl ?_
      refine cD (.bool ((decide (ds = ds2) && decide (vs = vs2)))) Try.call35 (fun w hw => by have := same_d p n cap ds q m capv vs p2 n2 cap2 ds2 q2 m2 capv2 vs2 w (hds.kept hw.below) hn (by omega) (hvs.kept hw.below) hm (by omega) (hds2.kept hw.below) hn2 (by omega) (hvs2.kept hw.below) hm2 (by omega); exact this) ?_
      refine od_ ?_
      exact wk (hmx19 () trivial) [2, 3, 7, 50, 53, 54, 55] [[_], [_], _, _] [0, 1, 2, 3] rfl rfl
     refine any_cutX (V := Unit) (fun _ => True) 11 #[true, true, true, true, true, true, true, true, true, true, true, true, true, true, true, true, false, true, false, false, false, false, false, false, false, false, false, false] (fun _ => [(2, .int .i64 k), (3, .pointer (some ⟨γ1 0, 0, none⟩)), (7, .bool false), (50, .bool false), (53, .bool ((decide (ds = ds2) && decide (vs = vs2)))), (55, .agg #[.slice p2 n2 cap2, .slice q2 m2 capv2])]) (fun _ => bx (γ1 1) (#[.slice p2 n2 cap2, .slice q2 m2 capv2]) 25 :: bx (γ1 0) (#[.slice p n cap, .slice q m capv]) 25 :: (Y13 ++ (Yx13 ++ []))) ?_ (fun hmx17 => ?_)
     ·
      rintro _ _
      refine a1 16 rfl ?_
      refine qo0 1 [(16, .go (owns 1 0 2))] [2, 3, 7, 50, 53, 55] [(54, .agg #[.slice p n cap, .slice q m capv])] ?_
      refine od_ ?_
      exact wk (hmx19 () trivial) [2, 3, 7, 50, 53, 54, 55] [[_], [_], _, _] [0, 1, 2, 3] rfl rfl
     refine any_cutX (V := Unit) (fun _ => True) 11 #[true, true, true, true, true, true, true, true, true, true, true, true, true, true, true, true, true, false, false, false, false, false, false, false, false, false, false, false] (fun _ => [(2, .int .i64 k), (3, .pointer (some ⟨γ1 0, 0, none⟩)), (4, .pointer (some ⟨γ1 1, 0, none⟩)), (7, .bool false), (50, .bool false), (53, .bool ((decide (ds = ds2) && decide (vs = vs2)))), (54, .agg #[.slice p n cap, .slice q m capv])]) (fun _ => bx (γ1 1) (#[.slice p2 n2 cap2, .slice q2 m2 capv2]) 25 :: bx (γ1 0) (#[.slice p n cap, .slice q m capv]) 25 :: (Y13 ++ (Yx13 ++ []))) ?_ (fun hmx16 => ?_)
     ·
      rintro _ _
      refine a1 17 rfl ?_
      refine qo0 1 [(17, .go (owns 0 0 2))] [2, 3, 7, 50, 53, 54] [(55, .agg #[.slice p2 n2 cap2, .slice q2 m2 capv2])] ?_
      refine od_ ?_
      exact wk (hmx19 () trivial) [2, 3, 7, 50, 53, 54, 55] [[_], [_], _, _] [0, 1, 2, 3] rfl rfl
     refine any_cutX (V := Unit) (fun _ => True) 12 #[true, true, true, true, true, true, true, true, true, true, true, true, true, false, true, false, true, true, false, false, false, false, false, false, false, false, false, false] (fun _ => [(2, .int .i64 k), (3, .pointer (some ⟨γ1 0, 0, none⟩)), (7, .bool false), (50, .bool false), (52, .agg #[.slice p2 n2 cap2, .slice q2 m2 capv2]), (54, .agg #[.slice p n cap, .slice q m capv]), (55, .agg #[.slice p2 n2 cap2, .slice q2 m2 capv2])]) (fun _ => bx (γ1 1) (#[.slice p2 n2 cap2, .slice q2 m2 capv2]) 25 :: bx (γ1 0) (#[.slice p n cap, .slice q m capv]) 25 :: (Y13 ++ (Yx13 ++ []))) ?_ (fun hmx15 => ?_)
     ·
      rintro _ _
      refine a1 13 rfl ?_
      refine qo0 1 [(13, .go (owns 1 0 2))] [2, 3, 7, 50, 52, 54, 55] [(51, .agg #[.slice p n cap, .slice q m capv])] ?_
      refine od_ ?_
      exact wk (hmx18 () trivial) [2, 3, 7, 50, 51, 52, 54, 55] [[_], [_], _, _] [0, 1, 2, 3] rfl rfl
     refine any_cutX (V := Unit) (fun _ => True) 12 #[true, true, true, true, true, true, true, true, true, true, true, true, true, true, false, false, true, true, false, false, false, false, false, false, false, false, false, false] (fun _ => [(2, .int .i64 k), (3, .pointer (some ⟨γ1 0, 0, none⟩)), (4, .pointer (some ⟨γ1 1, 0, none⟩)), (7, .bool false), (50, .bool false), (51, .agg #[.slice p n cap, .slice q m capv]), (54, .agg #[.slice p n cap, .slice q m capv]), (55, .agg #[.slice p2 n2 cap2, .slice q2 m2 capv2])]) (fun _ => bx (γ1 1) (#[.slice p2 n2 cap2, .slice q2 m2 capv2]) 25 :: bx (γ1 0) (#[.slice p n cap, .slice q m capv]) 25 :: (Y13 ++ (Yx13 ++ []))) ?_ (fun hmx14 => ?_)
     ·
      rintro _ _
      refine a1 14 rfl ?_
      refine qo0 1 [(14, .go (owns 0 0 2))] [2, 3, 7, 50, 51, 54, 55] [(52, .agg #[.slice p2 n2 cap2, .slice q2 m2 capv2])] ?_
      refine od_ ?_
      exact wk (hmx18 () trivial) [2, 3, 7, 50, 51, 52, 54, 55] [[_], [_], _, _] [0, 1, 2, 3] rfl rfl
     refine any_cutX (V := Unit) (fun _ => True) 12 #[true, true, true, true, true, true, true, true, true, true, true, true, true, true, true, false, false, true, false, false, false, false, false, false, false, false, false, false] (fun _ => [(2, .int .i64 k), (3, .pointer (some ⟨γ1 0, 0, none⟩)), (7, .bool false), (50, .bool false), (51, .agg #[.slice p n cap, .slice q m capv]), (52, .agg #[.slice p2 n2 cap2, .slice q2 m2 capv2]), (55, .agg #[.slice p2 n2 cap2, .slice q2 m2 capv2])]) (fun _ => bx (γ1 1) (#[.slice p2 n2 cap2, .slice q2 m2 capv2]) 25 :: bx (γ1 0) (#[.slice p n cap, .slice q m capv]) 25 :: (Y13 ++ (Yx13 ++ []))) ?_ (fun hmx13 => ?_)
     ·
      rintro _ _
      refine any_fork [15, 16] (by kernel_rfl) (by simp) (each_cons _ rfl ?_ (each_cons _ rfl ?_ (each_nil)))
      ·
       refine cD (.bool ((decide (ds = ds2) && decide (vs = vs2)))) Try.call35 (fun w hw => by have := same_d p n cap ds q m capv vs p2 n2 cap2 ds2 q2 m2 capv2 vs2 w (hds.kept hw.below) hn (by omega) (hvs.kept hw.below) hm (by omega) (hds2.kept hw.below) hn2 (by omega) (hvs2.kept hw.below) hm2 (by omega); exact this) ?_
       refine od_ ?_
       exact wk (hmx17 () trivial) [2, 3, 7, 50, 53, 55] [[_], [_], _, _] [0, 1, 2, 3] rfl rfl
      ·
       refine qo0 1 [(16, .go (owns 1 0 2))] [2, 3, 7, 50, 51, 52, 55] [(54, .agg #[.slice p n cap, .slice q m capv])] ?_
       refine od_ ?_
       exact wk (hmx18 () trivial) [2, 3, 7, 50, 51, 52, 54, 55] [[_], [_], _, _] [0, 1, 2, 3] rfl rfl
     refine any_cutX (V := Unit) (fun _ => True) 12 #[true, true, true, true, true, true, true, true, true, true, true, true, true, true, true, false, true, false, false, false, false, false, false, false, false, false, false, false] (fun _ => [(2, .int .i64 k), (3, .pointer (some ⟨γ1 0, 0, none⟩)), (4, .pointer (some ⟨γ1 1, 0, none⟩)), (7, .bool false), (50, .bool false), (51, .agg #[.slice p n cap, .slice q m capv]), (52, .agg #[.slice p2 n2 cap2, .slice q2 m2 capv2]), (54, .agg #[.slice p n cap, .slice q m capv])]) (fun _ => bx (γ1 1) (#[.slice p2 n2 cap2, .slice q2 m2 capv2]) 25 :: bx (γ1 0) (#[.slice p n cap, .slice q m capv]) 25 :: (Y13 ++ (Yx13 ++ []))) ?_ (fun hmx12 => ?_)
     ·
      rintro _ _
      refine any_fork [15, 17] (by kernel_rfl) (by simp) (each_cons _ rfl ?_ (each_cons _ rfl ?_ (each_nil)))
      ·
       refine cD (.bool ((decide (ds = ds2) && decide (vs = vs2)))) Try.call35 (fun w hw => by have := same_d p n cap ds q m capv vs p2 n2 cap2 ds2 q2 m2 capv2 vs2 w (hds.kept hw.below) hn (by omega) (hvs.kept hw.below) hm (by omega) (hds2.kept hw.below) hn2 (by omega) (hvs2.kept hw.below) hm2 (by omega); exact this) ?_
       refine od_ ?_
       exact wk (hmx16 () trivial) [2, 3, 4, 7, 50, 53, 54] [[_], [_], _, _] [0, 1, 2, 3] rfl rfl
      ·
       refine qo0 1 [(17, .go (owns 0 0 2))] [2, 3, 7, 50, 51, 52, 54] [(55, .agg #[.slice p2 n2 cap2, .slice q2 m2 capv2])] ?_
       refine od_ ?_
       exact wk (hmx18 () trivial) [2, 3, 7, 50, 51, 52, 54, 55] [[_], [_], _, _] [0, 1, 2, 3] rfl rfl
     refine any_cutX (V := Unit) (fun _ => True) 12 #[true, true, true, true, true, true, true, true, true, true, true, true, true, true, true, true, false, false, false, false, false, false, false, false, false, false, false, false] (fun _ => [(2, .int .i64 k), (3, .pointer (some ⟨γ1 0, 0, none⟩)), (4, .pointer (some ⟨γ1 1, 0, none⟩)), (7, .bool false), (50, .bool false), (53, .bool ((decide (ds = ds2) && decide (vs = vs2))))]) (fun _ => bx (γ1 1) (#[.slice p2 n2 cap2, .slice q2 m2 capv2]) 25 :: bx (γ1 0) (#[.slice p n cap, .slice q m capv]) 25 :: (Y13 ++ (Yx13 ++ []))) ?_ (fun hmx11 => ?_)
     ·
      rintro _ _
      refine any_fork [16, 17] (by kernel_rfl) (by simp) (each_cons _ rfl ?_ (each_cons _ rfl ?_ (each_nil)))
      ·
       refine qo0 1 [(16, .go (owns 1 0 2))] [2, 3, 4, 7, 50, 53] [(54, .agg #[.slice p n cap, .slice q m capv])] ?_
       refine od_ ?_
       exact wk (hmx16 () trivial) [2, 3, 4, 7, 50, 53, 54] [[_], [_], _, _] [0, 1, 2, 3] rfl rfl
      ·
       refine qo0 1 [(17, .go (owns 0 0 2))] [2, 3, 7, 50, 53] [(55, .agg #[.slice p2 n2 cap2, .slice q2 m2 capv2])] ?_
       refine od_ ?_
       exact wk (hmx17 () trivial) [2, 3, 7, 50, 53, 55] [[_], [_], _, _] [0, 1, 2, 3] rfl rfl
     refine any_cutX (V := Unit) (fun _ => True) 13 #[true, true, true, true, true, true, true, true, true, true, true, true, true, false, false, false, true, true, false, false, false, false, false, false, false, false, false, false] (fun _ => [(2, .int .i64 k), (3, .pointer (some ⟨γ1 0, 0, none⟩)), (4, .pointer (some ⟨γ1 1, 0, none⟩)), (7, .bool false), (50, .bool false), (54, .agg #[.slice p n cap, .slice q m capv]), (55, .agg #[.slice p2 n2 cap2, .slice q2 m2 capv2])]) (fun _ => bx (γ1 1) (#[.slice p2 n2 cap2, .slice q2 m2 capv2]) 25 :: bx (γ1 0) (#[.slice p n cap, .slice q m capv]) 25 :: (Y13 ++ (Yx13 ++ []))) ?_ (fun hmx10 => ?_)
     ·
      rintro _ _
      refine any_fork [13, 14] (by kernel_rfl) (by simp) (each_cons _ rfl ?_ (each_cons _ rfl ?_ (each_nil)))
      ·
       refine qo0 1 [(13, .go (owns 1 0 2))] [2, 3, 4, 7, 50, 54, 55] [(51, .agg #[.slice p n cap, .slice q m capv])] ?_
       refine od_ ?_
       exact wk (hmx14 () trivial) [2, 3, 4, 7, 50, 51, 54, 55] [[_], [_], _, _] [0, 1, 2, 3] rfl rfl
      ·
       refine qo0 1 [(14, .go (owns 0 0 2))] [2, 3, 7, 50, 54, 55] [(52, .agg #[.slice p2 n2 cap2, .slice q2 m2 capv2])] ?_
       refine od_ ?_
       exact wk (hmx15 () trivial) [2, 3, 7, 50, 52, 54, 55] [[_], [_], _, _] [0, 1, 2, 3] rfl rfl
     refine any_cutX (V := Unit) (fun _ => True) 13 #[true, true, true, true, true, true, true, true, true, true, true, true, true, false, true, false, false, true, false, false, false, false, false, false, false, false, false, false] (fun _ => [(2, .int .i64 k), (3, .pointer (some ⟨γ1 0, 0, none⟩)), (7, .bool false), (50, .bool false), (52, .agg #[.slice p2 n2 cap2, .slice q2 m2 capv2]), (55, .agg #[.slice p2 n2 cap2, .slice q2 m2 capv2])]) (fun _ => bx (γ1 1) (#[.slice p2 n2 cap2, .slice q2 m2 capv2]) 25 :: bx (γ1 0) (#[.slice p n cap, .slice q m capv]) 25 :: (Y13 ++ (Yx13 ++ []))) ?_ (fun hmx9 => ?_)
     ·
      rintro _ _
      refine any_fork [13, 16] (by kernel_rfl) (by simp) (each_cons _ rfl ?_ (each_cons _ rfl ?_ (each_nil)))
      ·
       refine qo0 1 [(13, .go (owns 1 0 2))] [2, 3, 7, 50, 52, 55] [(51, .agg #[.slice p n cap, .slice q m capv])] ?_
       refine od_ ?_
       exact wk (hmx13 () trivial) [2, 3, 7, 50, 51, 52, 55] [[_], [_], _, _] [0, 1, 2, 3] rfl rfl
      ·
       refine qo0 1 [(16, .go (owns 1 0 2))] [2, 3, 7, 50, 52, 55] [(54, .agg #[.slice p n cap, .slice q m capv])] ?_
       refine od_ ?_
       exact wk (hmx15 () trivial) [2, 3, 7, 50, 52, 54, 55] [[_], [_], _, _] [0, 1, 2, 3] rfl rfl
     refine any_cutX (V := Unit) (fun _ => True) 13 #[true, true, true, true, true, true, true, true, true, true, true, true, true, false, true, false, true, false, false, false, false, false, false, false, false, false, false, false] (fun _ => [(2, .int .i64 k), (3, .pointer (some ⟨γ1 0, 0, none⟩)), (4, .pointer (some ⟨γ1 1, 0, none⟩)), (7, .bool false), (50, .bool false), (52, .agg #[.slice p2 n2 cap2, .slice q2 m2 capv2]), (54, .agg #[.slice p n cap, .slice q m capv])]) (fun _ => bx (γ1 1) (#[.slice p2 n2 cap2, .slice q2 m2 capv2]) 25 :: bx (γ1 0) (#[.slice p n cap, .slice q m capv]) 25 :: (Y13 ++ (Yx13 ++ []))) ?_ (fun hmx8 => ?_)
     ·
      rintro _ _
      refine any_fork [13, 17] (by kernel_rfl) (by simp) (each_cons _ rfl ?_ (each_cons _ rfl ?_ (each_nil)))
      ·
       refine qo0 1 [(13, .go (owns 1 0 2))] [2, 3, 4, 7, 50, 52, 54] [(51, .agg #[.slice p n cap, .slice q m capv])] ?_
       refine od_ ?_
       exact wk (hmx12 () trivial) [2, 3, 4, 7, 50, 51, 52, 54] [[_], [_], _, _] [0, 1, 2, 3] rfl rfl
      ·
       refine qo0 1 [(17, .go (owns 0 0 2))] [2, 3, 7, 50, 52, 54] [(55, .agg #[.slice p2 n2 cap2, .slice q2 m2 capv2])] ?_
       refine od_ ?_
       exact wk (hmx15 () trivial) [2, 3, 7, 50, 52, 54, 55] [[_], [_], _, _] [0, 1, 2, 3] rfl rfl
     refine any_cutX (V := Unit) (fun _ => True) 13 #[true, true, true, true, true, true, true, true, true, true, true, true, true, true, false, false, false, true, false, false, false, false, false, false, false, false, false, false] (fun _ => [(2, .int .i64 k), (3, .pointer (some ⟨γ1 0, 0, none⟩)), (4, .pointer (some ⟨γ1 1, 0, none⟩)), (7, .bool false), (50, .bool false), (51, .agg #[.slice p n cap, .slice q m capv]), (55, .agg #[.slice p2 n2 cap2, .slice q2 m2 capv2])]) (fun _ => bx (γ1 1) (#[.slice p2 n2 cap2, .slice q2 m2 capv2]) 25 :: bx (γ1 0) (#[.slice p n cap, .slice q m capv]) 25 :: (Y13 ++ (Yx13 ++ []))) ?_ (fun hmx7 => ?_)
     ·
      rintro _ _
      refine any_fork [14, 16] (by kernel_rfl) (by simp) (each_cons _ rfl ?_ (each_cons _ rfl ?_ (each_nil)))
      ·
       refine qo0 1 [(14, .go (owns 0 0 2))] [2, 3, 7, 50, 51, 55] [(52, .agg #[.slice p2 n2 cap2, .slice q2 m2 capv2])] ?_
       refine od_ ?_
       exact wk (hmx13 () trivial) [2, 3, 7, 50, 51, 52, 55] [[_], [_], _, _] [0, 1, 2, 3] rfl rfl
      ·
       refine qo0 1 [(16, .go (owns 1 0 2))] [2, 3, 4, 7, 50, 51, 55] [(54, .agg #[.slice p n cap, .slice q m capv])] ?_
       refine od_ ?_
       exact wk (hmx14 () trivial) [2, 3, 4, 7, 50, 51, 54, 55] [[_], [_], _, _] [0, 1, 2, 3] rfl rfl
     refine any_cutX (V := Unit) (fun _ => True) 13 #[true, true, true, true, true, true, true, true, true, true, true, true, true, true, false, false, true, false, false, false, false, false, false, false, false, false, false, false] (fun _ => [(2, .int .i64 k), (3, .pointer (some ⟨γ1 0, 0, none⟩)), (4, .pointer (some ⟨γ1 1, 0, none⟩)), (7, .bool false), (50, .bool false), (51, .agg #[.slice p n cap, .slice q m capv]), (54, .agg #[.slice p n cap, .slice q m capv])]) (fun _ => bx (γ1 1) (#[.slice p2 n2 cap2, .slice q2 m2 capv2]) 25 :: bx (γ1 0) (#[.slice p n cap, .slice q m capv]) 25 :: (Y13 ++ (Yx13 ++ []))) ?_ (fun hmx6 => ?_)
     ·
      rintro _ _
      refine any_fork [14, 17] (by kernel_rfl) (by simp) (each_cons _ rfl ?_ (each_cons _ rfl ?_ (each_nil)))
      ·
       refine qo0 1 [(14, .go (owns 0 0 2))] [2, 3, 4, 7, 50, 51, 54] [(52, .agg #[.slice p2 n2 cap2, .slice q2 m2 capv2])] ?_
       refine od_ ?_
       exact wk (hmx12 () trivial) [2, 3, 4, 7, 50, 51, 52, 54] [[_], [_], _, _] [0, 1, 2, 3] rfl rfl
      ·
       refine qo0 1 [(17, .go (owns 0 0 2))] [2, 3, 4, 7, 50, 51, 54] [(55, .agg #[.slice p2 n2 cap2, .slice q2 m2 capv2])] ?_
       refine od_ ?_
       exact wk (hmx14 () trivial) [2, 3, 4, 7, 50, 51, 54, 55] [[_], [_], _, _] [0, 1, 2, 3] rfl rfl
     refine any_cutX (V := Unit) (fun _ => True) 13 #[true, true, true, true, true, true, true, true, true, true, true, true, true, true, true, false, false, false, false, false, false, false, false, false, false, false, false, false] (fun _ => [(2, .int .i64 k), (3, .pointer (some ⟨γ1 0, 0, none⟩)), (4, .pointer (some ⟨γ1 1, 0, none⟩)), (7, .bool false), (50, .bool false), (51, .agg #[.slice p n cap, .slice q m capv]), (52, .agg #[.slice p2 n2 cap2, .slice q2 m2 capv2])]) (fun _ => bx (γ1 1) (#[.slice p2 n2 cap2, .slice q2 m2 capv2]) 25 :: bx (γ1 0) (#[.slice p n cap, .slice q m capv]) 25 :: (Y13 ++ (Yx13 ++ []))) ?_ (fun hmx5 => ?_)
     ·
      rintro _ _
      refine any_fork [15, 16, 17] (by kernel_rfl) (by simp) (each_cons _ rfl ?_ (each_cons _ rfl ?_ (each_cons _ rfl ?_ (each_nil))))
      ·
       refine cD (.bool ((decide (ds = ds2) && decide (vs = vs2)))) Try.call35 (fun w hw => by have := same_d p n cap ds q m capv vs p2 n2 cap2 ds2 q2 m2 capv2 vs2 w (hds.kept hw.below) hn (by omega) (hvs.kept hw.below) hm (by omega) (hds2.kept hw.below) hn2 (by omega) (hvs2.kept hw.below) hm2 (by omega); exact this) ?_
       refine od_ ?_
       exact wk (hmx11 () trivial) [2, 3, 4, 7, 50, 53] [[_], [_], _, _] [0, 1, 2, 3] rfl rfl
      ·
       refine qo0 1 [(16, .go (owns 1 0 2))] [2, 3, 4, 7, 50, 51, 52] [(54, .agg #[.slice p n cap, .slice q m capv])] ?_
       refine od_ ?_
       exact wk (hmx12 () trivial) [2, 3, 4, 7, 50, 51, 52, 54] [[_], [_], _, _] [0, 1, 2, 3] rfl rfl
      ·
       refine qo0 1 [(17, .go (owns 0 0 2))] [2, 3, 7, 50, 51, 52] [(55, .agg #[.slice p2 n2 cap2, .slice q2 m2 capv2])] ?_
       refine od_ ?_
       exact wk (hmx13 () trivial) [2, 3, 7, 50, 51, 52, 55] [[_], [_], _, _] [0, 1, 2, 3] rfl rfl
     refine any_cutX (V := Unit) (fun _ => True) 14 #[true, true, true, true, true, true, true, true, true, true, true, true, true, false, false, false, false, true, false, false, false, false, false, false, false, false, false, false] (fun _ => [(2, .int .i64 k), (3, .pointer (some ⟨γ1 0, 0, none⟩)), (4, .pointer (some ⟨γ1 1, 0, none⟩)), (7, .bool false), (50, .bool false), (55, .agg #[.slice p2 n2 cap2, .slice q2 m2 capv2])]) (fun _ => bx (γ1 1) (#[.slice p2 n2 cap2, .slice q2 m2 capv2]) 25 :: bx (γ1 0) (#[.slice p n cap, .slice q m capv]) 25 :: (Y13 ++ (Yx13 ++ []))) ?_ (fun hmx4 => ?_)
     ·
      rintro _ _
      refine any_fork [13, 14, 16] (by kernel_rfl) (by simp) (each_cons _ rfl ?_ (each_cons _ rfl ?_ (each_cons _ rfl ?_ (each_nil))))
      ·
       refine qo0 1 [(13, .go (owns 1 0 2))] [2, 3, 4, 7, 50, 55] [(51, .agg #[.slice p n cap, .slice q m capv])] ?_
       refine od_ ?_
       exact wk (hmx7 () trivial) [2, 3, 4, 7, 50, 51, 55] [[_], [_], _, _] [0, 1, 2, 3] rfl rfl
      ·
       refine qo0 1 [(14, .go (owns 0 0 2))] [2, 3, 7, 50, 55] [(52, .agg #[.slice p2 n2 cap2, .slice q2 m2 capv2])] ?_
       refine od_ ?_
       exact wk (hmx9 () trivial) [2, 3, 7, 50, 52, 55] [[_], [_], _, _] [0, 1, 2, 3] rfl rfl
      ·
       refine qo0 1 [(16, .go (owns 1 0 2))] [2, 3, 4, 7, 50, 55] [(54, .agg #[.slice p n cap, .slice q m capv])] ?_
       refine od_ ?_
       exact wk (hmx10 () trivial) [2, 3, 4, 7, 50, 54, 55] [[_], [_], _, _] [0, 1, 2, 3] rfl rfl
     refine any_cutX (V := Unit) (fun _ => True) 14 #[true, true, true, true, true, true, true, true, true, true, true, true, true, false, false, false, true, false, false, false, false, false, false, false, false, false, false, false] (fun _ => [(2, .int .i64 k), (3, .pointer (some ⟨γ1 0, 0, none⟩)), (4, .pointer (some ⟨γ1 1, 0, none⟩)), (7, .bool false), (50, .bool false), (54, .agg #[.slice p n cap, .slice q m capv])]) (fun _ => bx (γ1 1) (#[.slice p2 n2 cap2, .slice q2 m2 capv2]) 25 :: bx (γ1 0) (#[.slice p n cap, .slice q m capv]) 25 :: (Y13 ++ (Yx13 ++ []))) ?_ (fun hmx3 => ?_)
     ·
      rintro _ _
      refine any_fork [13, 14, 17] (by kernel_rfl) (by simp) (each_cons _ rfl ?_ (each_cons _ rfl ?_ (each_cons _ rfl ?_ (each_nil))))
      ·
       refine qo0 1 [(13, .go (owns 1 0 2))] [2, 3, 4, 7, 50, 54] [(51, .agg #[.slice p n cap, .slice q m capv])] ?_
       refine od_ ?_
       exact wk (hmx6 () trivial) [2, 3, 4, 7, 50, 51, 54] [[_], [_], _, _] [0, 1, 2, 3] rfl rfl
      ·
       refine qo0 1 [(14, .go (owns 0 0 2))] [2, 3, 4, 7, 50, 54] [(52, .agg #[.slice p2 n2 cap2, .slice q2 m2 capv2])] ?_
       refine od_ ?_
       exact wk (hmx8 () trivial) [2, 3, 4, 7, 50, 52, 54] [[_], [_], _, _] [0, 1, 2, 3] rfl rfl
      ·
       refine qo0 1 [(17, .go (owns 0 0 2))] [2, 3, 4, 7, 50, 54] [(55, .agg #[.slice p2 n2 cap2, .slice q2 m2 capv2])] ?_
       refine od_ ?_
       exact wk (hmx10 () trivial) [2, 3, 4, 7, 50, 54, 55] [[_], [_], _, _] [0, 1, 2, 3] rfl rfl
     refine any_cutX (V := Unit) (fun _ => True) 14 #[true, true, true, true, true, true, true, true, true, true, true, true, true, false, true, false, false, false, false, false, false, false, false, false, false, false, false, false] (fun _ => [(2, .int .i64 k), (3, .pointer (some ⟨γ1 0, 0, none⟩)), (4, .pointer (some ⟨γ1 1, 0, none⟩)), (7, .bool false), (50, .bool false), (52, .agg #[.slice p2 n2 cap2, .slice q2 m2 capv2])]) (fun _ => bx (γ1 1) (#[.slice p2 n2 cap2, .slice q2 m2 capv2]) 25 :: bx (γ1 0) (#[.slice p n cap, .slice q m capv]) 25 :: (Y13 ++ (Yx13 ++ []))) ?_ (fun hmx2 => ?_)
     ·
      rintro _ _
      refine any_fork [13, 16, 17] (by kernel_rfl) (by simp) (each_cons _ rfl ?_ (each_cons _ rfl ?_ (each_cons _ rfl ?_ (each_nil))))
      ·
       refine qo0 1 [(13, .go (owns 1 0 2))] [2, 3, 4, 7, 50, 52] [(51, .agg #[.slice p n cap, .slice q m capv])] ?_
       refine od_ ?_
       exact wk (hmx5 () trivial) [2, 3, 4, 7, 50, 51, 52] [[_], [_], _, _] [0, 1, 2, 3] rfl rfl
      ·
       refine qo0 1 [(16, .go (owns 1 0 2))] [2, 3, 4, 7, 50, 52] [(54, .agg #[.slice p n cap, .slice q m capv])] ?_
       refine od_ ?_
       exact wk (hmx8 () trivial) [2, 3, 4, 7, 50, 52, 54] [[_], [_], _, _] [0, 1, 2, 3] rfl rfl
      ·
       refine qo0 1 [(17, .go (owns 0 0 2))] [2, 3, 7, 50, 52] [(55, .agg #[.slice p2 n2 cap2, .slice q2 m2 capv2])] ?_
       refine od_ ?_
       exact wk (hmx9 () trivial) [2, 3, 7, 50, 52, 55] [[_], [_], _, _] [0, 1, 2, 3] rfl rfl
     refine any_cutX (V := Unit) (fun _ => True) 14 #[true, true, true, true, true, true, true, true, true, true, true, true, true, true, false, false, false, false, false, false, false, false, false, false, false, false, false, false] (fun _ => [(2, .int .i64 k), (3, .pointer (some ⟨γ1 0, 0, none⟩)), (4, .pointer (some ⟨γ1 1, 0, none⟩)), (7, .bool false), (50, .bool false), (51, .agg #[.slice p n cap, .slice q m capv])]) (fun _ => bx (γ1 1) (#[.slice p2 n2 cap2, .slice q2 m2 capv2]) 25 :: bx (γ1 0) (#[.slice p n cap, .slice q m capv]) 25 :: (Y13 ++ (Yx13 ++ []))) ?_ (fun hmx1 => ?_)
     ·
      rintro _ _
      refine any_fork [14, 16, 17] (by kernel_rfl) (by simp) (each_cons _ rfl ?_ (each_cons _ rfl ?_ (each_cons _ rfl ?_ (each_nil))))
      ·
       refine qo0 1 [(14, .go (owns 0 0 2))] [2, 3, 4, 7, 50, 51] [(52, .agg #[.slice p2 n2 cap2, .slice q2 m2 capv2])] ?_
       refine od_ ?_
       exact wk (hmx5 () trivial) [2, 3, 4, 7, 50, 51, 52] [[_], [_], _, _] [0, 1, 2, 3] rfl rfl
      ·
       refine qo0 1 [(16, .go (owns 1 0 2))] [2, 3, 4, 7, 50, 51] [(54, .agg #[.slice p n cap, .slice q m capv])] ?_
       refine od_ ?_
       exact wk (hmx6 () trivial) [2, 3, 4, 7, 50, 51, 54] [[_], [_], _, _] [0, 1, 2, 3] rfl rfl
      ·
       refine qo0 1 [(17, .go (owns 0 0 2))] [2, 3, 4, 7, 50, 51] [(55, .agg #[.slice p2 n2 cap2, .slice q2 m2 capv2])] ?_
       refine od_ ?_
       exact wk (hmx7 () trivial) [2, 3, 4, 7, 50, 51, 55] [[_], [_], _, _] [0, 1, 2, 3] rfl rfl
     refine any_fork [13, 14, 16, 17] (by kernel_rfl) (by simp) (each_cons _ rfl ?_ (each_cons _ rfl ?_ (each_cons _ rfl ?_ (each_cons _ rfl ?_ (each_nil)))))
     ·
      refine qo0 1 [(13, .go (owns 1 0 2))] [2, 3, 4, 7, 50] [(51, .agg #[.slice p n cap, .slice q m capv])] ?_
      refine od_ ?_
      exact wk (hmx1 () trivial) [2, 3, 4, 7, 50, 51] [[_], [_], _, _] [0, 1, 2, 3] rfl rfl
     ·
      refine qo0 1 [(14, .go (owns 0 0 2))] [2, 3, 4, 7, 50] [(52, .agg #[.slice p2 n2 cap2, .slice q2 m2 capv2])] ?_
      refine od_ ?_
      exact wk (hmx2 () trivial) [2, 3, 4, 7, 50, 52] [[_], [_], _, _] [0, 1, 2, 3] rfl rfl
     ·
      refine qo0 1 [(16, .go (owns 1 0 2))] [2, 3, 4, 7, 50] [(54, .agg #[.slice p n cap, .slice q m capv])] ?_
      refine od_ ?_
      exact wk (hmx3 () trivial) [2, 3, 4, 7, 50, 54] [[_], [_], _, _] [0, 1, 2, 3] rfl rfl
     ·
      refine qo0 1 [(17, .go (owns 0 0 2))] [2, 3, 4, 7, 50] [(55, .agg #[.slice p2 n2 cap2, .slice q2 m2 capv2])] ?_
      refine od_ ?_
      exact wk (hmx4 () trivial) [2, 3, 4, 7, 50, 55] [[_], [_], _, _] [0, 1, 2, 3] rfl rfl
    rintro ⟨Y499, Yx499, c499, d499, p499, q499⟩ ⟨hO499, hP499⟩
    refine any_nil (by kernel_rfl) ?_
    refine ds_ (f_ (at_skip (ds_ (sq_ (ao_ (qo0 2 [(0, .go (owns 1 0 2))] [2, 3, 7] [(67, .agg #[.slice p n cap, .slice q m capv]), (68, .int .i64 k)] (cD (.tuple #[.agg #[.int .i64 0, .int .i64 0, .int .i64 0, .int .i64 0], .bool false]) Try.call36 (fun w hw => by have := gdomain_d p n cap ds q m capv vs k w (hds.kept hw.below) hn (by omega) (hvs.kept hw.below) hm (by omega); rw [fG_bad q10] at this; exact this) (mo0 6 [(7, .go (owns 0 0 4))] [2, 3, 7] (fun γ623 => [(9, .pointer (some ⟨γ623 0, 0, none⟩)), (10, .bool false)]) (fun γ623 L => bx (γ623 0) (#[.int .i64 0, .int .i64 0, .int .i64 0, .int .i64 0]) 32 :: L) (fun γ623 => on_ (ds_ (sq_ (ao_ (qo0 2 [(0, .go (owns 2 0 2))] [2, 3, 7, 9, 10] [(73, .agg #[.slice p n cap, .slice q m capv]), (74, .int .i64 k)] (cD (.tuple #[.agg #[.int .i64 0, .int .i64 0, .int .u32 0, .int .u32 0], .bool false]) Try.call37 (fun w hw => by have := gvcpu_d p n cap ds q m capv vs k w (hds.kept hw.below) hn (by omega) (hvs.kept hw.below) hm (by omega); rw [fG_bad q10] at this; exact this) (mo0 6 [(7, .go (owns 0 0 4))] [2, 3, 7, 9, 10] (fun γ625 => [(11, .pointer (some ⟨γ625 0, 0, none⟩)), (12, .bool false)]) (fun γ625 L => bx (γ625 0) (#[.int .i64 0, .int .i64 0, .int .u32 0, .int .u32 0]) 43 :: L) (fun γ625 => on_ (ds_ (sq_ ?_))))))))))))))))))
    refine at_any (by kernel_rfl) ?_
    refine tk (m := 6) [1, 4] [] [2, 3, 7, 9, 10, 11, 12] [(79, .int .i64 k), (82, .int .i64 k)] ([]) #[false, true, false, false, true, false, false, false] al0 ?_
    refine any_cutX (V := (List Ob) × (List Ob) × (Nat) × (Nat) × (Option Addr) × (Option Addr)) (fun ⟨Y669, Y729, cq669, cq729, q669, q729⟩ => SlO 3 Y669 q669 0 cq669 ([] : List Int) ∧ SlO 3 Y729 q729 0 cq729 ([] : List Int)) 0 #[true, true, true, true, true, true, true, true] (fun ⟨Y669, Y729, cq669, cq729, q669, q729⟩ => [(2, .int .i64 k), (3, .pointer (some ⟨γ1 0, 0, none⟩)), (7, .bool false), (9, .pointer (some ⟨γ623 0, 0, none⟩)), (10, .bool false), (11, .pointer (some ⟨γ625 0, 0, none⟩)), (12, .bool false), (13, .slice q669 0 cq669), (14, .slice q729 0 cq729)]) (fun ⟨Y669, Y729, cq669, cq729, q669, q729⟩ => bx (γ625 0) (#[.int .i64 0, .int .i64 0, .int .u32 0, .int .u32 0]) 43 :: bx (γ623 0) (#[.int .i64 0, .int .i64 0, .int .i64 0, .int .i64 0]) 32 :: bx (γ1 1) (#[.slice p2 n2 cap2, .slice q2 m2 capv2]) 25 :: bx (γ1 0) (#[.slice p n cap, .slice q m capv]) 25 :: (Y669 ++ (Y729 ++ (Y499 ++ (Yx499 ++ (Y13 ++ (Yx13 ++ []))))))) ?_ (fun hmx6 => ?_)
    rotate_left
    ·
     refine any_cutX (V := (List Ob) × (Nat) × (Option Addr)) (fun ⟨Y669, cq669, q669⟩ => SlO 3 Y669 q669 0 cq669 ([] : List Int)) 3 #[true, true, true, true, true, false, false, false] (fun ⟨Y669, cq669, q669⟩ => [(2, .int .i64 k), (3, .pointer (some ⟨γ1 0, 0, none⟩)), (7, .bool false), (9, .pointer (some ⟨γ623 0, 0, none⟩)), (10, .bool false), (11, .pointer (some ⟨γ625 0, 0, none⟩)), (12, .bool false), (80, .slice q669 0 cq669), (81, .agg #[.slice p n cap, .slice q m capv]), (82, .int .i64 k)]) (fun ⟨Y669, cq669, q669⟩ => bx (γ625 0) (#[.int .i64 0, .int .i64 0, .int .u32 0, .int .u32 0]) 43 :: bx (γ623 0) (#[.int .i64 0, .int .i64 0, .int .i64 0, .int .i64 0]) 32 :: bx (γ1 1) (#[.slice p2 n2 cap2, .slice q2 m2 capv2]) 25 :: bx (γ1 0) (#[.slice p n cap, .slice q m capv]) 25 :: (Y669 ++ (Y499 ++ (Yx499 ++ (Y13 ++ (Yx13 ++ [])))))) ?_ (fun hmx5 => ?_)
     ·
      rintro ⟨Y669, cq669, q669⟩ hO669
      refine a1 5 rfl ?_
      refine cP (fun v L' => ∃ q_ c_ Y_, v = .slice q_ 0 c_ ∧ L' = List.take 4 (bx (γ625 0) (#[.int .i64 0, .int .i64 0, .int .u32 0, .int .u32 0]) 43 :: bx (γ623 0) (#[.int .i64 0, .int .i64 0, .int .i64 0, .int .i64 0]) 32 :: bx (γ1 1) (#[.slice p2 n2 cap2, .slice q2 m2 capv2]) 25 :: bx (γ1 0) (#[.slice p n cap, .slice q m capv]) 25 :: (Y669 ++ (Y499 ++ (Yx499 ++ (Y13 ++ (Yx13 ++ [])))))) ++ (Y_ ++ List.drop 4 (bx (γ625 0) (#[.int .i64 0, .int .i64 0, .int .u32 0, .int .u32 0]) 43 :: bx (γ623 0) (#[.int .i64 0, .int .i64 0, .int .i64 0, .int .i64 0]) 32 :: bx (γ1 1) (#[.slice p2 n2 cap2, .slice q2 m2 capv2]) 25 :: bx (γ1 0) (#[.slice p n cap, .slice q m capv]) 25 :: (Y669 ++ (Y499 ++ (Yx499 ++ (Y13 ++ (Yx13 ++ []))))))) ∧ SlO 3 Y_ q_ 0 c_ ([] : List Int)) Try.call13 (fun w hw => by have := in_d p n cap ds q m capv vs k w (hds.kept hw.below) hn (by omega) (hvs.kept hw.below) hm (by omega); rw [lG_bad q10] at this; exact this.mono fun e w' ⟨q_, m_, c_, Y_, he, hO, hm, hb, hY⟩ => by have hl := hO.len; subst hl; exact ⟨_, _, he, ⟨q_, c_, Y_, rfl, rfl, hO⟩, hw.join hb hY 4⟩) ?_
      rintro v729 L729 ⟨q729, cq729, Y729, rfl, rfl, hO729⟩
      refine od_ ?_
      refine tk (m := 0) [6, 7] [] [2, 3, 7, 9, 10, 11, 12] [(13, .slice q669 0 cq669), (14, .slice q729 0 cq729)] ([]) #[true, true, true, true, true, true, true, true] al0 ?_
      exact wk (hmx6 (Y669, Y729, cq669, cq729, q669, q729) ⟨hO669, hO729⟩) [2, 3, 7, 9, 10, 11, 12, 13, 14] [[_], [_], [_], [_], _, _, _, _, _, _] [0, 1, 2, 3, 5, 4, 6, 7, 8, 9] rfl rfl
     refine any_cutX (V := Unit) (fun _ => True) 4 #[true, true, false, true, true, false, false, false] (fun _ => [(2, .int .i64 k), (3, .pointer (some ⟨γ1 0, 0, none⟩)), (7, .bool false), (9, .pointer (some ⟨γ623 0, 0, none⟩)), (10, .bool false), (11, .pointer (some ⟨γ625 0, 0, none⟩)), (12, .bool false), (78, .agg #[.slice p n cap, .slice q m capv]), (79, .int .i64 k), (81, .agg #[.slice p n cap, .slice q m capv]), (82, .int .i64 k)]) (fun _ => bx (γ625 0) (#[.int .i64 0, .int .i64 0, .int .u32 0, .int .u32 0]) 43 :: bx (γ623 0) (#[.int .i64 0, .int .i64 0, .int .i64 0, .int .i64 0]) 32 :: bx (γ1 1) (#[.slice p2 n2 cap2, .slice q2 m2 capv2]) 25 :: bx (γ1 0) (#[.slice p n cap, .slice q m capv]) 25 :: (Y499 ++ (Yx499 ++ (Y13 ++ (Yx13 ++ []))))) ?_ (fun hmx4 => ?_)
     ·
      rintro _ _
      refine a1 2 rfl ?_
      refine cP (fun v L' => ∃ q_ c_ Y_, v = .slice q_ 0 c_ ∧ L' = List.take 4 (bx (γ625 0) (#[.int .i64 0, .int .i64 0, .int .u32 0, .int .u32 0]) 43 :: bx (γ623 0) (#[.int .i64 0, .int .i64 0, .int .i64 0, .int .i64 0]) 32 :: bx (γ1 1) (#[.slice p2 n2 cap2, .slice q2 m2 capv2]) 25 :: bx (γ1 0) (#[.slice p n cap, .slice q m capv]) 25 :: (Y499 ++ (Yx499 ++ (Y13 ++ (Yx13 ++ []))))) ++ (Y_ ++ List.drop 4 (bx (γ625 0) (#[.int .i64 0, .int .i64 0, .int .u32 0, .int .u32 0]) 43 :: bx (γ623 0) (#[.int .i64 0, .int .i64 0, .int .i64 0, .int .i64 0]) 32 :: bx (γ1 1) (#[.slice p2 n2 cap2, .slice q2 m2 capv2]) 25 :: bx (γ1 0) (#[.slice p n cap, .slice q m capv]) 25 :: (Y499 ++ (Yx499 ++ (Y13 ++ (Yx13 ++ [])))))) ∧ SlO 3 Y_ q_ 0 c_ ([] : List Int)) Try.call11 (fun w hw => by have := of_d p n cap ds q m capv vs k w (hds.kept hw.below) hn (by omega) (hvs.kept hw.below) hm (by omega); rw [lG_bad q10] at this; exact this.mono fun e w' ⟨q_, m_, c_, Y_, he, hO, hm, hb, hY⟩ => by have hl := hO.len; subst hl; exact ⟨_, _, he, ⟨q_, c_, Y_, rfl, rfl, hO⟩, hw.join hb hY 4⟩) ?_
      rintro v669 L669 ⟨q669, cq669, Y669, rfl, rfl, hO669⟩
      refine od_ ?_
      exact wk (hmx5 (Y669, cq669, q669) hO669) [2, 3, 7, 9, 10, 11, 12, 80, 81, 82] [[_], [_], [_], [_], _, _, _, _, _] [0, 1, 2, 3, 4, 5, 6, 7, 8] rfl rfl
     refine any_cutX (V := (List Ob) × (Nat) × (Option Addr)) (fun ⟨Y669, cq669, q669⟩ => SlO 3 Y669 q669 0 cq669 ([] : List Int)) 4 #[true, true, true, false, true, false, false, false] (fun ⟨Y669, cq669, q669⟩ => [(2, .int .i64 k), (3, .pointer (some ⟨γ1 0, 0, none⟩)), (7, .bool false), (9, .pointer (some ⟨γ623 0, 0, none⟩)), (10, .bool false), (11, .pointer (some ⟨γ625 0, 0, none⟩)), (12, .bool false), (80, .slice q669 0 cq669), (82, .int .i64 k)]) (fun ⟨Y669, cq669, q669⟩ => bx (γ625 0) (#[.int .i64 0, .int .i64 0, .int .u32 0, .int .u32 0]) 43 :: bx (γ623 0) (#[.int .i64 0, .int .i64 0, .int .i64 0, .int .i64 0]) 32 :: bx (γ1 1) (#[.slice p2 n2 cap2, .slice q2 m2 capv2]) 25 :: bx (γ1 0) (#[.slice p n cap, .slice q m capv]) 25 :: (Y669 ++ (Y499 ++ (Yx499 ++ (Y13 ++ (Yx13 ++ [])))))) ?_ (fun hmx3 => ?_)
     ·
      rintro ⟨Y669, cq669, q669⟩ hO669
      refine a1 3 rfl ?_
      refine qo0 1 [(3, .go (owns 3 0 2))] [2, 3, 7, 9, 10, 11, 12, 80, 82] [(81, .agg #[.slice p n cap, .slice q m capv])] ?_
      refine od_ ?_
      exact wk (hmx5 (Y669, cq669, q669) hO669) [2, 3, 7, 9, 10, 11, 12, 80, 81, 82] [[_], [_], [_], [_], _, _, _, _, _] [0, 1, 2, 3, 4, 5, 6, 7, 8] rfl rfl
     refine any_cutX (V := Unit) (fun _ => True) 5 #[false, true, false, true, true, false, false, false] (fun _ => [(2, .int .i64 k), (3, .pointer (some ⟨γ1 0, 0, none⟩)), (7, .bool false), (9, .pointer (some ⟨γ623 0, 0, none⟩)), (10, .bool false), (11, .pointer (some ⟨γ625 0, 0, none⟩)), (12, .bool false), (79, .int .i64 k), (81, .agg #[.slice p n cap, .slice q m capv]), (82, .int .i64 k)]) (fun _ => bx (γ625 0) (#[.int .i64 0, .int .i64 0, .int .u32 0, .int .u32 0]) 43 :: bx (γ623 0) (#[.int .i64 0, .int .i64 0, .int .i64 0, .int .i64 0]) 32 :: bx (γ1 1) (#[.slice p2 n2 cap2, .slice q2 m2 capv2]) 25 :: bx (γ1 0) (#[.slice p n cap, .slice q m capv]) 25 :: (Y499 ++ (Yx499 ++ (Y13 ++ (Yx13 ++ []))))) ?_ (fun hmx2 => ?_)
     ·
      rintro _ _
      refine a1 0 rfl ?_
      refine qo0 1 [(0, .go (owns 3 0 2))] [2, 3, 7, 9, 10, 11, 12, 79, 81, 82] [(78, .agg #[.slice p n cap, .slice q m capv])] ?_
      refine od_ ?_
      exact wk (hmx4 () trivial) [2, 3, 7, 9, 10, 11, 12, 78, 79, 81, 82] [[_], [_], [_], [_], _, _, _, _] [0, 1, 2, 3, 4, 5, 6, 7] rfl rfl
     refine any_cutX (V := Unit) (fun _ => True) 5 #[true, true, false, false, true, false, false, false] (fun _ => [(2, .int .i64 k), (3, .pointer (some ⟨γ1 0, 0, none⟩)), (7, .bool false), (9, .pointer (some ⟨γ623 0, 0, none⟩)), (10, .bool false), (11, .pointer (some ⟨γ625 0, 0, none⟩)), (12, .bool false), (78, .agg #[.slice p n cap, .slice q m capv]), (79, .int .i64 k), (82, .int .i64 k)]) (fun _ => bx (γ625 0) (#[.int .i64 0, .int .i64 0, .int .u32 0, .int .u32 0]) 43 :: bx (γ623 0) (#[.int .i64 0, .int .i64 0, .int .i64 0, .int .i64 0]) 32 :: bx (γ1 1) (#[.slice p2 n2 cap2, .slice q2 m2 capv2]) 25 :: bx (γ1 0) (#[.slice p n cap, .slice q m capv]) 25 :: (Y499 ++ (Yx499 ++ (Y13 ++ (Yx13 ++ []))))) ?_ (fun hmx1 => ?_)
     ·
      rintro _ _
      refine any_fork [2, 3] (by kernel_rfl) (by simp) (each_cons _ rfl ?_ (each_cons _ rfl ?_ (each_nil)))
      ·
       refine cP (fun v L' => ∃ q_ c_ Y_, v = .slice q_ 0 c_ ∧ L' = List.take 4 (bx (γ625 0) (#[.int .i64 0, .int .i64 0, .int .u32 0, .int .u32 0]) 43 :: bx (γ623 0) (#[.int .i64 0, .int .i64 0, .int .i64 0, .int .i64 0]) 32 :: bx (γ1 1) (#[.slice p2 n2 cap2, .slice q2 m2 capv2]) 25 :: bx (γ1 0) (#[.slice p n cap, .slice q m capv]) 25 :: (Y499 ++ (Yx499 ++ (Y13 ++ (Yx13 ++ []))))) ++ (Y_ ++ List.drop 4 (bx (γ625 0) (#[.int .i64 0, .int .i64 0, .int .u32 0, .int .u32 0]) 43 :: bx (γ623 0) (#[.int .i64 0, .int .i64 0, .int .i64 0, .int .i64 0]) 32 :: bx (γ1 1) (#[.slice p2 n2 cap2, .slice q2 m2 capv2]) 25 :: bx (γ1 0) (#[.slice p n cap, .slice q m capv]) 25 :: (Y499 ++ (Yx499 ++ (Y13 ++ (Yx13 ++ [])))))) ∧ SlO 3 Y_ q_ 0 c_ ([] : List Int)) Try.call11 (fun w hw => by have := of_d p n cap ds q m capv vs k w (hds.kept hw.below) hn (by omega) (hvs.kept hw.below) hm (by omega); rw [lG_bad q10] at this; exact this.mono fun e w' ⟨q_, m_, c_, Y_, he, hO, hm, hb, hY⟩ => by have hl := hO.len; subst hl; exact ⟨_, _, he, ⟨q_, c_, Y_, rfl, rfl, hO⟩, hw.join hb hY 4⟩) ?_
       rintro v669 L669 ⟨q669, cq669, Y669, rfl, rfl, hO669⟩
       refine od_ ?_
       exact wk (hmx3 (Y669, cq669, q669) hO669) [2, 3, 7, 9, 10, 11, 12, 80, 82] [[_], [_], [_], [_], _, _, _, _, _] [0, 1, 2, 3, 4, 5, 6, 7, 8] rfl rfl
      ·
       refine qo0 1 [(3, .go (owns 3 0 2))] [2, 3, 7, 9, 10, 11, 12, 78, 79, 82] [(81, .agg #[.slice p n cap, .slice q m capv])] ?_
       refine od_ ?_
       exact wk (hmx4 () trivial) [2, 3, 7, 9, 10, 11, 12, 78, 79, 81, 82] [[_], [_], [_], [_], _, _, _, _] [0, 1, 2, 3, 4, 5, 6, 7] rfl rfl
     refine any_fork [0, 3] (by kernel_rfl) (by simp) (each_cons _ rfl ?_ (each_cons _ rfl ?_ (each_nil)))
     ·
      refine qo0 1 [(0, .go (owns 3 0 2))] [2, 3, 7, 9, 10, 11, 12, 79, 82] [(78, .agg #[.slice p n cap, .slice q m capv])] ?_
      refine od_ ?_
      exact wk (hmx1 () trivial) [2, 3, 7, 9, 10, 11, 12, 78, 79, 82] [[_], [_], [_], [_], _, _, _, _] [0, 1, 2, 3, 4, 5, 6, 7] rfl rfl
     ·
      refine qo0 1 [(3, .go (owns 3 0 2))] [2, 3, 7, 9, 10, 11, 12, 79, 82] [(81, .agg #[.slice p n cap, .slice q m capv])] ?_
      refine od_ ?_
      exact wk (hmx2 () trivial) [2, 3, 7, 9, 10, 11, 12, 79, 81, 82] [[_], [_], [_], [_], _, _, _, _] [0, 1, 2, 3, 4, 5, 6, 7] rfl rfl
    rintro ⟨Y669, Y729, cq669, cq729, q669, q729⟩ ⟨hO669, hO729⟩
    refine any_nil (by kernel_rfl) ?_
    refine ds_ (sq_ (ao_ (qo0 2 [(0, .go (owns 3 0 2))] [2, 3, 7, 9, 10, 11, 12, 13, 14] [(85, .agg #[.slice p n cap, .slice q m capv]), (86, .int .i64 k)] (cD (.tuple #[.int .i64 0, .int .i64 0, .bool false]) Try.call12 (fun w hw => by have := rate_d p n cap ds q m capv vs k w (hds.kept hw.below) hn (by omega) (hvs.kept hw.below) hm (by omega); rw [rate_bad q10] at this; exact this) (qo0 7 [] [2, 3, 7, 9, 10, 11, 12, 13, 14] [(15, .int .i64 0), (16, .int .i64 0), (17, .bool false)] (on_ (ds_ (sq_ (ao_ (qo0 2 [(0, .go (owns 3 0 2))] [2, 3, 7, 9, 10, 11, 12, 13, 14, 15, 16, 17] [(91, .agg #[.slice p n cap, .slice q m capv]), (92, .int .i64 k)] (cD (.int .i64 0) Try.call14 (fun w hw => by have := weights_d p n cap ds q m capv vs k w (hds.kept hw.below) hn (by omega) (hvs.kept hw.below) hm (by omega); rw [q10] at this; exact this) (qo0 1 [] [2, 3, 7, 9, 10, 11, 12, 13, 14, 15, 16, 17] [(18, .int .i64 0)] (on_ (ds_ (sq_ (sq_ (qa0 [] [2, 3, 9, 10, 11, 12, 13, 14, 15, 16, 17, 18] [(95, .bool true)] (ds_ (t_ (sq_ (qa [(0, .go (owns 1 0 4)), (2, .eqs true), (8, .go (owns 0 0 4)), (10, .eqs true)] [] [(6, .bool true)] ([EqRun Try.prog .eql 32 (.tmp 96) (.tmp 97) (.agg #[.int .i64 0, .int .i64 0, .int .i64 0, .int .i64 0]) (.agg #[.int .i64 0, .int .i64 0, .int .i64 0, .int .i64 0]) true] ++ ([EqRun Try.prog .eql 43 (.tmp 104) (.tmp 105) (.agg #[.int .i64 0, .int .i64 0, .int .u32 0, .int .u32 0]) (.agg #[.int .i64 0, .int .i64 0, .int .u32 0, .int .u32 0]) true])) (alA (al1 (dom_eq_t (a := (⟨0, 0, 0, 0⟩ : Dom)) (b := (⟨0, 0, 0, 0⟩ : Dom)) rfl)) (al1 (vcp_eq_t (a := (⟨0, 0, 0, 0⟩ : Vcp)) (b := (⟨0, 0, 0, 0⟩ : Vcp)) rfl))) (ds_ (rt ([]) (.bool true) ?_)))))))))))))))))))))))
    exact fun w' hw => ⟨rfl, hw.below⟩
   ·
    refine cD (.bool true) Try.call24 (fun w hw => by have := rright_d p n cap ds q m capv vs w (hds.kept hw.below) hn (by omega) (hvs.kept hw.below) hm (by omega) hr; rw [q10] at this; exact this) (qo0 1 [] [2, 3, 4] [(7, .bool true)] (on_ (ds_ (sq_ (ao_ (qo0 1 [(0, .go (owns 1 0 2))] [2, 3, 4, 7] [(35, .agg #[.slice p n cap, .slice q m capv])] (cP (fun v L' => ∃ q_ c_ Y_ q2_ c2_ X_, v = .agg #[.slice q_ n c_, .slice q2_ m c2_] ∧ L' = List.take 2 ([bx (γ1 1) (#[.slice p2 n2 cap2, .slice q2 m2 capv2]) 25, bx (γ1 0) (#[.slice p n cap, .slice q m capv]) 25]) ++ (Y_ ++ (X_ ++ List.drop 2 ([bx (γ1 1) (#[.slice p2 n2 cap2, .slice q2 m2 capv2]) 25, bx (γ1 0) (#[.slice p n cap, .slice q m capv]) 25]))) ∧ SlO 32 Y_ q_ n c_ ds ∧ SlO 43 X_ q2_ m c2_ vs) Try.call15 (fun w hw => (copied_d p n cap ds q m capv vs w (hds.kept hw.below) hn (by omega) (hvs.kept hw.below) hm (by omega)).mono fun e w' ⟨q_, c_, Y_, q2_, c2_, X_, he, h1, h2, hb, hY⟩ => ⟨_, _, he, ⟨q_, c_, Y_, q2_, c2_, X_, rfl, rfl, h1, h2⟩, hw.join2 hb hY 2⟩) ?_)))))))
    rintro v838 L838 ⟨q838, c838, Y838, p838, d838, Yx838, rfl, rfl, hO838, hP838⟩
    refine cD (.int .i64 0) Try.call10 (fun w hw => by have := gcheck_d q838 n c838 ds p838 m d838 vs w (hO838.atN (A := [_, _]) hw) hO838.len (by omega) (hP838.atN (A := (_ :: _ :: Y838)) hw) hP838.len (by omega); rw [q10] at this; exact this) (qo0 1 [] [2, 3, 4, 7] [(8, .int .i64 0)] (on_ (ds_ (sq_ (sq_ ?_)))))
    refine at_any (by kernel_rfl) ?_
    refine tk (m := 15) [0, 1, 2, 3, 4, 5, 6, 7, 8, 9, 10, 11, 12] [(3, .eqs false)] [2, 3, 4, 7] [(50, .bool false)] ([EqRun Try.prog .neq 4 (.tmp 38) (.tmp 40) (.bool true) (.bool true) false]) #[true, true, true, true, true, true, true, true, true, true, true, true, true, false, false, false, false, false, false, false, false, false, false, false, false, false, false, false] (al1 (bool_ne true true)) ?_
    refine any_cutX (V := (List Ob) × (List Ob) × (Nat) × (Nat) × (Option Addr) × (Option Addr)) (fun ⟨Y1324, Yx1324, c1324, d1324, p1324, q1324⟩ => SlO 32 Y1324 q1324 n c1324 ds ∧ SlO 43 Yx1324 p1324 m d1324 vs) 0 #[true, true, true, true, true, true, true, true, true, true, true, true, true, true, true, true, true, true, true, true, true, true, true, true, true, true, true, true] (fun ⟨Y1324, Yx1324, c1324, d1324, p1324, q1324⟩ => [(2, .int .i64 k), (3, .pointer (some ⟨γ1 0, 0, none⟩)), (7, .bool true), (65, .bool false)]) (fun ⟨Y1324, Yx1324, c1324, d1324, p1324, q1324⟩ => bx (γ1 1) (#[.slice p2 n2 cap2, .slice q2 m2 capv2]) 25 :: bx (γ1 0) (#[.slice p n cap, .slice q m capv]) 25 :: (Y1324 ++ (Yx1324 ++ (Y838 ++ (Yx838 ++ []))))) ?_ (fun hmx26 => ?_)
    rotate_left
    ·
     refine any_cutX (V := (List Ob) × (List Ob) × (Nat) × (Nat) × (Option Addr) × (Option Addr)) (fun ⟨Y1324, Yx1324, c1324, d1324, p1324, q1324⟩ => SlO 32 Y1324 q1324 n c1324 ds ∧ SlO 43 Yx1324 p1324 m d1324 vs) 3 #[true, true, true, true, true, true, true, true, true, true, true, true, true, true, true, true, true, true, true, true, true, true, true, true, true, false, false, false] (fun ⟨Y1324, Yx1324, c1324, d1324, p1324, q1324⟩ => [(2, .int .i64 k), (3, .pointer (some ⟨γ1 0, 0, none⟩)), (7, .bool true), (59, .bool false), (60, .agg #[.slice p n cap, .slice q m capv]), (62, .agg #[.slice q1324 n c1324, .slice p1324 m d1324])]) (fun ⟨Y1324, Yx1324, c1324, d1324, p1324, q1324⟩ => bx (γ1 1) (#[.slice p2 n2 cap2, .slice q2 m2 capv2]) 25 :: bx (γ1 0) (#[.slice p n cap, .slice q m capv]) 25 :: (Y1324 ++ (Yx1324 ++ (Y838 ++ (Yx838 ++ []))))) ?_ (fun hmx25 => ?_)
     ·
      rintro ⟨Y1324, Yx1324, c1324, d1324, p1324, q1324⟩ ⟨hO1324, hP1324⟩
      refine a1 25 rfl ?_
      refine cD (.bool true) Try.call35 (fun w hw => by have := same_d p n cap ds q m capv vs q1324 n c1324 ds p1324 m d1324 vs w (hds.kept hw.below) hn (by omega) (hvs.kept hw.below) hm (by omega) (hO1324.atN (A := [_, _]) hw) hO1324.len (by omega) (hP1324.atN (A := (_ :: _ :: Y1324)) hw) hP1324.len (by omega); simpa using this) ?_
      refine od_ ?_
      refine tk (m := 0) [26, 27] [] [2, 3, 7] [(65, .bool false)] ([]) #[true, true, true, true, true, true, true, true, true, true, true, true, true, true, true, true, true, true, true, true, true, true, true, true, true, true, true, true] al0 ?_
      exact wk (hmx26 (Y1324, Yx1324, c1324, d1324, p1324, q1324) ⟨hO1324, hP1324⟩) [2, 3, 7, 65] [[_], [_], _, _, _, _] [0, 1, 2, 3, 4, 5] rfl rfl
     refine any_cutX (V := (List Ob) × (List Ob) × (Nat) × (Nat) × (Option Addr) × (Option Addr)) (fun ⟨Y1324, Yx1324, c1324, d1324, p1324, q1324⟩ => SlO 32 Y1324 q1324 n c1324 ds ∧ SlO 43 Yx1324 p1324 m d1324 vs) 4 #[true, true, true, true, true, true, true, true, true, true, true, true, true, true, true, true, true, true, true, true, true, true, false, true, true, false, false, false] (fun ⟨Y1324, Yx1324, c1324, d1324, p1324, q1324⟩ => [(2, .int .i64 k), (3, .pointer (some ⟨γ1 0, 0, none⟩)), (7, .bool true), (59, .bool false), (62, .agg #[.slice q1324 n c1324, .slice p1324 m d1324])]) (fun ⟨Y1324, Yx1324, c1324, d1324, p1324, q1324⟩ => bx (γ1 1) (#[.slice p2 n2 cap2, .slice q2 m2 capv2]) 25 :: bx (γ1 0) (#[.slice p n cap, .slice q m capv]) 25 :: (Y1324 ++ (Yx1324 ++ (Y838 ++ (Yx838 ++ []))))) ?_ (fun hmx24 => ?_)
     ·
      rintro ⟨Y1324, Yx1324, c1324, d1324, p1324, q1324⟩ ⟨hO1324, hP1324⟩
      refine a1 22 rfl ?_
      refine qo0 1 [(22, .go (owns 1 0 2))] [2, 3, 7, 59, 62] [(60, .agg #[.slice p n cap, .slice q m capv])] ?_
      refine od_ ?_
      exact wk (hmx25 (Y1324, Yx1324, c1324, d1324, p1324, q1324) ⟨hO1324, hP1324⟩) [2, 3, 7, 59, 60, 62] [[_], [_], _, _, _, _] [0, 1, 2, 3, 4, 5] rfl rfl
     refine any_cutX (V := Unit) (fun _ => True) 4 #[true, true, true, true, true, true, true, true, true, true, true, true, true, true, true, true, true, true, true, true, true, true, true, true, false, false, false, false] (fun _ => [(2, .int .i64 k), (3, .pointer (some ⟨γ1 0, 0, none⟩)), (7, .bool true), (59, .bool false), (60, .agg #[.slice p n cap, .slice q m capv]), (61, .agg #[.slice p n cap, .slice q m capv])]) (fun _ => bx (γ1 1) (#[.slice p2 n2 cap2, .slice q2 m2 capv2]) 25 :: bx (γ1 0) (#[.slice p n cap, .slice q m capv]) 25 :: (Y838 ++ (Yx838 ++ []))) ?_ (fun hmx23 => ?_)
     ·
      rintro _ _
      refine a1 24 rfl ?_
      refine cP (fun v L' => ∃ q_ c_ Y_ q2_ c2_ X_, v = .agg #[.slice q_ n c_, .slice q2_ m c2_] ∧ L' = List.take 2 (bx (γ1 1) (#[.slice p2 n2 cap2, .slice q2 m2 capv2]) 25 :: bx (γ1 0) (#[.slice p n cap, .slice q m capv]) 25 :: (Y838 ++ (Yx838 ++ []))) ++ (Y_ ++ (X_ ++ List.drop 2 (bx (γ1 1) (#[.slice p2 n2 cap2, .slice q2 m2 capv2]) 25 :: bx (γ1 0) (#[.slice p n cap, .slice q m capv]) 25 :: (Y838 ++ (Yx838 ++ []))))) ∧ SlO 32 Y_ q_ n c_ ds ∧ SlO 43 X_ q2_ m c2_ vs) Try.call15 (fun w hw => (copied_d p n cap ds q m capv vs w (hds.kept hw.below) hn (by omega) (hvs.kept hw.below) hm (by omega)).mono fun e w' ⟨q_, c_, Y_, q2_, c2_, X_, he, h1, h2, hb, hY⟩ => ⟨_, _, he, ⟨q_, c_, Y_, q2_, c2_, X_, rfl, rfl, h1, h2⟩, hw.join2 hb hY 2⟩) ?_
      rintro v1324 L1324 ⟨q1324, c1324, Y1324, p1324, d1324, Yx1324, rfl, rfl, hO1324, hP1324⟩
      refine od_ ?_
      exact wk (hmx25 (Y1324, Yx1324, c1324, d1324, p1324, q1324) ⟨hO1324, hP1324⟩) [2, 3, 7, 59, 60, 62] [[_], [_], _, _, _, _] [0, 1, 2, 3, 4, 5] rfl rfl
     refine any_cutX (V := Unit) (fun _ => True) 5 #[true, true, true, true, true, true, true, true, true, true, true, true, true, true, true, true, true, true, true, true, true, true, false, true, false, false, false, false] (fun _ => [(2, .int .i64 k), (3, .pointer (some ⟨γ1 0, 0, none⟩)), (7, .bool true), (59, .bool false), (61, .agg #[.slice p n cap, .slice q m capv])]) (fun _ => bx (γ1 1) (#[.slice p2 n2 cap2, .slice q2 m2 capv2]) 25 :: bx (γ1 0) (#[.slice p n cap, .slice q m capv]) 25 :: (Y838 ++ (Yx838 ++ []))) ?_ (fun hmx22 => ?_)
     ·
      rintro _ _
      refine any_fork [22, 24] (by kernel_rfl) (by simp) (each_cons _ rfl ?_ (each_cons _ rfl ?_ (each_nil)))
      ·
       refine qo0 1 [(22, .go (owns 1 0 2))] [2, 3, 7, 59, 61] [(60, .agg #[.slice p n cap, .slice q m capv])] ?_
       refine od_ ?_
       exact wk (hmx23 () trivial) [2, 3, 7, 59, 60, 61] [[_], [_], _, _] [0, 1, 2, 3] rfl rfl
      ·
       refine cP (fun v L' => ∃ q_ c_ Y_ q2_ c2_ X_, v = .agg #[.slice q_ n c_, .slice q2_ m c2_] ∧ L' = List.take 2 (bx (γ1 1) (#[.slice p2 n2 cap2, .slice q2 m2 capv2]) 25 :: bx (γ1 0) (#[.slice p n cap, .slice q m capv]) 25 :: (Y838 ++ (Yx838 ++ []))) ++ (Y_ ++ (X_ ++ List.drop 2 (bx (γ1 1) (#[.slice p2 n2 cap2, .slice q2 m2 capv2]) 25 :: bx (γ1 0) (#[.slice p n cap, .slice q m capv]) 25 :: (Y838 ++ (Yx838 ++ []))))) ∧ SlO 32 Y_ q_ n c_ ds ∧ SlO 43 X_ q2_ m c2_ vs) Try.call15 (fun w hw => (copied_d p n cap ds q m capv vs w (hds.kept hw.below) hn (by omega) (hvs.kept hw.below) hm (by omega)).mono fun e w' ⟨q_, c_, Y_, q2_, c2_, X_, he, h1, h2, hb, hY⟩ => ⟨_, _, he, ⟨q_, c_, Y_, q2_, c2_, X_, rfl, rfl, h1, h2⟩, hw.join2 hb hY 2⟩) ?_
       rintro v1324 L1324 ⟨q1324, c1324, Y1324, p1324, d1324, Yx1324, rfl, rfl, hO1324, hP1324⟩
       refine od_ ?_
       exact wk (hmx24 (Y1324, Yx1324, c1324, d1324, p1324, q1324) ⟨hO1324, hP1324⟩) [2, 3, 7, 59, 62] [[_], [_], _, _, _, _] [0, 1, 2, 3, 4, 5] rfl rfl
     refine any_cutX (V := Unit) (fun _ => True) 5 #[true, true, true, true, true, true, true, true, true, true, true, true, true, true, true, true, true, true, true, true, true, true, true, false, false, false, false, false] (fun _ => [(2, .int .i64 k), (3, .pointer (some ⟨γ1 0, 0, none⟩)), (7, .bool true), (59, .bool false), (60, .agg #[.slice p n cap, .slice q m capv])]) (fun _ => bx (γ1 1) (#[.slice p2 n2 cap2, .slice q2 m2 capv2]) 25 :: bx (γ1 0) (#[.slice p n cap, .slice q m capv]) 25 :: (Y838 ++ (Yx838 ++ []))) ?_ (fun hmx21 => ?_)
     ·
      rintro _ _
      refine a1 23 rfl ?_
      refine qo0 1 [(23, .go (owns 1 0 2))] [2, 3, 7, 59, 60] [(61, .agg #[.slice p n cap, .slice q m capv])] ?_
      refine od_ ?_
      exact wk (hmx23 () trivial) [2, 3, 7, 59, 60, 61] [[_], [_], _, _] [0, 1, 2, 3] rfl rfl
     refine any_cutX (V := Unit) (fun _ => True) 6 #[true, true, true, true, true, true, true, true, true, true, true, true, true, true, true, true, true, true, true, true, true, true, false, false, false, false, false, false] (fun _ => [(2, .int .i64 k), (3, .pointer (some ⟨γ1 0, 0, none⟩)), (7, .bool true), (59, .bool false)]) (fun _ => bx (γ1 1) (#[.slice p2 n2 cap2, .slice q2 m2 capv2]) 25 :: bx (γ1 0) (#[.slice p n cap, .slice q m capv]) 25 :: (Y838 ++ (Yx838 ++ []))) ?_ (fun hmx20 => ?_)
     ·
      rintro _ _
      refine any_fork [22, 23] (by kernel_rfl) (by simp) (each_cons _ rfl ?_ (each_cons _ rfl ?_ (each_nil)))
      ·
       refine qo0 1 [(22, .go (owns 1 0 2))] [2, 3, 7, 59] [(60, .agg #[.slice p n cap, .slice q m capv])] ?_
       refine od_ ?_
       exact wk (hmx21 () trivial) [2, 3, 7, 59, 60] [[_], [_], _, _] [0, 1, 2, 3] rfl rfl
      ·
       refine qo0 1 [(23, .go (owns 1 0 2))] [2, 3, 7, 59] [(61, .agg #[.slice p n cap, .slice q m capv])] ?_
       refine od_ ?_
       exact wk (hmx22 () trivial) [2, 3, 7, 59, 61] [[_], [_], _, _] [0, 1, 2, 3] rfl rfl
     refine any_cutX (V := Unit) (fun _ => True) 10 #[true, true, true, true, true, true, true, true, true, true, true, true, true, true, true, true, true, true, false, false, false, false, false, false, false, false, false, false] (fun _ => [(2, .int .i64 k), (3, .pointer (some ⟨γ1 0, 0, none⟩)), (7, .bool true), (50, .bool false), (53, .bool ((decide (ds = ds2) && decide (vs = vs2)))), (54, .agg #[.slice p n cap, .slice q m capv]), (55, .agg #[.slice p2 n2 cap2, .slice q2 m2 capv2])]) (fun _ => bx (γ1 1) (#[.slice p2 n2 cap2, .slice q2 m2 capv2]) 25 :: bx (γ1 0) (#[.slice p n cap, .slice q m capv]) 25 :: (Y838 ++ (Yx838 ++ []))) ?_ (fun hmx19 => ?_)
     ·
      rintro _ _
      refine a1 18 rfl ?_
      refine cD (.bool ((decide (ds = ds2) && decide (vs = vs2)))) Try.call19 (fun w hw => by have := rsame_d p n cap ds q m capv vs p2 n2 cap2 ds2 q2 m2 capv2 vs2 w (hds.kept hw.below) hn (by omega) (hvs.kept hw.below) hm (by omega) (hds2.kept hw.below) hn2 (by omega) (hvs2.kept hw.below) hm2 (by omega); exact this) ?_
      refine od_ ?_
      refine tk (m := 6) [19, 20, 21] [(19, .eqs false)] [2, 3, 7] [(59, .bool false)] ([EqRun Try.prog .neq 4 (.tmp 53) (.tmp 56) (.bool ((decide (ds = ds2) && decide (vs = vs2)))) (.bool ((decide (ds = ds2) && decide (vs = vs2)))) false]) #[true, true, true, true, true, true, true, true, true, true, true, true, true, true, true, true, true, true, true, true, true, true, false, false, false, false, false, false] (al1 (bool_same _)) ?_
      exact wk (hmx20 () trivial) [2, 3, 7, 59] [[_], [_], _, _] [0, 1, 2, 3] rfl rfl
     refine any_cutX (V := Unit) (fun _ => True) 11 #[true, true, true, true, true, true, true, true, true, true, true, true, true, true, true, false, true, true, false, false, false, false, false, false, false, false, false, false] (fun _ => [(2, .int .i64 k), (3, .pointer (some ⟨γ1 0, 0, none⟩)), (7, .bool true), (50, .bool false), (51, .agg #[.slice p n cap, .slice q m capv]), (52, .agg #[.slice p2 n2 cap2, .slice q2 m2 capv2]), (54, .agg #[.slice p n cap, .slice q m capv]), (55, .agg #[.slice p2 n2 cap2, .slice q2 m2 capv2])]) (fun _ => bx (γ1 1) (#[.slice p2 n2 cap2, .slice q2 m2 capv2]) 25 :: bx (γ1 0) (#[.slice p n cap, .slice q m capv]) 25 :: (Y838 ++ (Yx838 ++ []))) ?_ (fun hmx18 => ?_)
     ·
      rintro _ _
      refine a1 15 rfl ?_
      refine cD (.bool ((decide (ds = ds2) && decide (vs = vs2)))) Try.call35 (fun w hw => by have := same_d p n cap ds q m capv vs p2 n2 cap2 ds2 q2 m2 capv2 vs2 w (hds.kept hw.below) hn (by omega) (hvs.kept hw.below) hm (by omega) (hds2.kept hw.below) hn2 (by omega) (hvs2.kept hw.below) hm2 (by omega); exact this) ?_
      refine od_ ?_
      exact wk (hmx19 () trivial) [2, 3, 7, 50, 53, 54, 55] [[_], [_], _, _] [0, 1, 2, 3] rfl rfl
     refine any_cutX (V := Unit) (fun _ => True) 11 #[true, true, true, true, true, true, true, true, true, true, true, true, true, true, true, true, false, true, false, false, false, false, false, false, false, false, false, false] (fun _ => [(2, .int .i64 k), (3, .pointer (some ⟨γ1 0, 0, none⟩)), (7, .bool true), (50, .bool false), (53, .bool ((decide (ds = ds2) && decide (vs = vs2)))), (55, .agg #[.slice p2 n2 cap2, .slice q2 m2 capv2])]) (fun _ => bx (γ1 1) (#[.slice p2 n2 cap2, .slice q2 m2 capv2]) 25 :: bx (γ1 0) (#[.slice p n cap, .slice q m capv]) 25 :: (Y838 ++ (Yx838 ++ []))) ?_ (fun hmx17 => ?_)
     ·
      rintro _ _
      refine a1 16 rfl ?_
      refine qo0 1 [(16, .go (owns 1 0 2))] [2, 3, 7, 50, 53, 55] [(54, .agg #[.slice p n cap, .slice q m capv])] ?_
      refine od_ ?_
      exact wk (hmx19 () trivial) [2, 3, 7, 50, 53, 54, 55] [[_], [_], _, _] [0, 1, 2, 3] rfl rfl
     refine any_cutX (V := Unit) (fun _ => True) 11 #[true, true, true, true, true, true, true, true, true, true, true, true, true, true, true, true, true, false, false, false, false, false, false, false, false, false, false, false] (fun _ => [(2, .int .i64 k), (3, .pointer (some ⟨γ1 0, 0, none⟩)), (4, .pointer (some ⟨γ1 1, 0, none⟩)), (7, .bool true), (50, .bool false), (53, .bool ((decide (ds = ds2) && decide (vs = vs2)))), (54, .agg #[.slice p n cap, .slice q m capv])]) (fun _ => bx (γ1 1) (#[.slice p2 n2 cap2, .slice q2 m2 capv2]) 25 :: bx (γ1 0) (#[.slice p n cap, .slice q m capv]) 25 :: (Y838 ++ (Yx838 ++ []))) ?_ (fun hmx16 => ?_)
     ·
      rintro _ _
      refine a1 17 rfl ?_
      refine qo0 1 [(17, .go (owns 0 0 2))] [2, 3, 7, 50, 53, 54] [(55, .agg #[.slice p2 n2 cap2, .slice q2 m2 capv2])] ?_
      refine od_ ?_
      exact wk (hmx19 () trivial) [2, 3, 7, 50, 53, 54, 55] [[_], [_], _, _] [0, 1, 2, 3] rfl rfl
     refine any_cutX (V := Unit) (fun _ => True) 12 #[true, true, true, true, true, true, true, true, true, true, true, true, true, false, true, false, true, true, false, false, false, false, false, false, false, false, false, false] (fun _ => [(2, .int .i64 k), (3, .pointer (some ⟨γ1 0, 0, none⟩)), (7, .bool true), (50, .bool false), (52, .agg #[.slice p2 n2 cap2, .slice q2 m2 capv2]), (54, .agg #[.slice p n cap, .slice q m capv]), (55, .agg #[.slice p2 n2 cap2, .slice q2 m2 capv2])]) (fun _ => bx (γ1 1) (#[.slice p2 n2 cap2, .slice q2 m2 capv2]) 25 :: bx (γ1 0) (#[.slice p n cap, .slice q m capv]) 25 :: (Y838 ++ (Yx838 ++ []))) ?_ (fun hmx15 => ?_)
     ·
      rintro _ _
      refine a1 13 rfl ?_
      refine qo0 1 [(13, .go (owns 1 0 2))] [2, 3, 7, 50, 52, 54, 55] [(51, .agg #[.slice p n cap, .slice q m capv])] ?_
      refine od_ ?_
      exact wk (hmx18 () trivial) [2, 3, 7, 50, 51, 52, 54, 55] [[_], [_], _, _] [0, 1, 2, 3] rfl rfl
     refine any_cutX (V := Unit) (fun _ => True) 12 #[true, true, true, true, true, true, true, true, true, true, true, true, true, true, false, false, true, true, false, false, false, false, false, false, false, false, false, false] (fun _ => [(2, .int .i64 k), (3, .pointer (some ⟨γ1 0, 0, none⟩)), (4, .pointer (some ⟨γ1 1, 0, none⟩)), (7, .bool true), (50, .bool false), (51, .agg #[.slice p n cap, .slice q m capv]), (54, .agg #[.slice p n cap, .slice q m capv]), (55, .agg #[.slice p2 n2 cap2, .slice q2 m2 capv2])]) (fun _ => bx (γ1 1) (#[.slice p2 n2 cap2, .slice q2 m2 capv2]) 25 :: bx (γ1 0) (#[.slice p n cap, .slice q m capv]) 25 :: (Y838 ++ (Yx838 ++ []))) ?_ (fun hmx14 => ?_)
     ·
      rintro _ _
      refine a1 14 rfl ?_
      refine qo0 1 [(14, .go (owns 0 0 2))] [2, 3, 7, 50, 51, 54, 55] [(52, .agg #[.slice p2 n2 cap2, .slice q2 m2 capv2])] ?_
      refine od_ ?_
      exact wk (hmx18 () trivial) [2, 3, 7, 50, 51, 52, 54, 55] [[_], [_], _, _] [0, 1, 2, 3] rfl rfl
     refine any_cutX (V := Unit) (fun _ => True) 12 #[true, true, true, true, true, true, true, true, true, true, true, true, true, true, true, false, false, true, false, false, false, false, false, false, false, false, false, false] (fun _ => [(2, .int .i64 k), (3, .pointer (some ⟨γ1 0, 0, none⟩)), (7, .bool true), (50, .bool false), (51, .agg #[.slice p n cap, .slice q m capv]), (52, .agg #[.slice p2 n2 cap2, .slice q2 m2 capv2]), (55, .agg #[.slice p2 n2 cap2, .slice q2 m2 capv2])]) (fun _ => bx (γ1 1) (#[.slice p2 n2 cap2, .slice q2 m2 capv2]) 25 :: bx (γ1 0) (#[.slice p n cap, .slice q m capv]) 25 :: (Y838 ++ (Yx838 ++ []))) ?_ (fun hmx13 => ?_)
     ·
      rintro _ _
      refine any_fork [15, 16] (by kernel_rfl) (by simp) (each_cons _ rfl ?_ (each_cons _ rfl ?_ (each_nil)))
      ·
       refine cD (.bool ((decide (ds = ds2) && decide (vs = vs2)))) Try.call35 (fun w hw => by have := same_d p n cap ds q m capv vs p2 n2 cap2 ds2 q2 m2 capv2 vs2 w (hds.kept hw.below) hn (by omega) (hvs.kept hw.below) hm (by omega) (hds2.kept hw.below) hn2 (by omega) (hvs2.kept hw.below) hm2 (by omega); exact this) ?_
       refine od_ ?_
       exact wk (hmx17 () trivial) [2, 3, 7, 50, 53, 55] [[_], [_], _, _] [0, 1, 2, 3] rfl rfl
      ·
       refine qo0 1 [(16, .go (owns 1 0 2))] [2, 3, 7, 50, 51, 52, 55] [(54, .agg #[.slice p n cap, .slice q m capv])] ?_
       refine od_ ?_
       exact wk (hmx18 () trivial) [2, 3, 7, 50, 51, 52, 54, 55] [[_], [_], _, _] [0, 1, 2, 3] rfl rfl
     refine any_cutX (V := Unit) (fun _ => True) 12 #[true, true, true, true, true, true, true, true, true, true, true, true, true, true, true, false, true, false, false, false, false, false, false, false, false, false, false, false] (fun _ => [(2, .int .i64 k), (3, .pointer (some ⟨γ1 0, 0, none⟩)), (4, .pointer (some ⟨γ1 1, 0, none⟩)), (7, .bool true), (50, .bool false), (51, .agg #[.slice p n cap, .slice q m capv]), (52, .agg #[.slice p2 n2 cap2, .slice q2 m2 capv2]), (54, .agg #[.slice p n cap, .slice q m capv])]) (fun _ => bx (γ1 1) (#[.slice p2 n2 cap2, .slice q2 m2 capv2]) 25 :: bx (γ1 0) (#[.slice p n cap, .slice q m capv]) 25 :: (Y838 ++ (Yx838 ++ []))) ?_ (fun hmx12 => ?_)
     ·
      rintro _ _
      refine any_fork [15, 17] (by kernel_rfl) (by simp) (each_cons _ rfl ?_ (each_cons _ rfl ?_ (each_nil)))
      ·
       refine cD (.bool ((decide (ds = ds2) && decide (vs = vs2)))) Try.call35 (fun w hw => by have := same_d p n cap ds q m capv vs p2 n2 cap2 ds2 q2 m2 capv2 vs2 w (hds.kept hw.below) hn (by omega) (hvs.kept hw.below) hm (by omega) (hds2.kept hw.below) hn2 (by omega) (hvs2.kept hw.below) hm2 (by omega); exact this) ?_
       refine od_ ?_
       exact wk (hmx16 () trivial) [2, 3, 4, 7, 50, 53, 54] [[_], [_], _, _] [0, 1, 2, 3] rfl rfl
      ·
       refine qo0 1 [(17, .go (owns 0 0 2))] [2, 3, 7, 50, 51, 52, 54] [(55, .agg #[.slice p2 n2 cap2, .slice q2 m2 capv2])] ?_
       refine od_ ?_
       exact wk (hmx18 () trivial) [2, 3, 7, 50, 51, 52, 54, 55] [[_], [_], _, _] [0, 1, 2, 3] rfl rfl
     refine any_cutX (V := Unit) (fun _ => True) 12 #[true, true, true, true, true, true, true, true, true, true, true, true, true, true, true, true, false, false, false, false, false, false, false, false, false, false, false, false] (fun _ => [(2, .int .i64 k), (3, .pointer (some ⟨γ1 0, 0, none⟩)), (4, .pointer (some ⟨γ1 1, 0, none⟩)), (7, .bool true), (50, .bool false), (53, .bool ((decide (ds = ds2) && decide (vs = vs2))))]) (fun _ => bx (γ1 1) (#[.slice p2 n2 cap2, .slice q2 m2 capv2]) 25 :: bx (γ1 0) (#[.slice p n cap, .slice q m capv]) 25 :: (Y838 ++ (Yx838 ++ []))) ?_ (fun hmx11 => ?_)
     ·
      rintro _ _
      refine any_fork [16, 17] (by kernel_rfl) (by simp) (each_cons _ rfl ?_ (each_cons _ rfl ?_ (each_nil)))
      ·
       refine qo0 1 [(16, .go (owns 1 0 2))] [2, 3, 4, 7, 50, 53] [(54, .agg #[.slice p n cap, .slice q m capv])] ?_
       refine od_ ?_
       exact wk (hmx16 () trivial) [2, 3, 4, 7, 50, 53, 54] [[_], [_], _, _] [0, 1, 2, 3] rfl rfl
      ·
       refine qo0 1 [(17, .go (owns 0 0 2))] [2, 3, 7, 50, 53] [(55, .agg #[.slice p2 n2 cap2, .slice q2 m2 capv2])] ?_
       refine od_ ?_
       exact wk (hmx17 () trivial) [2, 3, 7, 50, 53, 55] [[_], [_], _, _] [0, 1, 2, 3] rfl rfl
     refine any_cutX (V := Unit) (fun _ => True) 13 #[true, true, true, true, true, true, true, true, true, true, true, true, true, false, false, false, true, true, false, false, false, false, false, false, false, false, false, false] (fun _ => [(2, .int .i64 k), (3, .pointer (some ⟨γ1 0, 0, none⟩)), (4, .pointer (some ⟨γ1 1, 0, none⟩)), (7, .bool true), (50, .bool false), (54, .agg #[.slice p n cap, .slice q m capv]), (55, .agg #[.slice p2 n2 cap2, .slice q2 m2 capv2])]) (fun _ => bx (γ1 1) (#[.slice p2 n2 cap2, .slice q2 m2 capv2]) 25 :: bx (γ1 0) (#[.slice p n cap, .slice q m capv]) 25 :: (Y838 ++ (Yx838 ++ []))) ?_ (fun hmx10 => ?_)
     ·
      rintro _ _
      refine any_fork [13, 14] (by kernel_rfl) (by simp) (each_cons _ rfl ?_ (each_cons _ rfl ?_ (each_nil)))
      ·
       refine qo0 1 [(13, .go (owns 1 0 2))] [2, 3, 4, 7, 50, 54, 55] [(51, .agg #[.slice p n cap, .slice q m capv])] ?_
       refine od_ ?_
       exact wk (hmx14 () trivial) [2, 3, 4, 7, 50, 51, 54, 55] [[_], [_], _, _] [0, 1, 2, 3] rfl rfl
      ·
       refine qo0 1 [(14, .go (owns 0 0 2))] [2, 3, 7, 50, 54, 55] [(52, .agg #[.slice p2 n2 cap2, .slice q2 m2 capv2])] ?_
       refine od_ ?_
       exact wk (hmx15 () trivial) [2, 3, 7, 50, 52, 54, 55] [[_], [_], _, _] [0, 1, 2, 3] rfl rfl
     refine any_cutX (V := Unit) (fun _ => True) 13 #[true, true, true, true, true, true, true, true, true, true, true, true, true, false, true, false, false, true, false, false, false, false, false, false, false, false, false, false] (fun _ => [(2, .int .i64 k), (3, .pointer (some ⟨γ1 0, 0, none⟩)), (7, .bool true), (50, .bool false), (52, .agg #[.slice p2 n2 cap2, .slice q2 m2 capv2]), (55, .agg #[.slice p2 n2 cap2, .slice q2 m2 capv2])]) (fun _ => bx (γ1 1) (#[.slice p2 n2 cap2, .slice q2 m2 capv2]) 25 :: bx (γ1 0) (#[.slice p n cap, .slice q m capv]) 25 :: (Y838 ++ (Yx838 ++ []))) ?_ (fun hmx9 => ?_)
     ·
      rintro _ _
      refine any_fork [13, 16] (by kernel_rfl) (by simp) (each_cons _ rfl ?_ (each_cons _ rfl ?_ (each_nil)))
      ·
       refine qo0 1 [(13, .go (owns 1 0 2))] [2, 3, 7, 50, 52, 55] [(51, .agg #[.slice p n cap, .slice q m capv])] ?_
       refine od_ ?_
       exact wk (hmx13 () trivial) [2, 3, 7, 50, 51, 52, 55] [[_], [_], _, _] [0, 1, 2, 3] rfl rfl
      ·
       refine qo0 1 [(16, .go (owns 1 0 2))] [2, 3, 7, 50, 52, 55] [(54, .agg #[.slice p n cap, .slice q m capv])] ?_
       refine od_ ?_
       exact wk (hmx15 () trivial) [2, 3, 7, 50, 52, 54, 55] [[_], [_], _, _] [0, 1, 2, 3] rfl rfl
     refine any_cutX (V := Unit) (fun _ => True) 13 #[true, true, true, true, true, true, true, true, true, true, true, true, true, false, true, false, true, false, false, false, false, false, false, false, false, false, false, false] (fun _ => [(2, .int .i64 k), (3, .pointer (some ⟨γ1 0, 0, none⟩)), (4, .pointer (some ⟨γ1 1, 0, none⟩)), (7, .bool true), (50, .bool false), (52, .agg #[.slice p2 n2 cap2, .slice q2 m2 capv2]), (54, .agg #[.slice p n cap, .slice q m capv])]) (fun _ => bx (γ1 1) (#[.slice p2 n2 cap2, .slice q2 m2 capv2]) 25 :: bx (γ1 0) (#[.slice p n cap, .slice q m capv]) 25 :: (Y838 ++ (Yx838 ++ []))) ?_ (fun hmx8 => ?_)
     ·
      rintro _ _
      refine any_fork [13, 17] (by kernel_rfl) (by simp) (each_cons _ rfl ?_ (each_cons _ rfl ?_ (each_nil)))
      ·
       refine qo0 1 [(13, .go (owns 1 0 2))] [2, 3, 4, 7, 50, 52, 54] [(51, .agg #[.slice p n cap, .slice q m capv])] ?_
       refine od_ ?_
       exact wk (hmx12 () trivial) [2, 3, 4, 7, 50, 51, 52, 54] [[_], [_], _, _] [0, 1, 2, 3] rfl rfl
      ·
       refine qo0 1 [(17, .go (owns 0 0 2))] [2, 3, 7, 50, 52, 54] [(55, .agg #[.slice p2 n2 cap2, .slice q2 m2 capv2])] ?_
       refine od_ ?_
       exact wk (hmx15 () trivial) [2, 3, 7, 50, 52, 54, 55] [[_], [_], _, _] [0, 1, 2, 3] rfl rfl
     refine any_cutX (V := Unit) (fun _ => True) 13 #[true, true, true, true, true, true, true, true, true, true, true, true, true, true, false, false, false, true, false, false, false, false, false, false, false, false, false, false] (fun _ => [(2, .int .i64 k), (3, .pointer (some ⟨γ1 0, 0, none⟩)), (4, .pointer (some ⟨γ1 1, 0, none⟩)), (7, .bool true), (50, .bool false), (51, .agg #[.slice p n cap, .slice q m capv]), (55, .agg #[.slice p2 n2 cap2, .slice q2 m2 capv2])]) (fun _ => bx (γ1 1) (#[.slice p2 n2 cap2, .slice q2 m2 capv2]) 25 :: bx (γ1 0) (#[.slice p n cap, .slice q m capv]) 25 :: (Y838 ++ (Yx838 ++ []))) ?_ (fun hmx7 => ?_)
     ·
      rintro _ _
      refine any_fork [14, 16] (by kernel_rfl) (by simp) (each_cons _ rfl ?_ (each_cons _ rfl ?_ (each_nil)))
      ·
       refine qo0 1 [(14, .go (owns 0 0 2))] [2, 3, 7, 50, 51, 55] [(52, .agg #[.slice p2 n2 cap2, .slice q2 m2 capv2])] ?_
       refine od_ ?_
       exact wk (hmx13 () trivial) [2, 3, 7, 50, 51, 52, 55] [[_], [_], _, _] [0, 1, 2, 3] rfl rfl
      ·
       refine qo0 1 [(16, .go (owns 1 0 2))] [2, 3, 4, 7, 50, 51, 55] [(54, .agg #[.slice p n cap, .slice q m capv])] ?_
       refine od_ ?_
       exact wk (hmx14 () trivial) [2, 3, 4, 7, 50, 51, 54, 55] [[_], [_], _, _] [0, 1, 2, 3] rfl rfl
     refine any_cutX (V := Unit) (fun _ => True) 13 #[true, true, true, true, true, true, true, true, true, true, true, true, true, true, false, false, true, false, false, false, false, false, false, false, false, false, false, false] (fun _ => [(2, .int .i64 k), (3, .pointer (some ⟨γ1 0, 0, none⟩)), (4, .pointer (some ⟨γ1 1, 0, none⟩)), (7, .bool true), (50, .bool false), (51, .agg #[.slice p n cap, .slice q m capv]), (54, .agg #[.slice p n cap, .slice q m capv])]) (fun _ => bx (γ1 1) (#[.slice p2 n2 cap2, .slice q2 m2 capv2]) 25 :: bx (γ1 0) (#[.slice p n cap, .slice q m capv]) 25 :: (Y838 ++ (Yx838 ++ []))) ?_ (fun hmx6 => ?_)
     ·
      rintro _ _
      refine any_fork [14, 17] (by kernel_rfl) (by simp) (each_cons _ rfl ?_ (each_cons _ rfl ?_ (each_nil)))
      ·
       refine qo0 1 [(14, .go (owns 0 0 2))] [2, 3, 4, 7, 50, 51, 54] [(52, .agg #[.slice p2 n2 cap2, .slice q2 m2 capv2])] ?_
       refine od_ ?_
       exact wk (hmx12 () trivial) [2, 3, 4, 7, 50, 51, 52, 54] [[_], [_], _, _] [0, 1, 2, 3] rfl rfl
      ·
       refine qo0 1 [(17, .go (owns 0 0 2))] [2, 3, 4, 7, 50, 51, 54] [(55, .agg #[.slice p2 n2 cap2, .slice q2 m2 capv2])] ?_
       refine od_ ?_
       exact wk (hmx14 () trivial) [2, 3, 4, 7, 50, 51, 54, 55] [[_], [_], _, _] [0, 1, 2, 3] rfl rfl
     refine any_cutX (V := Unit) (fun _ => True) 13 #[true, true, true, true, true, true, true, true, true, true, true, true, true, true, true, false, false, false, false, false, false, false, false, false, false, false, false, false] (fun _ => [(2, .int .i64 k), (3, .pointer (some ⟨γ1 0, 0, none⟩)), (4, .pointer (some ⟨γ1 1, 0, none⟩)), (7, .bool true), (50, .bool false), (51, .agg #[.slice p n cap, .slice q m capv]), (52, .agg #[.slice p2 n2 cap2, .slice q2 m2 capv2])]) (fun _ => bx (γ1 1) (#[.slice p2 n2 cap2, .slice q2 m2 capv2]) 25 :: bx (γ1 0) (#[.slice p n cap, .slice q m capv]) 25 :: (Y838 ++ (Yx838 ++ []))) ?_ (fun hmx5 => ?_)
     ·
      rintro _ _
      refine any_fork [15, 16, 17] (by kernel_rfl) (by simp) (each_cons _ rfl ?_ (each_cons _ rfl ?_ (each_cons _ rfl ?_ (each_nil))))
      ·
       refine cD (.bool ((decide (ds = ds2) && decide (vs = vs2)))) Try.call35 (fun w hw => by have := same_d p n cap ds q m capv vs p2 n2 cap2 ds2 q2 m2 capv2 vs2 w (hds.kept hw.below) hn (by omega) (hvs.kept hw.below) hm (by omega) (hds2.kept hw.below) hn2 (by omega) (hvs2.kept hw.below) hm2 (by omega); exact this) ?_
       refine od_ ?_
       exact wk (hmx11 () trivial) [2, 3, 4, 7, 50, 53] [[_], [_], _, _] [0, 1, 2, 3] rfl rfl
      ·
       refine qo0 1 [(16, .go (owns 1 0 2))] [2, 3, 4, 7, 50, 51, 52] [(54, .agg #[.slice p n cap, .slice q m capv])] ?_
       refine od_ ?_
       exact wk (hmx12 () trivial) [2, 3, 4, 7, 50, 51, 52, 54] [[_], [_], _, _] [0, 1, 2, 3] rfl rfl
      ·
       refine qo0 1 [(17, .go (owns 0 0 2))] [2, 3, 7, 50, 51, 52] [(55, .agg #[.slice p2 n2 cap2, .slice q2 m2 capv2])] ?_
       refine od_ ?_
       exact wk (hmx13 () trivial) [2, 3, 7, 50, 51, 52, 55] [[_], [_], _, _] [0, 1, 2, 3] rfl rfl
     refine any_cutX (V := Unit) (fun _ => True) 14 #[true, true, true, true, true, true, true, true, true, true, true, true, true, false, false, false, false, true, false, false, false, false, false, false, false, false, false, false] (fun _ => [(2, .int .i64 k), (3, .pointer (some ⟨γ1 0, 0, none⟩)), (4, .pointer (some ⟨γ1 1, 0, none⟩)), (7, .bool true), (50, .bool false), (55, .agg #[.slice p2 n2 cap2, .slice q2 m2 capv2])]) (fun _ => bx (γ1 1) (#[.slice p2 n2 cap2, .slice q2 m2 capv2]) 25 :: bx (γ1 0) (#[.slice p n cap, .slice q m capv]) 25 :: (Y838 ++ (Yx838 ++ []))) ?_ (fun hmx4 => ?_)
     ·
      rintro _ _
      refine any_fork [13, 14, 16] (by kernel_rfl) (by simp) (each_cons _ rfl ?_ (each_cons _ rfl ?_ (each_cons _ rfl ?_ (each_nil))))
      ·
       refine qo0 1 [(13, .go (owns 1 0 2))] [2, 3, 4, 7, 50, 55] [(51, .agg #[.slice p n cap, .slice q m capv])] ?_
       refine od_ ?_
       exact wk (hmx7 () trivial) [2, 3, 4, 7, 50, 51, 55] [[_], [_], _, _] [0, 1, 2, 3] rfl rfl
      ·
       refine qo0 1 [(14, .go (owns 0 0 2))] [2, 3, 7, 50, 55] [(52, .agg #[.slice p2 n2 cap2, .slice q2 m2 capv2])] ?_
       refine od_ ?_
       exact wk (hmx9 () trivial) [2, 3, 7, 50, 52, 55] [[_], [_], _, _] [0, 1, 2, 3] rfl rfl
      ·
       refine qo0 1 [(16, .go (owns 1 0 2))] [2, 3, 4, 7, 50, 55] [(54, .agg #[.slice p n cap, .slice q m capv])] ?_
       refine od_ ?_
       exact wk (hmx10 () trivial) [2, 3, 4, 7, 50, 54, 55] [[_], [_], _, _] [0, 1, 2, 3] rfl rfl
     refine any_cutX (V := Unit) (fun _ => True) 14 #[true, true, true, true, true, true, true, true, true, true, true, true, true, false, false, false, true, false, false, false, false, false, false, false, false, false, false, false] (fun _ => [(2, .int .i64 k), (3, .pointer (some ⟨γ1 0, 0, none⟩)), (4, .pointer (some ⟨γ1 1, 0, none⟩)), (7, .bool true), (50, .bool false), (54, .agg #[.slice p n cap, .slice q m capv])]) (fun _ => bx (γ1 1) (#[.slice p2 n2 cap2, .slice q2 m2 capv2]) 25 :: bx (γ1 0) (#[.slice p n cap, .slice q m capv]) 25 :: (Y838 ++ (Yx838 ++ []))) ?_ (fun hmx3 => ?_)
     ·
      rintro _ _
      refine any_fork [13, 14, 17] (by kernel_rfl) (by simp) (each_cons _ rfl ?_ (each_cons _ rfl ?_ (each_cons _ rfl ?_ (each_nil))))
      ·
       refine qo0 1 [(13, .go (owns 1 0 2))] [2, 3, 4, 7, 50, 54] [(51, .agg #[.slice p n cap, .slice q m capv])] ?_
       refine od_ ?_
       exact wk (hmx6 () trivial) [2, 3, 4, 7, 50, 51, 54] [[_], [_], _, _] [0, 1, 2, 3] rfl rfl
      ·
       refine qo0 1 [(14, .go (owns 0 0 2))] [2, 3, 4, 7, 50, 54] [(52, .agg #[.slice p2 n2 cap2, .slice q2 m2 capv2])] ?_
       refine od_ ?_
       exact wk (hmx8 () trivial) [2, 3, 4, 7, 50, 52, 54] [[_], [_], _, _] [0, 1, 2, 3] rfl rfl
      ·
       refine qo0 1 [(17, .go (owns 0 0 2))] [2, 3, 4, 7, 50, 54] [(55, .agg #[.slice p2 n2 cap2, .slice q2 m2 capv2])] ?_
       refine od_ ?_
       exact wk (hmx10 () trivial) [2, 3, 4, 7, 50, 54, 55] [[_], [_], _, _] [0, 1, 2, 3] rfl rfl
     refine any_cutX (V := Unit) (fun _ => True) 14 #[true, true, true, true, true, true, true, true, true, true, true, true, true, false, true, false, false, false, false, false, false, false, false, false, false, false, false, false] (fun _ => [(2, .int .i64 k), (3, .pointer (some ⟨γ1 0, 0, none⟩)), (4, .pointer (some ⟨γ1 1, 0, none⟩)), (7, .bool true), (50, .bool false), (52, .agg #[.slice p2 n2 cap2, .slice q2 m2 capv2])]) (fun _ => bx (γ1 1) (#[.slice p2 n2 cap2, .slice q2 m2 capv2]) 25 :: bx (γ1 0) (#[.slice p n cap, .slice q m capv]) 25 :: (Y838 ++ (Yx838 ++ []))) ?_ (fun hmx2 => ?_)
     ·
      rintro _ _
      refine any_fork [13, 16, 17] (by kernel_rfl) (by simp) (each_cons _ rfl ?_ (each_cons _ rfl ?_ (each_cons _ rfl ?_ (each_nil))))
      ·
       refine qo0 1 [(13, .go (owns 1 0 2))] [2, 3, 4, 7, 50, 52] [(51, .agg #[.slice p n cap, .slice q m capv])] ?_
       refine od_ ?_
       exact wk (hmx5 () trivial) [2, 3, 4, 7, 50, 51, 52] [[_], [_], _, _] [0, 1, 2, 3] rfl rfl
      ·
       refine qo0 1 [(16, .go (owns 1 0 2))] [2, 3, 4, 7, 50, 52] [(54, .agg #[.slice p n cap, .slice q m capv])] ?_
       refine od_ ?_
       exact wk (hmx8 () trivial) [2, 3, 4, 7, 50, 52, 54] [[_], [_], _, _] [0, 1, 2, 3] rfl rfl
      ·
       refine qo0 1 [(17, .go (owns 0 0 2))] [2, 3, 7, 50, 52] [(55, .agg #[.slice p2 n2 cap2, .slice q2 m2 capv2])] ?_
       refine od_ ?_
       exact wk (hmx9 () trivial) [2, 3, 7, 50, 52, 55] [[_], [_], _, _] [0, 1, 2, 3] rfl rfl
     refine any_cutX (V := Unit) (fun _ => True) 14 #[true, true, true, true, true, true, true, true, true, true, true, true, true, true, false, false, false, false, false, false, false, false, false, false, false, false, false, false] (fun _ => [(2, .int .i64 k), (3, .pointer (some ⟨γ1 0, 0, none⟩)), (4, .pointer (some ⟨γ1 1, 0, none⟩)), (7, .bool true), (50, .bool false), (51, .agg #[.slice p n cap, .slice q m capv])]) (fun _ => bx (γ1 1) (#[.slice p2 n2 cap2, .slice q2 m2 capv2]) 25 :: bx (γ1 0) (#[.slice p n cap, .slice q m capv]) 25 :: (Y838 ++ (Yx838 ++ []))) ?_ (fun hmx1 => ?_)
     ·
      rintro _ _
      refine any_fork [14, 16, 17] (by kernel_rfl) (by simp) (each_cons _ rfl ?_ (each_cons _ rfl ?_ (each_cons _ rfl ?_ (each_nil))))
      ·
       refine qo0 1 [(14, .go (owns 0 0 2))] [2, 3, 4, 7, 50, 51] [(52, .agg #[.slice p2 n2 cap2, .slice q2 m2 capv2])] ?_
       refine od_ ?_
       exact wk (hmx5 () trivial) [2, 3, 4, 7, 50, 51, 52] [[_], [_], _, _] [0, 1, 2, 3] rfl rfl
      ·
       refine qo0 1 [(16, .go (owns 1 0 2))] [2, 3, 4, 7, 50, 51] [(54, .agg #[.slice p n cap, .slice q m capv])] ?_
       refine od_ ?_
       exact wk (hmx6 () trivial) [2, 3, 4, 7, 50, 51, 54] [[_], [_], _, _] [0, 1, 2, 3] rfl rfl
      ·
       refine qo0 1 [(17, .go (owns 0 0 2))] [2, 3, 4, 7, 50, 51] [(55, .agg #[.slice p2 n2 cap2, .slice q2 m2 capv2])] ?_
       refine od_ ?_
       exact wk (hmx7 () trivial) [2, 3, 4, 7, 50, 51, 55] [[_], [_], _, _] [0, 1, 2, 3] rfl rfl
     refine any_fork [13, 14, 16, 17] (by kernel_rfl) (by simp) (each_cons _ rfl ?_ (each_cons _ rfl ?_ (each_cons _ rfl ?_ (each_cons _ rfl ?_ (each_nil)))))
     ·
      refine qo0 1 [(13, .go (owns 1 0 2))] [2, 3, 4, 7, 50] [(51, .agg #[.slice p n cap, .slice q m capv])] ?_
      refine od_ ?_
      exact wk (hmx1 () trivial) [2, 3, 4, 7, 50, 51] [[_], [_], _, _] [0, 1, 2, 3] rfl rfl
     ·
      refine qo0 1 [(14, .go (owns 0 0 2))] [2, 3, 4, 7, 50] [(52, .agg #[.slice p2 n2 cap2, .slice q2 m2 capv2])] ?_
      refine od_ ?_
      exact wk (hmx2 () trivial) [2, 3, 4, 7, 50, 52] [[_], [_], _, _] [0, 1, 2, 3] rfl rfl
     ·
      refine qo0 1 [(16, .go (owns 1 0 2))] [2, 3, 4, 7, 50] [(54, .agg #[.slice p n cap, .slice q m capv])] ?_
      refine od_ ?_
      exact wk (hmx3 () trivial) [2, 3, 4, 7, 50, 54] [[_], [_], _, _] [0, 1, 2, 3] rfl rfl
     ·
      refine qo0 1 [(17, .go (owns 0 0 2))] [2, 3, 4, 7, 50] [(55, .agg #[.slice p2 n2 cap2, .slice q2 m2 capv2])] ?_
      refine od_ ?_
      exact wk (hmx4 () trivial) [2, 3, 4, 7, 50, 55] [[_], [_], _, _] [0, 1, 2, 3] rfl rfl
    rintro ⟨Y1324, Yx1324, c1324, d1324, p1324, q1324⟩ ⟨hO1324, hP1324⟩
    refine any_nil (by kernel_rfl) ?_
    refine ds_ (f_ (at_skip (ds_ (sq_ (ao_ (qo0 2 [(0, .go (owns 1 0 2))] [2, 3, 7] [(67, .agg #[.slice p n cap, .slice q m capv]), (68, .int .i64 k)] (cD (.tuple #[.agg #[.int .i64 ((rowD (getK Dom.id ds k)).id), .int .i64 ((rowD (getK Dom.id ds k)).weight), .int .i64 ((rowD (getK Dom.id ds k)).cap), .int .i64 ((rowD (getK Dom.id ds k)).pool)], .bool ((getK Dom.id ds k).isSome)]) Try.call36 (fun w hw => by have := gdomain_d p n cap ds q m capv vs k w (hds.kept hw.below) hn (by omega) (hvs.kept hw.below) hm (by omega); rw [fG_ok q10, optD_row] at this; exact this) (mo0 6 [(7, .go (owns 0 0 4))] [2, 3, 7] (fun γ1448 => [(9, .pointer (some ⟨γ1448 0, 0, none⟩)), (10, .bool ((getK Dom.id ds k).isSome))]) (fun γ1448 L => bx (γ1448 0) (#[.int .i64 ((rowD (getK Dom.id ds k)).id), .int .i64 ((rowD (getK Dom.id ds k)).weight), .int .i64 ((rowD (getK Dom.id ds k)).cap), .int .i64 ((rowD (getK Dom.id ds k)).pool)]) 32 :: L) (fun γ1448 => on_ (ds_ (sq_ (ao_ (qo0 2 [(0, .go (owns 2 0 2))] [2, 3, 7, 9, 10] [(73, .agg #[.slice p n cap, .slice q m capv]), (74, .int .i64 k)] (cD (.tuple #[.agg #[.int .i64 ((rowC (getK Vcp.id vs k)).id), .int .i64 ((rowC (getK Vcp.id vs k)).dom), .int .u32 ((rowC (getK Vcp.id vs k)).hard), .int .u32 ((rowC (getK Vcp.id vs k)).soft)], .bool ((getK Vcp.id vs k).isSome)]) Try.call37 (fun w hw => by have := gvcpu_d p n cap ds q m capv vs k w (hds.kept hw.below) hn (by omega) (hvs.kept hw.below) hm (by omega); rw [fG_ok q10, optC_row] at this; exact this) (mo0 6 [(7, .go (owns 0 0 4))] [2, 3, 7, 9, 10] (fun γ1450 => [(11, .pointer (some ⟨γ1450 0, 0, none⟩)), (12, .bool ((getK Vcp.id vs k).isSome))]) (fun γ1450 L => bx (γ1450 0) (#[.int .i64 ((rowC (getK Vcp.id vs k)).id), .int .i64 ((rowC (getK Vcp.id vs k)).dom), .int .u32 ((rowC (getK Vcp.id vs k)).hard), .int .u32 ((rowC (getK Vcp.id vs k)).soft)]) 43 :: L) (fun γ1450 => on_ (ds_ (sq_ ?_))))))))))))))))))
    refine at_any (by kernel_rfl) ?_
    refine tk (m := 6) [1, 4] [] [2, 3, 7, 9, 10, 11, 12] [(79, .int .i64 k), (82, .int .i64 k)] ([]) #[false, true, false, false, true, false, false, false] al0 ?_
    refine any_cutX (V := (List Ob) × (List Ob) × (Nat) × (Nat) × (Option Addr) × (Option Addr)) (fun ⟨Y1494, Y1554, cq1494, cq1554, q1494, q1554⟩ => SlO 3 Y1494 q1494 ((ofV vs k).length) cq1494 (ofV vs k) ∧ SlO 3 Y1554 q1554 ((inV ds vs k).length) cq1554 (inV ds vs k)) 0 #[true, true, true, true, true, true, true, true] (fun ⟨Y1494, Y1554, cq1494, cq1554, q1494, q1554⟩ => [(2, .int .i64 k), (3, .pointer (some ⟨γ1 0, 0, none⟩)), (7, .bool true), (9, .pointer (some ⟨γ1448 0, 0, none⟩)), (10, .bool ((getK Dom.id ds k).isSome)), (11, .pointer (some ⟨γ1450 0, 0, none⟩)), (12, .bool ((getK Vcp.id vs k).isSome)), (13, .slice q1494 ((ofV vs k).length) cq1494), (14, .slice q1554 ((inV ds vs k).length) cq1554)]) (fun ⟨Y1494, Y1554, cq1494, cq1554, q1494, q1554⟩ => bx (γ1450 0) (#[.int .i64 ((rowC (getK Vcp.id vs k)).id), .int .i64 ((rowC (getK Vcp.id vs k)).dom), .int .u32 ((rowC (getK Vcp.id vs k)).hard), .int .u32 ((rowC (getK Vcp.id vs k)).soft)]) 43 :: bx (γ1448 0) (#[.int .i64 ((rowD (getK Dom.id ds k)).id), .int .i64 ((rowD (getK Dom.id ds k)).weight), .int .i64 ((rowD (getK Dom.id ds k)).cap), .int .i64 ((rowD (getK Dom.id ds k)).pool)]) 32 :: bx (γ1 1) (#[.slice p2 n2 cap2, .slice q2 m2 capv2]) 25 :: bx (γ1 0) (#[.slice p n cap, .slice q m capv]) 25 :: (Y1494 ++ (Y1554 ++ (Y1324 ++ (Yx1324 ++ (Y838 ++ (Yx838 ++ []))))))) ?_ (fun hmx6 => ?_)
    rotate_left
    ·
     refine any_cutX (V := (List Ob) × (Nat) × (Option Addr)) (fun ⟨Y1494, cq1494, q1494⟩ => SlO 3 Y1494 q1494 ((ofV vs k).length) cq1494 (ofV vs k)) 3 #[true, true, true, true, true, false, false, false] (fun ⟨Y1494, cq1494, q1494⟩ => [(2, .int .i64 k), (3, .pointer (some ⟨γ1 0, 0, none⟩)), (7, .bool true), (9, .pointer (some ⟨γ1448 0, 0, none⟩)), (10, .bool ((getK Dom.id ds k).isSome)), (11, .pointer (some ⟨γ1450 0, 0, none⟩)), (12, .bool ((getK Vcp.id vs k).isSome)), (80, .slice q1494 ((ofV vs k).length) cq1494), (81, .agg #[.slice p n cap, .slice q m capv]), (82, .int .i64 k)]) (fun ⟨Y1494, cq1494, q1494⟩ => bx (γ1450 0) (#[.int .i64 ((rowC (getK Vcp.id vs k)).id), .int .i64 ((rowC (getK Vcp.id vs k)).dom), .int .u32 ((rowC (getK Vcp.id vs k)).hard), .int .u32 ((rowC (getK Vcp.id vs k)).soft)]) 43 :: bx (γ1448 0) (#[.int .i64 ((rowD (getK Dom.id ds k)).id), .int .i64 ((rowD (getK Dom.id ds k)).weight), .int .i64 ((rowD (getK Dom.id ds k)).cap), .int .i64 ((rowD (getK Dom.id ds k)).pool)]) 32 :: bx (γ1 1) (#[.slice p2 n2 cap2, .slice q2 m2 capv2]) 25 :: bx (γ1 0) (#[.slice p n cap, .slice q m capv]) 25 :: (Y1494 ++ (Y1324 ++ (Yx1324 ++ (Y838 ++ (Yx838 ++ [])))))) ?_ (fun hmx5 => ?_)
     ·
      rintro ⟨Y1494, cq1494, q1494⟩ hO1494
      refine a1 5 rfl ?_
      refine cP (fun v L' => ∃ q_ c_ Y_, v = .slice q_ ((inV ds vs k).length) c_ ∧ L' = List.take 4 (bx (γ1450 0) (#[.int .i64 ((rowC (getK Vcp.id vs k)).id), .int .i64 ((rowC (getK Vcp.id vs k)).dom), .int .u32 ((rowC (getK Vcp.id vs k)).hard), .int .u32 ((rowC (getK Vcp.id vs k)).soft)]) 43 :: bx (γ1448 0) (#[.int .i64 ((rowD (getK Dom.id ds k)).id), .int .i64 ((rowD (getK Dom.id ds k)).weight), .int .i64 ((rowD (getK Dom.id ds k)).cap), .int .i64 ((rowD (getK Dom.id ds k)).pool)]) 32 :: bx (γ1 1) (#[.slice p2 n2 cap2, .slice q2 m2 capv2]) 25 :: bx (γ1 0) (#[.slice p n cap, .slice q m capv]) 25 :: (Y1494 ++ (Y1324 ++ (Yx1324 ++ (Y838 ++ (Yx838 ++ [])))))) ++ (Y_ ++ List.drop 4 (bx (γ1450 0) (#[.int .i64 ((rowC (getK Vcp.id vs k)).id), .int .i64 ((rowC (getK Vcp.id vs k)).dom), .int .u32 ((rowC (getK Vcp.id vs k)).hard), .int .u32 ((rowC (getK Vcp.id vs k)).soft)]) 43 :: bx (γ1448 0) (#[.int .i64 ((rowD (getK Dom.id ds k)).id), .int .i64 ((rowD (getK Dom.id ds k)).weight), .int .i64 ((rowD (getK Dom.id ds k)).cap), .int .i64 ((rowD (getK Dom.id ds k)).pool)]) 32 :: bx (γ1 1) (#[.slice p2 n2 cap2, .slice q2 m2 capv2]) 25 :: bx (γ1 0) (#[.slice p n cap, .slice q m capv]) 25 :: (Y1494 ++ (Y1324 ++ (Yx1324 ++ (Y838 ++ (Yx838 ++ []))))))) ∧ SlO 3 Y_ q_ ((inV ds vs k).length) c_ (inV ds vs k)) Try.call13 (fun w hw => by have := in_d p n cap ds q m capv vs k w (hds.kept hw.below) hn (by omega) (hvs.kept hw.below) hm (by omega); rw [lG_ok q10] at this; exact this.mono fun e w' ⟨q_, m_, c_, Y_, he, hO, hm, hb, hY⟩ => by have hl := hO.len; subst hl; exact ⟨_, _, he, ⟨q_, c_, Y_, rfl, rfl, hO⟩, hw.join hb hY 4⟩) ?_
      rintro v1554 L1554 ⟨q1554, cq1554, Y1554, rfl, rfl, hO1554⟩
      refine od_ ?_
      refine tk (m := 0) [6, 7] [] [2, 3, 7, 9, 10, 11, 12] [(13, .slice q1494 ((ofV vs k).length) cq1494), (14, .slice q1554 ((inV ds vs k).length) cq1554)] ([]) #[true, true, true, true, true, true, true, true] al0 ?_
      exact wk (hmx6 (Y1494, Y1554, cq1494, cq1554, q1494, q1554) ⟨hO1494, hO1554⟩) [2, 3, 7, 9, 10, 11, 12, 13, 14] [[_], [_], [_], [_], _, _, _, _, _, _] [0, 1, 2, 3, 5, 4, 6, 7, 8, 9] rfl rfl
     refine any_cutX (V := Unit) (fun _ => True) 4 #[true, true, false, true, true, false, false, false] (fun _ => [(2, .int .i64 k), (3, .pointer (some ⟨γ1 0, 0, none⟩)), (7, .bool true), (9, .pointer (some ⟨γ1448 0, 0, none⟩)), (10, .bool ((getK Dom.id ds k).isSome)), (11, .pointer (some ⟨γ1450 0, 0, none⟩)), (12, .bool ((getK Vcp.id vs k).isSome)), (78, .agg #[.slice p n cap, .slice q m capv]), (79, .int .i64 k), (81, .agg #[.slice p n cap, .slice q m capv]), (82, .int .i64 k)]) (fun _ => bx (γ1450 0) (#[.int .i64 ((rowC (getK Vcp.id vs k)).id), .int .i64 ((rowC (getK Vcp.id vs k)).dom), .int .u32 ((rowC (getK Vcp.id vs k)).hard), .int .u32 ((rowC (getK Vcp.id vs k)).soft)]) 43 :: bx (γ1448 0) (#[.int .i64 ((rowD (getK Dom.id ds k)).id), .int .i64 ((rowD (getK Dom.id ds k)).weight), .int .i64 ((rowD (getK Dom.id ds k)).cap), .int .i64 ((rowD (getK Dom.id ds k)).pool)]) 32 :: bx (γ1 1) (#[.slice p2 n2 cap2, .slice q2 m2 capv2]) 25 :: bx (γ1 0) (#[.slice p n cap, .slice q m capv]) 25 :: (Y1324 ++ (Yx1324 ++ (Y838 ++ (Yx838 ++ []))))) ?_ (fun hmx4 => ?_)
     ·
      rintro _ _
      refine a1 2 rfl ?_
      refine cP (fun v L' => ∃ q_ c_ Y_, v = .slice q_ ((ofV vs k).length) c_ ∧ L' = List.take 4 (bx (γ1450 0) (#[.int .i64 ((rowC (getK Vcp.id vs k)).id), .int .i64 ((rowC (getK Vcp.id vs k)).dom), .int .u32 ((rowC (getK Vcp.id vs k)).hard), .int .u32 ((rowC (getK Vcp.id vs k)).soft)]) 43 :: bx (γ1448 0) (#[.int .i64 ((rowD (getK Dom.id ds k)).id), .int .i64 ((rowD (getK Dom.id ds k)).weight), .int .i64 ((rowD (getK Dom.id ds k)).cap), .int .i64 ((rowD (getK Dom.id ds k)).pool)]) 32 :: bx (γ1 1) (#[.slice p2 n2 cap2, .slice q2 m2 capv2]) 25 :: bx (γ1 0) (#[.slice p n cap, .slice q m capv]) 25 :: (Y1324 ++ (Yx1324 ++ (Y838 ++ (Yx838 ++ []))))) ++ (Y_ ++ List.drop 4 (bx (γ1450 0) (#[.int .i64 ((rowC (getK Vcp.id vs k)).id), .int .i64 ((rowC (getK Vcp.id vs k)).dom), .int .u32 ((rowC (getK Vcp.id vs k)).hard), .int .u32 ((rowC (getK Vcp.id vs k)).soft)]) 43 :: bx (γ1448 0) (#[.int .i64 ((rowD (getK Dom.id ds k)).id), .int .i64 ((rowD (getK Dom.id ds k)).weight), .int .i64 ((rowD (getK Dom.id ds k)).cap), .int .i64 ((rowD (getK Dom.id ds k)).pool)]) 32 :: bx (γ1 1) (#[.slice p2 n2 cap2, .slice q2 m2 capv2]) 25 :: bx (γ1 0) (#[.slice p n cap, .slice q m capv]) 25 :: (Y1324 ++ (Yx1324 ++ (Y838 ++ (Yx838 ++ [])))))) ∧ SlO 3 Y_ q_ ((ofV vs k).length) c_ (ofV vs k)) Try.call11 (fun w hw => by have := of_d p n cap ds q m capv vs k w (hds.kept hw.below) hn (by omega) (hvs.kept hw.below) hm (by omega); rw [lG_ok q10] at this; exact this.mono fun e w' ⟨q_, m_, c_, Y_, he, hO, hm, hb, hY⟩ => by have hl := hO.len; subst hl; exact ⟨_, _, he, ⟨q_, c_, Y_, rfl, rfl, hO⟩, hw.join hb hY 4⟩) ?_
      rintro v1494 L1494 ⟨q1494, cq1494, Y1494, rfl, rfl, hO1494⟩
      refine od_ ?_
      exact wk (hmx5 (Y1494, cq1494, q1494) hO1494) [2, 3, 7, 9, 10, 11, 12, 80, 81, 82] [[_], [_], [_], [_], _, _, _, _, _] [0, 1, 2, 3, 4, 5, 6, 7, 8] rfl rfl
     refine any_cutX (V := (List Ob) × (Nat) × (Option Addr)) (fun ⟨Y1494, cq1494, q1494⟩ => SlO 3 Y1494 q1494 ((ofV vs k).length) cq1494 (ofV vs k)) 4 #[true, true, true, false, true, false, false, false] (fun ⟨Y1494, cq1494, q1494⟩ => [(2, .int .i64 k), (3, .pointer (some ⟨γ1 0, 0, none⟩)), (7, .bool true), (9, .pointer (some ⟨γ1448 0, 0, none⟩)), (10, .bool ((getK Dom.id ds k).isSome)), (11, .pointer (some ⟨γ1450 0, 0, none⟩)), (12, .bool ((getK Vcp.id vs k).isSome)), (80, .slice q1494 ((ofV vs k).length) cq1494), (82, .int .i64 k)]) (fun ⟨Y1494, cq1494, q1494⟩ => bx (γ1450 0) (#[.int .i64 ((rowC (getK Vcp.id vs k)).id), .int .i64 ((rowC (getK Vcp.id vs k)).dom), .int .u32 ((rowC (getK Vcp.id vs k)).hard), .int .u32 ((rowC (getK Vcp.id vs k)).soft)]) 43 :: bx (γ1448 0) (#[.int .i64 ((rowD (getK Dom.id ds k)).id), .int .i64 ((rowD (getK Dom.id ds k)).weight), .int .i64 ((rowD (getK Dom.id ds k)).cap), .int .i64 ((rowD (getK Dom.id ds k)).pool)]) 32 :: bx (γ1 1) (#[.slice p2 n2 cap2, .slice q2 m2 capv2]) 25 :: bx (γ1 0) (#[.slice p n cap, .slice q m capv]) 25 :: (Y1494 ++ (Y1324 ++ (Yx1324 ++ (Y838 ++ (Yx838 ++ [])))))) ?_ (fun hmx3 => ?_)
     ·
      rintro ⟨Y1494, cq1494, q1494⟩ hO1494
      refine a1 3 rfl ?_
      refine qo0 1 [(3, .go (owns 3 0 2))] [2, 3, 7, 9, 10, 11, 12, 80, 82] [(81, .agg #[.slice p n cap, .slice q m capv])] ?_
      refine od_ ?_
      exact wk (hmx5 (Y1494, cq1494, q1494) hO1494) [2, 3, 7, 9, 10, 11, 12, 80, 81, 82] [[_], [_], [_], [_], _, _, _, _, _] [0, 1, 2, 3, 4, 5, 6, 7, 8] rfl rfl
     refine any_cutX (V := Unit) (fun _ => True) 5 #[false, true, false, true, true, false, false, false] (fun _ => [(2, .int .i64 k), (3, .pointer (some ⟨γ1 0, 0, none⟩)), (7, .bool true), (9, .pointer (some ⟨γ1448 0, 0, none⟩)), (10, .bool ((getK Dom.id ds k).isSome)), (11, .pointer (some ⟨γ1450 0, 0, none⟩)), (12, .bool ((getK Vcp.id vs k).isSome)), (79, .int .i64 k), (81, .agg #[.slice p n cap, .slice q m capv]), (82, .int .i64 k)]) (fun _ => bx (γ1450 0) (#[.int .i64 ((rowC (getK Vcp.id vs k)).id), .int .i64 ((rowC (getK Vcp.id vs k)).dom), .int .u32 ((rowC (getK Vcp.id vs k)).hard), .int .u32 ((rowC (getK Vcp.id vs k)).soft)]) 43 :: bx (γ1448 0) (#[.int .i64 ((rowD (getK Dom.id ds k)).id), .int .i64 ((rowD (getK Dom.id ds k)).weight), .int .i64 ((rowD (getK Dom.id ds k)).cap), .int .i64 ((rowD (getK Dom.id ds k)).pool)]) 32 :: bx (γ1 1) (#[.slice p2 n2 cap2, .slice q2 m2 capv2]) 25 :: bx (γ1 0) (#[.slice p n cap, .slice q m capv]) 25 :: (Y1324 ++ (Yx1324 ++ (Y838 ++ (Yx838 ++ []))))) ?_ (fun hmx2 => ?_)
     ·
      rintro _ _
      refine a1 0 rfl ?_
      refine qo0 1 [(0, .go (owns 3 0 2))] [2, 3, 7, 9, 10, 11, 12, 79, 81, 82] [(78, .agg #[.slice p n cap, .slice q m capv])] ?_
      refine od_ ?_
      exact wk (hmx4 () trivial) [2, 3, 7, 9, 10, 11, 12, 78, 79, 81, 82] [[_], [_], [_], [_], _, _, _, _] [0, 1, 2, 3, 4, 5, 6, 7] rfl rfl
     refine any_cutX (V := Unit) (fun _ => True) 5 #[true, true, false, false, true, false, false, false] (fun _ => [(2, .int .i64 k), (3, .pointer (some ⟨γ1 0, 0, none⟩)), (7, .bool true), (9, .pointer (some ⟨γ1448 0, 0, none⟩)), (10, .bool ((getK Dom.id ds k).isSome)), (11, .pointer (some ⟨γ1450 0, 0, none⟩)), (12, .bool ((getK Vcp.id vs k).isSome)), (78, .agg #[.slice p n cap, .slice q m capv]), (79, .int .i64 k), (82, .int .i64 k)]) (fun _ => bx (γ1450 0) (#[.int .i64 ((rowC (getK Vcp.id vs k)).id), .int .i64 ((rowC (getK Vcp.id vs k)).dom), .int .u32 ((rowC (getK Vcp.id vs k)).hard), .int .u32 ((rowC (getK Vcp.id vs k)).soft)]) 43 :: bx (γ1448 0) (#[.int .i64 ((rowD (getK Dom.id ds k)).id), .int .i64 ((rowD (getK Dom.id ds k)).weight), .int .i64 ((rowD (getK Dom.id ds k)).cap), .int .i64 ((rowD (getK Dom.id ds k)).pool)]) 32 :: bx (γ1 1) (#[.slice p2 n2 cap2, .slice q2 m2 capv2]) 25 :: bx (γ1 0) (#[.slice p n cap, .slice q m capv]) 25 :: (Y1324 ++ (Yx1324 ++ (Y838 ++ (Yx838 ++ []))))) ?_ (fun hmx1 => ?_)
     ·
      rintro _ _
      refine any_fork [2, 3] (by kernel_rfl) (by simp) (each_cons _ rfl ?_ (each_cons _ rfl ?_ (each_nil)))
      ·
       refine cP (fun v L' => ∃ q_ c_ Y_, v = .slice q_ ((ofV vs k).length) c_ ∧ L' = List.take 4 (bx (γ1450 0) (#[.int .i64 ((rowC (getK Vcp.id vs k)).id), .int .i64 ((rowC (getK Vcp.id vs k)).dom), .int .u32 ((rowC (getK Vcp.id vs k)).hard), .int .u32 ((rowC (getK Vcp.id vs k)).soft)]) 43 :: bx (γ1448 0) (#[.int .i64 ((rowD (getK Dom.id ds k)).id), .int .i64 ((rowD (getK Dom.id ds k)).weight), .int .i64 ((rowD (getK Dom.id ds k)).cap), .int .i64 ((rowD (getK Dom.id ds k)).pool)]) 32 :: bx (γ1 1) (#[.slice p2 n2 cap2, .slice q2 m2 capv2]) 25 :: bx (γ1 0) (#[.slice p n cap, .slice q m capv]) 25 :: (Y1324 ++ (Yx1324 ++ (Y838 ++ (Yx838 ++ []))))) ++ (Y_ ++ List.drop 4 (bx (γ1450 0) (#[.int .i64 ((rowC (getK Vcp.id vs k)).id), .int .i64 ((rowC (getK Vcp.id vs k)).dom), .int .u32 ((rowC (getK Vcp.id vs k)).hard), .int .u32 ((rowC (getK Vcp.id vs k)).soft)]) 43 :: bx (γ1448 0) (#[.int .i64 ((rowD (getK Dom.id ds k)).id), .int .i64 ((rowD (getK Dom.id ds k)).weight), .int .i64 ((rowD (getK Dom.id ds k)).cap), .int .i64 ((rowD (getK Dom.id ds k)).pool)]) 32 :: bx (γ1 1) (#[.slice p2 n2 cap2, .slice q2 m2 capv2]) 25 :: bx (γ1 0) (#[.slice p n cap, .slice q m capv]) 25 :: (Y1324 ++ (Yx1324 ++ (Y838 ++ (Yx838 ++ [])))))) ∧ SlO 3 Y_ q_ ((ofV vs k).length) c_ (ofV vs k)) Try.call11 (fun w hw => by have := of_d p n cap ds q m capv vs k w (hds.kept hw.below) hn (by omega) (hvs.kept hw.below) hm (by omega); rw [lG_ok q10] at this; exact this.mono fun e w' ⟨q_, m_, c_, Y_, he, hO, hm, hb, hY⟩ => by have hl := hO.len; subst hl; exact ⟨_, _, he, ⟨q_, c_, Y_, rfl, rfl, hO⟩, hw.join hb hY 4⟩) ?_
       rintro v1494 L1494 ⟨q1494, cq1494, Y1494, rfl, rfl, hO1494⟩
       refine od_ ?_
       exact wk (hmx3 (Y1494, cq1494, q1494) hO1494) [2, 3, 7, 9, 10, 11, 12, 80, 82] [[_], [_], [_], [_], _, _, _, _, _] [0, 1, 2, 3, 4, 5, 6, 7, 8] rfl rfl
      ·
       refine qo0 1 [(3, .go (owns 3 0 2))] [2, 3, 7, 9, 10, 11, 12, 78, 79, 82] [(81, .agg #[.slice p n cap, .slice q m capv])] ?_
       refine od_ ?_
       exact wk (hmx4 () trivial) [2, 3, 7, 9, 10, 11, 12, 78, 79, 81, 82] [[_], [_], [_], [_], _, _, _, _] [0, 1, 2, 3, 4, 5, 6, 7] rfl rfl
     refine any_fork [0, 3] (by kernel_rfl) (by simp) (each_cons _ rfl ?_ (each_cons _ rfl ?_ (each_nil)))
     ·
      refine qo0 1 [(0, .go (owns 3 0 2))] [2, 3, 7, 9, 10, 11, 12, 79, 82] [(78, .agg #[.slice p n cap, .slice q m capv])] ?_
      refine od_ ?_
      exact wk (hmx1 () trivial) [2, 3, 7, 9, 10, 11, 12, 78, 79, 82] [[_], [_], [_], [_], _, _, _, _] [0, 1, 2, 3, 4, 5, 6, 7] rfl rfl
     ·
      refine qo0 1 [(3, .go (owns 3 0 2))] [2, 3, 7, 9, 10, 11, 12, 79, 82] [(81, .agg #[.slice p n cap, .slice q m capv])] ?_
      refine od_ ?_
      exact wk (hmx2 () trivial) [2, 3, 7, 9, 10, 11, 12, 79, 81, 82] [[_], [_], [_], [_], _, _, _, _] [0, 1, 2, 3, 4, 5, 6, 7] rfl rfl
    rintro ⟨Y1494, Y1554, cq1494, cq1554, q1494, q1554⟩ ⟨hO1494, hO1554⟩
    refine any_nil (by kernel_rfl) ?_
    refine ds_ (sq_ (ao_ (qo0 2 [(0, .go (owns 3 0 2))] [2, 3, 7, 9, 10, 11, 12, 13, 14] [(85, .agg #[.slice p n cap, .slice q m capv]), (86, .int .i64 k)] ?_)))
    rcases q1656 : (getK Vcp.id vs k).isSome with _ | _
    ·
     refine cD (.tuple #[.int .i64 0, .int .i64 0, .bool false]) Try.call12 (fun w hw => by have := rate_d p n cap ds q m capv vs k w (hds.kept hw.below) hn (by omega) (hvs.kept hw.below) hm (by omega); rw [rate_no q10 q1656] at this; exact this) (qo0 7 [] [2, 3, 7, 9, 10, 11, 12, 13, 14] [(15, .int .i64 0), (16, .int .i64 0), (17, .bool false)] (on_ (ds_ (sq_ (ao_ (qo0 2 [(0, .go (owns 3 0 2))] [2, 3, 7, 9, 10, 11, 12, 13, 14, 15, 16, 17] [(91, .agg #[.slice p n cap, .slice q m capv]), (92, .int .i64 k)] (cD (.int .i64 (wgtV ds vs k)) Try.call14 (fun w hw => by have := weights_d p n cap ds q m capv vs k w (hds.kept hw.below) hn (by omega) (hvs.kept hw.below) hm (by omega); rw [q10] at this; exact this) (qo0 1 [] [2, 3, 7, 9, 10, 11, 12, 13, 14, 15, 16, 17] [(18, .int .i64 (wgtV ds vs k))] (on_ (ds_ (sq_ (sq_ (qa0 [] [2, 3, 9, 10, 11, 12, 13, 14, 15, 16, 17, 18] [(95, .bool false)] (ds_ (f_ (at_skip (ds_ (sq_ (ao_ (qo0 2 [(0, .go (owns 3 0 2))] [2, 3, 9, 10, 11, 12, 13, 14, 15, 16, 17, 18] [(139, .agg #[.slice p n cap, .slice q m capv]), (140, .int .i64 k)] (cD (.tuple #[.agg #[.int .i64 ((rowD (getK Dom.id ds k)).id), .int .i64 ((rowD (getK Dom.id ds k)).weight), .int .i64 ((rowD (getK Dom.id ds k)).cap), .int .i64 ((rowD (getK Dom.id ds k)).pool)], .bool ((getK Dom.id ds k).isSome)]) Try.call22 (fun w hw => by have := rdom_d p n cap ds q m capv vs k w (hds.kept hw.below) hn (by omega) (hvs.kept hw.below) hm (by omega); rw [optD_row] at this; exact this) (mo0 6 [(7, .go (owns 0 0 4))] [2, 3, 9, 10, 11, 12, 13, 14, 15, 16, 17, 18] (fun γ1662 => [(19, .pointer (some ⟨γ1662 0, 0, none⟩)), (20, .bool ((getK Dom.id ds k).isSome))]) (fun γ1662 L => bx (γ1662 0) (#[.int .i64 ((rowD (getK Dom.id ds k)).id), .int .i64 ((rowD (getK Dom.id ds k)).weight), .int .i64 ((rowD (getK Dom.id ds k)).cap), .int .i64 ((rowD (getK Dom.id ds k)).pool)]) 32 :: L) (fun γ1662 => on_ (ds_ (sq_ (ao_ (qo0 2 [(0, .go (owns 4 0 2))] [2, 3, 9, 10, 11, 12, 13, 14, 15, 16, 17, 18, 19, 20] [(145, .agg #[.slice p n cap, .slice q m capv]), (146, .int .i64 k)] (cD (.tuple #[.agg #[.int .i64 ((rowC (getK Vcp.id vs k)).id), .int .i64 ((rowC (getK Vcp.id vs k)).dom), .int .u32 ((rowC (getK Vcp.id vs k)).hard), .int .u32 ((rowC (getK Vcp.id vs k)).soft)], .bool false]) Try.call23 (fun w hw => by have := rvcp_d p n cap ds q m capv vs k w (hds.kept hw.below) hn (by omega) (hvs.kept hw.below) hm (by omega); rw [optC_row, q1656] at this; exact this) (mo0 6 [(7, .go (owns 0 0 4))] [2, 3, 9, 10, 11, 12, 13, 14, 15, 16, 17, 18, 19, 20] (fun γ1664 => [(21, .pointer (some ⟨γ1664 0, 0, none⟩)), (22, .bool false)]) (fun γ1664 L => bx (γ1664 0) (#[.int .i64 ((rowC (getK Vcp.id vs k)).id), .int .i64 ((rowC (getK Vcp.id vs k)).dom), .int .u32 ((rowC (getK Vcp.id vs k)).hard), .int .u32 ((rowC (getK Vcp.id vs k)).soft)]) 43 :: L) (fun γ1664 => ?_))))))))))))))))))))))))))))))
     refine on_ (ds_ (sq_ (sq_ (ao_ (qo 27 [(0, .go (owns 3 0 4)), (1, .go (owns 1 0 4)), (2, .eqs false), (6, .eqs false), (9, .go (owns 2 0 4)), (10, .go (owns 0 0 4)), (11, .eqs false), (16, .eqs false), (21, .eqs false), (25, .go (owns 5 0 2))] [2, 3, 13, 14, 15, 16, 21, 22] [(173, .bool false), (174, .int .i64 (wgtV ds vs k)), (175, .agg #[.slice p n cap, .slice q m capv]), (176, .int .i64 k)] ([EqRun Try.prog .neq 32 (.tmp 150) (.tmp 151) (.agg #[.int .i64 ((rowD (getK Dom.id ds k)).id), .int .i64 ((rowD (getK Dom.id ds k)).weight), .int .i64 ((rowD (getK Dom.id ds k)).cap), .int .i64 ((rowD (getK Dom.id ds k)).pool)]) (.agg #[.int .i64 ((rowD (getK Dom.id ds k)).id), .int .i64 ((rowD (getK Dom.id ds k)).weight), .int .i64 ((rowD (getK Dom.id ds k)).cap), .int .i64 ((rowD (getK Dom.id ds k)).pool)]) false] ++ ([EqRun Try.prog .neq 4 (.tmp 154) (.tmp 155) (.bool ((getK Dom.id ds k).isSome)) (.bool ((getK Dom.id ds k).isSome)) false] ++ ([EqRun Try.prog .neq 43 (.tmp 159) (.tmp 160) (.agg #[.int .i64 ((rowC (getK Vcp.id vs k)).id), .int .i64 ((rowC (getK Vcp.id vs k)).dom), .int .u32 ((rowC (getK Vcp.id vs k)).hard), .int .u32 ((rowC (getK Vcp.id vs k)).soft)]) (.agg #[.int .i64 ((rowC (getK Vcp.id vs k)).id), .int .i64 ((rowC (getK Vcp.id vs k)).dom), .int .u32 ((rowC (getK Vcp.id vs k)).hard), .int .u32 ((rowC (getK Vcp.id vs k)).soft)]) false] ++ ([EqRun Try.prog .neq 4 (.tmp 164) (.tmp 165) (.bool false) (.bool false) false] ++ ([EqRun Try.prog .neq 4 (.tmp 169) (.tmp 170) (.bool false) (.bool false) false]))))) (alA (al1 (dom_ne_t (a := (rowD (getK Dom.id ds k))) (b := (rowD (getK Dom.id ds k))) rfl)) (alA (al1 (bool_same _)) (alA (al1 (vcp_ne_t (a := (rowC (getK Vcp.id vs k))) (b := (rowC (getK Vcp.id vs k))) rfl)) (alA (al1 (bool_ne false false)) (al1 (bool_ne false false)))))) (cD (.int .i64 (wgtV ds vs k)) Try.call38 (fun w hw => rweights_d p n cap ds q m capv vs k w (hds.kept hw.below) hn (by omega) (hvs.kept hw.below) hm (by omega) q10) (qo 2 [(28, .no)] [2, 3, 13, 14, 15, 16, 21, 22] [(179, .bool false)] ([¬ ((wgtV ds vs k : Int) ≠ (wgtV ds vs k : Int))]) (al1 ((fun h => h rfl))) (on_ (ds_ (f_ (at_skip (ds_ (sq_ (ao_ (qo0 3 [(0, .go (owns 5 0 2)), (2, .go (owns 0 1 1))] [2, 3, 13, 14, 15, 16, 21, 22] [(181, .agg #[.slice p n cap, .slice q m capv]), (183, .int .i64 ((rowC (getK Vcp.id vs k)).dom))] (cD (.tuple #[.agg #[.int .i64 ((rowD (getK Dom.id ds ((rowC (getK Vcp.id vs k)).dom))).id), .int .i64 ((rowD (getK Dom.id ds ((rowC (getK Vcp.id vs k)).dom))).weight), .int .i64 ((rowD (getK Dom.id ds ((rowC (getK Vcp.id vs k)).dom))).cap), .int .i64 ((rowD (getK Dom.id ds ((rowC (getK Vcp.id vs k)).dom))).pool)], .bool ((getK Dom.id ds ((rowC (getK Vcp.id vs k)).dom)).isSome)]) Try.call22 (fun w hw => by have := rdom_d p n cap ds q m capv vs ((rowC (getK Vcp.id vs k)).dom) w (hds.kept hw.below) hn (by omega) (hvs.kept hw.below) hm (by omega); rw [optD_row] at this; exact this) ?_))))))))))))))))
     refine mo0 6 [(8, .go (owns 0 0 4))] [2, 3, 13, 14, 15, 16, 21, 22] (fun γ1668 => [(23, .pointer (some ⟨γ1668 0, 0, none⟩))]) (fun γ1668 L => bx (γ1668 0) (#[.int .i64 ((rowD (getK Dom.id ds ((rowC (getK Vcp.id vs k)).dom))).id), .int .i64 ((rowD (getK Dom.id ds ((rowC (getK Vcp.id vs k)).dom))).weight), .int .i64 ((rowD (getK Dom.id ds ((rowC (getK Vcp.id vs k)).dom))).cap), .int .i64 ((rowD (getK Dom.id ds ((rowC (getK Vcp.id vs k)).dom))).pool)]) 32 :: L) (fun γ1668 => on_ (ds_ (sq_ (sq_ (qa0 [] [2, 3, 13, 14] [(214, .bool false)] (ds_ (f_ (at_skip (ds_ (sq_ ?_))))))))))
     have hof := ofV_len (vs := vs) (k := k)
     have hcl := cnt_le (vs := vs) (k := k)
     have hil := inV_le (ds := ds) (vs := vs) (k := k)
     refine ao_ (qo0 3 [(1, .go (owns 6 0 2))] [2, 3, 14] [(215, .slice q1494 ((ofV vs k).length) cq1494), (216, .agg #[.slice p n cap, .slice q m capv]), (217, .int .i64 k)] (cP (fun v L' => ∃ q_ c_ Y_, v = .slice q_ (cntV vs k) c_ ∧ L' = List.take 7 (bx (γ1668 0) (#[.int .i64 ((rowD (getK Dom.id ds ((rowC (getK Vcp.id vs k)).dom))).id), .int .i64 ((rowD (getK Dom.id ds ((rowC (getK Vcp.id vs k)).dom))).weight), .int .i64 ((rowD (getK Dom.id ds ((rowC (getK Vcp.id vs k)).dom))).cap), .int .i64 ((rowD (getK Dom.id ds ((rowC (getK Vcp.id vs k)).dom))).pool)]) 32 :: bx (γ1664 0) (#[.int .i64 ((rowC (getK Vcp.id vs k)).id), .int .i64 ((rowC (getK Vcp.id vs k)).dom), .int .u32 ((rowC (getK Vcp.id vs k)).hard), .int .u32 ((rowC (getK Vcp.id vs k)).soft)]) 43 :: bx (γ1662 0) (#[.int .i64 ((rowD (getK Dom.id ds k)).id), .int .i64 ((rowD (getK Dom.id ds k)).weight), .int .i64 ((rowD (getK Dom.id ds k)).cap), .int .i64 ((rowD (getK Dom.id ds k)).pool)]) 32 :: bx (γ1450 0) (#[.int .i64 ((rowC (getK Vcp.id vs k)).id), .int .i64 ((rowC (getK Vcp.id vs k)).dom), .int .u32 ((rowC (getK Vcp.id vs k)).hard), .int .u32 ((rowC (getK Vcp.id vs k)).soft)]) 43 :: bx (γ1448 0) (#[.int .i64 ((rowD (getK Dom.id ds k)).id), .int .i64 ((rowD (getK Dom.id ds k)).weight), .int .i64 ((rowD (getK Dom.id ds k)).cap), .int .i64 ((rowD (getK Dom.id ds k)).pool)]) 32 :: bx (γ1 1) (#[.slice p2 n2 cap2, .slice q2 m2 capv2]) 25 :: bx (γ1 0) (#[.slice p n cap, .slice q m capv]) 25 :: (Y1494 ++ (Y1554 ++ (Y1324 ++ (Yx1324 ++ (Y838 ++ (Yx838 ++ []))))))) ++ (Y_ ++ List.drop 7 (bx (γ1668 0) (#[.int .i64 ((rowD (getK Dom.id ds ((rowC (getK Vcp.id vs k)).dom))).id), .int .i64 ((rowD (getK Dom.id ds ((rowC (getK Vcp.id vs k)).dom))).weight), .int .i64 ((rowD (getK Dom.id ds ((rowC (getK Vcp.id vs k)).dom))).cap), .int .i64 ((rowD (getK Dom.id ds ((rowC (getK Vcp.id vs k)).dom))).pool)]) 32 :: bx (γ1664 0) (#[.int .i64 ((rowC (getK Vcp.id vs k)).id), .int .i64 ((rowC (getK Vcp.id vs k)).dom), .int .u32 ((rowC (getK Vcp.id vs k)).hard), .int .u32 ((rowC (getK Vcp.id vs k)).soft)]) 43 :: bx (γ1662 0) (#[.int .i64 ((rowD (getK Dom.id ds k)).id), .int .i64 ((rowD (getK Dom.id ds k)).weight), .int .i64 ((rowD (getK Dom.id ds k)).cap), .int .i64 ((rowD (getK Dom.id ds k)).pool)]) 32 :: bx (γ1450 0) (#[.int .i64 ((rowC (getK Vcp.id vs k)).id), .int .i64 ((rowC (getK Vcp.id vs k)).dom), .int .u32 ((rowC (getK Vcp.id vs k)).hard), .int .u32 ((rowC (getK Vcp.id vs k)).soft)]) 43 :: bx (γ1448 0) (#[.int .i64 ((rowD (getK Dom.id ds k)).id), .int .i64 ((rowD (getK Dom.id ds k)).weight), .int .i64 ((rowD (getK Dom.id ds k)).cap), .int .i64 ((rowD (getK Dom.id ds k)).pool)]) 32 :: bx (γ1 1) (#[.slice p2 n2 cap2, .slice q2 m2 capv2]) 25 :: bx (γ1 0) (#[.slice p n cap, .slice q m capv]) 25 :: (Y1494 ++ (Y1554 ++ (Y1324 ++ (Yx1324 ++ (Y838 ++ (Yx838 ++ [])))))))) ∧ SlO 3 Y_ q_ (cntV vs k) c_ (ofV vs k)) Try.call20 (fun w hw => (rof_d p n cap ds q m capv vs k w (hds.kept hw.below) hn (by omega) (hvs.kept hw.below) hm (by omega)).mono fun e w' ⟨q_, c_, Y_, he, hO, hb, hY⟩ => ⟨_, _, he, ⟨q_, c_, Y_, rfl, rfl, hO⟩, hw.join hb hY 7⟩) ?_))
     rintro v1671 L1671 ⟨q1671, cq1671, Y1671, rfl, rfl, hO1671⟩
     refine cD (.bool true) Try.call39 (fun w hw => by have := sints_d q1494 ((ofV vs k).length) cq1494 ((ofV vs k)) q1671 (cntV vs k) cq1671 ((ofV vs k)) w (hO1494.atN (A := (_ :: _ :: _ :: _ :: _ :: _ :: _ :: Y1671)) hw) hO1494.len (by omega) (hO1671.atN (A := [_, _, _, _, _, _, _]) hw) hO1671.len (by omega); simpa using this) (qo0 4 [(7, .go (owns 6 0 2))] [] [(220, .bool true), (221, .slice q1554 ((inV ds vs k).length) cq1554), (222, .agg #[.slice p n cap, .slice q m capv]), (223, .int .i64 k)] (cP (fun v L' => ∃ q_ c_ Y_, v = .slice q_ ((inV ds vs k).length) c_ ∧ L' = List.take 7 (bx (γ1668 0) (#[.int .i64 ((rowD (getK Dom.id ds ((rowC (getK Vcp.id vs k)).dom))).id), .int .i64 ((rowD (getK Dom.id ds ((rowC (getK Vcp.id vs k)).dom))).weight), .int .i64 ((rowD (getK Dom.id ds ((rowC (getK Vcp.id vs k)).dom))).cap), .int .i64 ((rowD (getK Dom.id ds ((rowC (getK Vcp.id vs k)).dom))).pool)]) 32 :: bx (γ1664 0) (#[.int .i64 ((rowC (getK Vcp.id vs k)).id), .int .i64 ((rowC (getK Vcp.id vs k)).dom), .int .u32 ((rowC (getK Vcp.id vs k)).hard), .int .u32 ((rowC (getK Vcp.id vs k)).soft)]) 43 :: bx (γ1662 0) (#[.int .i64 ((rowD (getK Dom.id ds k)).id), .int .i64 ((rowD (getK Dom.id ds k)).weight), .int .i64 ((rowD (getK Dom.id ds k)).cap), .int .i64 ((rowD (getK Dom.id ds k)).pool)]) 32 :: bx (γ1450 0) (#[.int .i64 ((rowC (getK Vcp.id vs k)).id), .int .i64 ((rowC (getK Vcp.id vs k)).dom), .int .u32 ((rowC (getK Vcp.id vs k)).hard), .int .u32 ((rowC (getK Vcp.id vs k)).soft)]) 43 :: bx (γ1448 0) (#[.int .i64 ((rowD (getK Dom.id ds k)).id), .int .i64 ((rowD (getK Dom.id ds k)).weight), .int .i64 ((rowD (getK Dom.id ds k)).cap), .int .i64 ((rowD (getK Dom.id ds k)).pool)]) 32 :: bx (γ1 1) (#[.slice p2 n2 cap2, .slice q2 m2 capv2]) 25 :: bx (γ1 0) (#[.slice p n cap, .slice q m capv]) 25 :: (Y1671 ++ (Y1494 ++ (Y1554 ++ (Y1324 ++ (Yx1324 ++ (Y838 ++ (Yx838 ++ [])))))))) ++ (Y_ ++ List.drop 7 (bx (γ1668 0) (#[.int .i64 ((rowD (getK Dom.id ds ((rowC (getK Vcp.id vs k)).dom))).id), .int .i64 ((rowD (getK Dom.id ds ((rowC (getK Vcp.id vs k)).dom))).weight), .int .i64 ((rowD (getK Dom.id ds ((rowC (getK Vcp.id vs k)).dom))).cap), .int .i64 ((rowD (getK Dom.id ds ((rowC (getK Vcp.id vs k)).dom))).pool)]) 32 :: bx (γ1664 0) (#[.int .i64 ((rowC (getK Vcp.id vs k)).id), .int .i64 ((rowC (getK Vcp.id vs k)).dom), .int .u32 ((rowC (getK Vcp.id vs k)).hard), .int .u32 ((rowC (getK Vcp.id vs k)).soft)]) 43 :: bx (γ1662 0) (#[.int .i64 ((rowD (getK Dom.id ds k)).id), .int .i64 ((rowD (getK Dom.id ds k)).weight), .int .i64 ((rowD (getK Dom.id ds k)).cap), .int .i64 ((rowD (getK Dom.id ds k)).pool)]) 32 :: bx (γ1450 0) (#[.int .i64 ((rowC (getK Vcp.id vs k)).id), .int .i64 ((rowC (getK Vcp.id vs k)).dom), .int .u32 ((rowC (getK Vcp.id vs k)).hard), .int .u32 ((rowC (getK Vcp.id vs k)).soft)]) 43 :: bx (γ1448 0) (#[.int .i64 ((rowD (getK Dom.id ds k)).id), .int .i64 ((rowD (getK Dom.id ds k)).weight), .int .i64 ((rowD (getK Dom.id ds k)).cap), .int .i64 ((rowD (getK Dom.id ds k)).pool)]) 32 :: bx (γ1 1) (#[.slice p2 n2 cap2, .slice q2 m2 capv2]) 25 :: bx (γ1 0) (#[.slice p n cap, .slice q m capv]) 25 :: (Y1671 ++ (Y1494 ++ (Y1554 ++ (Y1324 ++ (Yx1324 ++ (Y838 ++ (Yx838 ++ []))))))))) ∧ SlO 3 Y_ q_ ((inV ds vs k).length) c_ (inV ds vs k)) Try.call40 (fun w hw => by have := rin_d p n cap ds q m capv vs k w (hds.kept hw.below) hn (by omega) (hvs.kept hw.below) hm (by omega); exact this.mono fun e w' ⟨q_, m_, c_, Y_, he, hO, hm, hb, hY⟩ => by have hl := hO.len; subst hl; exact ⟨_, _, he, ⟨q_, c_, Y_, rfl, rfl, hO⟩, hw.join hb hY 7⟩) ?_))
     rintro v1674 L1674 ⟨q1674, cq1674, Y1674, rfl, rfl, hO1674⟩
     refine cD (.bool true) Try.call39 (fun w hw => by have := sints_d q1554 ((inV ds vs k).length) cq1554 ((inV ds vs k)) q1674 ((inV ds vs k).length) cq1674 ((inV ds vs k)) w (hO1554.at ((hw.tailN 7).sub (((List.sublist_append_right Y1494 _).trans (List.sublist_append_right Y1671 _)).trans (List.sublist_append_right Y1674 _)))) hO1554.len (by omega) (hO1674.atN (A := [_, _, _, _, _, _, _]) hw) hO1674.len (by omega); simpa using this) (qo0 2 [] [] [(6, .bool true)] (on_ (ds_ (rt ([]) (.bool true) ?_))))
     exact fun w' hw => ⟨rfl, hw.below⟩
    ·
     refine cD (.tuple #[.int .i64 ((rowD (getK Dom.id ds ((rowC (getK Vcp.id vs k)).dom))).weight), .int .i64 ((cntV vs ((rowC (getK Vcp.id vs k)).dom) : Nat)), .bool true]) Try.call12 (fun w hw => by have := rate_d p n cap ds q m capv vs k w (hds.kept hw.below) hn (by omega) (hvs.kept hw.below) hm (by omega); rw [rate_yes q10 q1656] at this; exact this) (qo0 7 [] [2, 3, 7, 9, 10, 11, 12, 13, 14] [(15, .int .i64 ((rowD (getK Dom.id ds ((rowC (getK Vcp.id vs k)).dom))).weight)), (16, .int .i64 ((cntV vs ((rowC (getK Vcp.id vs k)).dom) : Nat))), (17, .bool true)] (on_ (ds_ (sq_ (ao_ (qo0 2 [(0, .go (owns 3 0 2))] [2, 3, 7, 9, 10, 11, 12, 13, 14, 15, 16, 17] [(91, .agg #[.slice p n cap, .slice q m capv]), (92, .int .i64 k)] (cD (.int .i64 (wgtV ds vs k)) Try.call14 (fun w hw => by have := weights_d p n cap ds q m capv vs k w (hds.kept hw.below) hn (by omega) (hvs.kept hw.below) hm (by omega); rw [q10] at this; exact this) (qo0 1 [] [2, 3, 7, 9, 10, 11, 12, 13, 14, 15, 16, 17] [(18, .int .i64 (wgtV ds vs k))] (on_ (ds_ (sq_ (sq_ (qa0 [] [2, 3, 9, 10, 11, 12, 13, 14, 15, 16, 17, 18] [(95, .bool false)] (ds_ (f_ (at_skip (ds_ (sq_ (ao_ (qo0 2 [(0, .go (owns 3 0 2))] [2, 3, 9, 10, 11, 12, 13, 14, 15, 16, 17, 18] [(139, .agg #[.slice p n cap, .slice q m capv]), (140, .int .i64 k)] (cD (.tuple #[.agg #[.int .i64 ((rowD (getK Dom.id ds k)).id), .int .i64 ((rowD (getK Dom.id ds k)).weight), .int .i64 ((rowD (getK Dom.id ds k)).cap), .int .i64 ((rowD (getK Dom.id ds k)).pool)], .bool ((getK Dom.id ds k).isSome)]) Try.call22 (fun w hw => by have := rdom_d p n cap ds q m capv vs k w (hds.kept hw.below) hn (by omega) (hvs.kept hw.below) hm (by omega); rw [optD_row] at this; exact this) (mo0 6 [(7, .go (owns 0 0 4))] [2, 3, 9, 10, 11, 12, 13, 14, 15, 16, 17, 18] (fun γ1682 => [(19, .pointer (some ⟨γ1682 0, 0, none⟩)), (20, .bool ((getK Dom.id ds k).isSome))]) (fun γ1682 L => bx (γ1682 0) (#[.int .i64 ((rowD (getK Dom.id ds k)).id), .int .i64 ((rowD (getK Dom.id ds k)).weight), .int .i64 ((rowD (getK Dom.id ds k)).cap), .int .i64 ((rowD (getK Dom.id ds k)).pool)]) 32 :: L) (fun γ1682 => on_ (ds_ (sq_ (ao_ (qo0 2 [(0, .go (owns 4 0 2))] [2, 3, 9, 10, 11, 12, 13, 14, 15, 16, 17, 18, 19, 20] [(145, .agg #[.slice p n cap, .slice q m capv]), (146, .int .i64 k)] (cD (.tuple #[.agg #[.int .i64 ((rowC (getK Vcp.id vs k)).id), .int .i64 ((rowC (getK Vcp.id vs k)).dom), .int .u32 ((rowC (getK Vcp.id vs k)).hard), .int .u32 ((rowC (getK Vcp.id vs k)).soft)], .bool true]) Try.call23 (fun w hw => by have := rvcp_d p n cap ds q m capv vs k w (hds.kept hw.below) hn (by omega) (hvs.kept hw.below) hm (by omega); rw [optC_row, q1656] at this; exact this) ?_))))))))))))))))))))))))))))
     refine mo0 6 [(7, .go (owns 0 0 4))] [2, 3, 9, 10, 11, 12, 13, 14, 15, 16, 17, 18, 19, 20] (fun γ1684 => [(21, .pointer (some ⟨γ1684 0, 0, none⟩)), (22, .bool true)]) (fun γ1684 L => bx (γ1684 0) (#[.int .i64 ((rowC (getK Vcp.id vs k)).id), .int .i64 ((rowC (getK Vcp.id vs k)).dom), .int .u32 ((rowC (getK Vcp.id vs k)).hard), .int .u32 ((rowC (getK Vcp.id vs k)).soft)]) 43 :: L) (fun γ1684 => on_ (ds_ (sq_ (sq_ (ao_ (qo 27 [(0, .go (owns 3 0 4)), (1, .go (owns 1 0 4)), (2, .eqs false), (6, .eqs false), (9, .go (owns 2 0 4)), (10, .go (owns 0 0 4)), (11, .eqs false), (16, .eqs false), (21, .eqs false), (25, .go (owns 5 0 2))] [2, 3, 13, 14, 15, 16, 21, 22] [(173, .bool false), (174, .int .i64 (wgtV ds vs k)), (175, .agg #[.slice p n cap, .slice q m capv]), (176, .int .i64 k)] ([EqRun Try.prog .neq 32 (.tmp 150) (.tmp 151) (.agg #[.int .i64 ((rowD (getK Dom.id ds k)).id), .int .i64 ((rowD (getK Dom.id ds k)).weight), .int .i64 ((rowD (getK Dom.id ds k)).cap), .int .i64 ((rowD (getK Dom.id ds k)).pool)]) (.agg #[.int .i64 ((rowD (getK Dom.id ds k)).id), .int .i64 ((rowD (getK Dom.id ds k)).weight), .int .i64 ((rowD (getK Dom.id ds k)).cap), .int .i64 ((rowD (getK Dom.id ds k)).pool)]) false] ++ ([EqRun Try.prog .neq 4 (.tmp 154) (.tmp 155) (.bool ((getK Dom.id ds k).isSome)) (.bool ((getK Dom.id ds k).isSome)) false] ++ ([EqRun Try.prog .neq 43 (.tmp 159) (.tmp 160) (.agg #[.int .i64 ((rowC (getK Vcp.id vs k)).id), .int .i64 ((rowC (getK Vcp.id vs k)).dom), .int .u32 ((rowC (getK Vcp.id vs k)).hard), .int .u32 ((rowC (getK Vcp.id vs k)).soft)]) (.agg #[.int .i64 ((rowC (getK Vcp.id vs k)).id), .int .i64 ((rowC (getK Vcp.id vs k)).dom), .int .u32 ((rowC (getK Vcp.id vs k)).hard), .int .u32 ((rowC (getK Vcp.id vs k)).soft)]) false] ++ ([EqRun Try.prog .neq 4 (.tmp 164) (.tmp 165) (.bool true) (.bool true) false] ++ ([EqRun Try.prog .neq 4 (.tmp 169) (.tmp 170) (.bool true) (.bool true) false]))))) (alA (al1 (dom_ne_t (a := (rowD (getK Dom.id ds k))) (b := (rowD (getK Dom.id ds k))) rfl)) (alA (al1 (bool_same _)) (alA (al1 (vcp_ne_t (a := (rowC (getK Vcp.id vs k))) (b := (rowC (getK Vcp.id vs k))) rfl)) (alA (al1 (bool_ne true true)) (al1 (bool_ne true true)))))) (cD (.int .i64 (wgtV ds vs k)) Try.call38 (fun w hw => rweights_d p n cap ds q m capv vs k w (hds.kept hw.below) hn (by omega) (hvs.kept hw.below) hm (by omega) q10) (qo 2 [(28, .no)] [2, 3, 13, 14, 15, 16, 21, 22] [(179, .bool false)] ([¬ ((wgtV ds vs k : Int) ≠ (wgtV ds vs k : Int))]) (al1 ((fun h => h rfl))) ?_))))))))
     refine on_ (ds_ (f_ (at_skip (ds_ (sq_ (ao_ (qo0 3 [(0, .go (owns 5 0 2)), (2, .go (owns 0 1 1))] [2, 3, 13, 14, 15, 16, 21, 22] [(181, .agg #[.slice p n cap, .slice q m capv]), (183, .int .i64 ((rowC (getK Vcp.id vs k)).dom))] (cD (.tuple #[.agg #[.int .i64 ((rowD (getK Dom.id ds ((rowC (getK Vcp.id vs k)).dom))).id), .int .i64 ((rowD (getK Dom.id ds ((rowC (getK Vcp.id vs k)).dom))).weight), .int .i64 ((rowD (getK Dom.id ds ((rowC (getK Vcp.id vs k)).dom))).cap), .int .i64 ((rowD (getK Dom.id ds ((rowC (getK Vcp.id vs k)).dom))).pool)], .bool ((getK Dom.id ds ((rowC (getK Vcp.id vs k)).dom)).isSome)]) Try.call22 (fun w hw => by have := rdom_d p n cap ds q m capv vs ((rowC (getK Vcp.id vs k)).dom) w (hds.kept hw.below) hn (by omega) (hvs.kept hw.below) hm (by omega); rw [optD_row] at this; exact this) (mo0 6 [(8, .go (owns 0 0 4))] [2, 3, 13, 14, 15, 16, 21, 22] (fun γ1688 => [(23, .pointer (some ⟨γ1688 0, 0, none⟩))]) (fun γ1688 L => bx (γ1688 0) (#[.int .i64 ((rowD (getK Dom.id ds ((rowC (getK Vcp.id vs k)).dom))).id), .int .i64 ((rowD (getK Dom.id ds ((rowC (getK Vcp.id vs k)).dom))).weight), .int .i64 ((rowD (getK Dom.id ds ((rowC (getK Vcp.id vs k)).dom))).cap), .int .i64 ((rowD (getK Dom.id ds ((rowC (getK Vcp.id vs k)).dom))).pool)]) 32 :: L) (fun γ1688 => on_ (ds_ (sq_ (sq_ (ao_ (qo 11 [(4, .go (owns 0 1 1)), (5, .no), (8, .go (owns 6 0 2)), (10, .go (owns 1 1 1))] [2, 3, 13, 14, 15, 16, 22] [(188, .bool true), (193, .bool false), (194, .int .i64 ((cntV vs ((rowC (getK Vcp.id vs k)).dom) : Nat))), (195, .agg #[.slice p n cap, .slice q m capv]), (197, .int .i64 ((rowC (getK Vcp.id vs k)).dom))] ([¬ (((rowD (getK Dom.id ds ((rowC (getK Vcp.id vs k)).dom))).weight : Int) ≠ ((rowD (getK Dom.id ds ((rowC (getK Vcp.id vs k)).dom))).weight : Int))]) (al1 ((fun h => h rfl))) (cP (fun v L' => ∃ q_ c_ Y_, v = .slice q_ (cntV vs ((rowC (getK Vcp.id vs k)).dom)) c_ ∧ L' = List.take 7 (bx (γ1688 0) (#[.int .i64 ((rowD (getK Dom.id ds ((rowC (getK Vcp.id vs k)).dom))).id), .int .i64 ((rowD (getK Dom.id ds ((rowC (getK Vcp.id vs k)).dom))).weight), .int .i64 ((rowD (getK Dom.id ds ((rowC (getK Vcp.id vs k)).dom))).cap), .int .i64 ((rowD (getK Dom.id ds ((rowC (getK Vcp.id vs k)).dom))).pool)]) 32 :: bx (γ1684 0) (#[.int .i64 ((rowC (getK Vcp.id vs k)).id), .int .i64 ((rowC (getK Vcp.id vs k)).dom), .int .u32 ((rowC (getK Vcp.id vs k)).hard), .int .u32 ((rowC (getK Vcp.id vs k)).soft)]) 43 :: bx (γ1682 0) (#[.int .i64 ((rowD (getK Dom.id ds k)).id), .int .i64 ((rowD (getK Dom.id ds k)).weight), .int .i64 ((rowD (getK Dom.id ds k)).cap), .int .i64 ((rowD (getK Dom.id ds k)).pool)]) 32 :: bx (γ1450 0) (#[.int .i64 ((rowC (getK Vcp.id vs k)).id), .int .i64 ((rowC (getK Vcp.id vs k)).dom), .int .u32 ((rowC (getK Vcp.id vs k)).hard), .int .u32 ((rowC (getK Vcp.id vs k)).soft)]) 43 :: bx (γ1448 0) (#[.int .i64 ((rowD (getK Dom.id ds k)).id), .int .i64 ((rowD (getK Dom.id ds k)).weight), .int .i64 ((rowD (getK Dom.id ds k)).cap), .int .i64 ((rowD (getK Dom.id ds k)).pool)]) 32 :: bx (γ1 1) (#[.slice p2 n2 cap2, .slice q2 m2 capv2]) 25 :: bx (γ1 0) (#[.slice p n cap, .slice q m capv]) 25 :: (Y1494 ++ (Y1554 ++ (Y1324 ++ (Yx1324 ++ (Y838 ++ (Yx838 ++ []))))))) ++ (Y_ ++ List.drop 7 (bx (γ1688 0) (#[.int .i64 ((rowD (getK Dom.id ds ((rowC (getK Vcp.id vs k)).dom))).id), .int .i64 ((rowD (getK Dom.id ds ((rowC (getK Vcp.id vs k)).dom))).weight), .int .i64 ((rowD (getK Dom.id ds ((rowC (getK Vcp.id vs k)).dom))).cap), .int .i64 ((rowD (getK Dom.id ds ((rowC (getK Vcp.id vs k)).dom))).pool)]) 32 :: bx (γ1684 0) (#[.int .i64 ((rowC (getK Vcp.id vs k)).id), .int .i64 ((rowC (getK Vcp.id vs k)).dom), .int .u32 ((rowC (getK Vcp.id vs k)).hard), .int .u32 ((rowC (getK Vcp.id vs k)).soft)]) 43 :: bx (γ1682 0) (#[.int .i64 ((rowD (getK Dom.id ds k)).id), .int .i64 ((rowD (getK Dom.id ds k)).weight), .int .i64 ((rowD (getK Dom.id ds k)).cap), .int .i64 ((rowD (getK Dom.id ds k)).pool)]) 32 :: bx (γ1450 0) (#[.int .i64 ((rowC (getK Vcp.id vs k)).id), .int .i64 ((rowC (getK Vcp.id vs k)).dom), .int .u32 ((rowC (getK Vcp.id vs k)).hard), .int .u32 ((rowC (getK Vcp.id vs k)).soft)]) 43 :: bx (γ1448 0) (#[.int .i64 ((rowD (getK Dom.id ds k)).id), .int .i64 ((rowD (getK Dom.id ds k)).weight), .int .i64 ((rowD (getK Dom.id ds k)).cap), .int .i64 ((rowD (getK Dom.id ds k)).pool)]) 32 :: bx (γ1 1) (#[.slice p2 n2 cap2, .slice q2 m2 capv2]) 25 :: bx (γ1 0) (#[.slice p n cap, .slice q m capv]) 25 :: (Y1494 ++ (Y1554 ++ (Y1324 ++ (Yx1324 ++ (Y838 ++ (Yx838 ++ [])))))))) ∧ SlO 3 Y_ q_ (cntV vs ((rowC (getK Vcp.id vs k)).dom)) c_ (ofV vs ((rowC (getK Vcp.id vs k)).dom))) Try.call20 (fun w hw => (rof_d p n cap ds q m capv vs ((rowC (getK Vcp.id vs k)).dom) w (hds.kept hw.below) hn (by omega) (hvs.kept hw.below) hm (by omega)).mono fun e w' ⟨q_, c_, Y_, he, hO, hb, hY⟩ => ⟨_, _, he, ⟨q_, c_, Y_, rfl, rfl, hO⟩, hw.join hb hY 7⟩) ?_))))))))))))))))
     rintro v1690 L1690 ⟨q1690, cq1690, Y1690, rfl, rfl, hO1690⟩
     refine qo 16 [(13, .no)] [2, 3, 13, 14] [(214, .bool false)] ([¬ (((cntV vs ((rowC (getK Vcp.id vs k)).dom) : Nat) : Int) ≠ ((cntV vs ((rowC (getK Vcp.id vs k)).dom) : Nat) : Int))]) (al1 ((fun h => h rfl))) (on_ (ds_ (f_ (at_skip (ds_ (sq_ ?_))))))
     have hof := ofV_len (vs := vs) (k := k)
     have hcl := cnt_le (vs := vs) (k := k)
     have hil := inV_le (ds := ds) (vs := vs) (k := k)
     refine ao_ (qo0 3 [(1, .go (owns 6 0 2))] [2, 3, 14] [(215, .slice q1494 ((ofV vs k).length) cq1494), (216, .agg #[.slice p n cap, .slice q m capv]), (217, .int .i64 k)] (cP (fun v L' => ∃ q_ c_ Y_, v = .slice q_ (cntV vs k) c_ ∧ L' = List.take 7 (bx (γ1688 0) (#[.int .i64 ((rowD (getK Dom.id ds ((rowC (getK Vcp.id vs k)).dom))).id), .int .i64 ((rowD (getK Dom.id ds ((rowC (getK Vcp.id vs k)).dom))).weight), .int .i64 ((rowD (getK Dom.id ds ((rowC (getK Vcp.id vs k)).dom))).cap), .int .i64 ((rowD (getK Dom.id ds ((rowC (getK Vcp.id vs k)).dom))).pool)]) 32 :: bx (γ1684 0) (#[.int .i64 ((rowC (getK Vcp.id vs k)).id), .int .i64 ((rowC (getK Vcp.id vs k)).dom), .int .u32 ((rowC (getK Vcp.id vs k)).hard), .int .u32 ((rowC (getK Vcp.id vs k)).soft)]) 43 :: bx (γ1682 0) (#[.int .i64 ((rowD (getK Dom.id ds k)).id), .int .i64 ((rowD (getK Dom.id ds k)).weight), .int .i64 ((rowD (getK Dom.id ds k)).cap), .int .i64 ((rowD (getK Dom.id ds k)).pool)]) 32 :: bx (γ1450 0) (#[.int .i64 ((rowC (getK Vcp.id vs k)).id), .int .i64 ((rowC (getK Vcp.id vs k)).dom), .int .u32 ((rowC (getK Vcp.id vs k)).hard), .int .u32 ((rowC (getK Vcp.id vs k)).soft)]) 43 :: bx (γ1448 0) (#[.int .i64 ((rowD (getK Dom.id ds k)).id), .int .i64 ((rowD (getK Dom.id ds k)).weight), .int .i64 ((rowD (getK Dom.id ds k)).cap), .int .i64 ((rowD (getK Dom.id ds k)).pool)]) 32 :: bx (γ1 1) (#[.slice p2 n2 cap2, .slice q2 m2 capv2]) 25 :: bx (γ1 0) (#[.slice p n cap, .slice q m capv]) 25 :: (Y1690 ++ (Y1494 ++ (Y1554 ++ (Y1324 ++ (Yx1324 ++ (Y838 ++ (Yx838 ++ [])))))))) ++ (Y_ ++ List.drop 7 (bx (γ1688 0) (#[.int .i64 ((rowD (getK Dom.id ds ((rowC (getK Vcp.id vs k)).dom))).id), .int .i64 ((rowD (getK Dom.id ds ((rowC (getK Vcp.id vs k)).dom))).weight), .int .i64 ((rowD (getK Dom.id ds ((rowC (getK Vcp.id vs k)).dom))).cap), .int .i64 ((rowD (getK Dom.id ds ((rowC (getK Vcp.id vs k)).dom))).pool)]) 32 :: bx (γ1684 0) (#[.int .i64 ((rowC (getK Vcp.id vs k)).id), .int .i64 ((rowC (getK Vcp.id vs k)).dom), .int .u32 ((rowC (getK Vcp.id vs k)).hard), .int .u32 ((rowC (getK Vcp.id vs k)).soft)]) 43 :: bx (γ1682 0) (#[.int .i64 ((rowD (getK Dom.id ds k)).id), .int .i64 ((rowD (getK Dom.id ds k)).weight), .int .i64 ((rowD (getK Dom.id ds k)).cap), .int .i64 ((rowD (getK Dom.id ds k)).pool)]) 32 :: bx (γ1450 0) (#[.int .i64 ((rowC (getK Vcp.id vs k)).id), .int .i64 ((rowC (getK Vcp.id vs k)).dom), .int .u32 ((rowC (getK Vcp.id vs k)).hard), .int .u32 ((rowC (getK Vcp.id vs k)).soft)]) 43 :: bx (γ1448 0) (#[.int .i64 ((rowD (getK Dom.id ds k)).id), .int .i64 ((rowD (getK Dom.id ds k)).weight), .int .i64 ((rowD (getK Dom.id ds k)).cap), .int .i64 ((rowD (getK Dom.id ds k)).pool)]) 32 :: bx (γ1 1) (#[.slice p2 n2 cap2, .slice q2 m2 capv2]) 25 :: bx (γ1 0) (#[.slice p n cap, .slice q m capv]) 25 :: (Y1690 ++ (Y1494 ++ (Y1554 ++ (Y1324 ++ (Yx1324 ++ (Y838 ++ (Yx838 ++ []))))))))) ∧ SlO 3 Y_ q_ (cntV vs k) c_ (ofV vs k)) Try.call20 (fun w hw => (rof_d p n cap ds q m capv vs k w (hds.kept hw.below) hn (by omega) (hvs.kept hw.below) hm (by omega)).mono fun e w' ⟨q_, c_, Y_, he, hO, hb, hY⟩ => ⟨_, _, he, ⟨q_, c_, Y_, rfl, rfl, hO⟩, hw.join hb hY 7⟩) ?_))
     rintro v1693 L1693 ⟨q1693, cq1693, Y1693, rfl, rfl, hO1693⟩
     refine cD (.bool true) Try.call39 (fun w hw => by have := sints_d q1494 ((ofV vs k).length) cq1494 ((ofV vs k)) q1693 (cntV vs k) cq1693 ((ofV vs k)) w (hO1494.at ((hw.tailN 7).sub ((List.sublist_append_right Y1690 _).trans (List.sublist_append_right Y1693 _)))) hO1494.len (by omega) (hO1693.atN (A := [_, _, _, _, _, _, _]) hw) hO1693.len (by omega); simpa using this) (qo0 4 [(7, .go (owns 6 0 2))] [] [(220, .bool true), (221, .slice q1554 ((inV ds vs k).length) cq1554), (222, .agg #[.slice p n cap, .slice q m capv]), (223, .int .i64 k)] (cP (fun v L' => ∃ q_ c_ Y_, v = .slice q_ ((inV ds vs k).length) c_ ∧ L' = List.take 7 (bx (γ1688 0) (#[.int .i64 ((rowD (getK Dom.id ds ((rowC (getK Vcp.id vs k)).dom))).id), .int .i64 ((rowD (getK Dom.id ds ((rowC (getK Vcp.id vs k)).dom))).weight), .int .i64 ((rowD (getK Dom.id ds ((rowC (getK Vcp.id vs k)).dom))).cap), .int .i64 ((rowD (getK Dom.id ds ((rowC (getK Vcp.id vs k)).dom))).pool)]) 32 :: bx (γ1684 0) (#[.int .i64 ((rowC (getK Vcp.id vs k)).id), .int .i64 ((rowC (getK Vcp.id vs k)).dom), .int .u32 ((rowC (getK Vcp.id vs k)).hard), .int .u32 ((rowC (getK Vcp.id vs k)).soft)]) 43 :: bx (γ1682 0) (#[.int .i64 ((rowD (getK Dom.id ds k)).id), .int .i64 ((rowD (getK Dom.id ds k)).weight), .int .i64 ((rowD (getK Dom.id ds k)).cap), .int .i64 ((rowD (getK Dom.id ds k)).pool)]) 32 :: bx (γ1450 0) (#[.int .i64 ((rowC (getK Vcp.id vs k)).id), .int .i64 ((rowC (getK Vcp.id vs k)).dom), .int .u32 ((rowC (getK Vcp.id vs k)).hard), .int .u32 ((rowC (getK Vcp.id vs k)).soft)]) 43 :: bx (γ1448 0) (#[.int .i64 ((rowD (getK Dom.id ds k)).id), .int .i64 ((rowD (getK Dom.id ds k)).weight), .int .i64 ((rowD (getK Dom.id ds k)).cap), .int .i64 ((rowD (getK Dom.id ds k)).pool)]) 32 :: bx (γ1 1) (#[.slice p2 n2 cap2, .slice q2 m2 capv2]) 25 :: bx (γ1 0) (#[.slice p n cap, .slice q m capv]) 25 :: (Y1693 ++ (Y1690 ++ (Y1494 ++ (Y1554 ++ (Y1324 ++ (Yx1324 ++ (Y838 ++ (Yx838 ++ []))))))))) ++ (Y_ ++ List.drop 7 (bx (γ1688 0) (#[.int .i64 ((rowD (getK Dom.id ds ((rowC (getK Vcp.id vs k)).dom))).id), .int .i64 ((rowD (getK Dom.id ds ((rowC (getK Vcp.id vs k)).dom))).weight), .int .i64 ((rowD (getK Dom.id ds ((rowC (getK Vcp.id vs k)).dom))).cap), .int .i64 ((rowD (getK Dom.id ds ((rowC (getK Vcp.id vs k)).dom))).pool)]) 32 :: bx (γ1684 0) (#[.int .i64 ((rowC (getK Vcp.id vs k)).id), .int .i64 ((rowC (getK Vcp.id vs k)).dom), .int .u32 ((rowC (getK Vcp.id vs k)).hard), .int .u32 ((rowC (getK Vcp.id vs k)).soft)]) 43 :: bx (γ1682 0) (#[.int .i64 ((rowD (getK Dom.id ds k)).id), .int .i64 ((rowD (getK Dom.id ds k)).weight), .int .i64 ((rowD (getK Dom.id ds k)).cap), .int .i64 ((rowD (getK Dom.id ds k)).pool)]) 32 :: bx (γ1450 0) (#[.int .i64 ((rowC (getK Vcp.id vs k)).id), .int .i64 ((rowC (getK Vcp.id vs k)).dom), .int .u32 ((rowC (getK Vcp.id vs k)).hard), .int .u32 ((rowC (getK Vcp.id vs k)).soft)]) 43 :: bx (γ1448 0) (#[.int .i64 ((rowD (getK Dom.id ds k)).id), .int .i64 ((rowD (getK Dom.id ds k)).weight), .int .i64 ((rowD (getK Dom.id ds k)).cap), .int .i64 ((rowD (getK Dom.id ds k)).pool)]) 32 :: bx (γ1 1) (#[.slice p2 n2 cap2, .slice q2 m2 capv2]) 25 :: bx (γ1 0) (#[.slice p n cap, .slice q m capv]) 25 :: (Y1693 ++ (Y1690 ++ (Y1494 ++ (Y1554 ++ (Y1324 ++ (Yx1324 ++ (Y838 ++ (Yx838 ++ [])))))))))) ∧ SlO 3 Y_ q_ ((inV ds vs k).length) c_ (inV ds vs k)) Try.call40 (fun w hw => by have := rin_d p n cap ds q m capv vs k w (hds.kept hw.below) hn (by omega) (hvs.kept hw.below) hm (by omega); exact this.mono fun e w' ⟨q_, m_, c_, Y_, he, hO, hm, hb, hY⟩ => by have hl := hO.len; subst hl; exact ⟨_, _, he, ⟨q_, c_, Y_, rfl, rfl, hO⟩, hw.join hb hY 7⟩) ?_))
     rintro v1696 L1696 ⟨q1696, cq1696, Y1696, rfl, rfl, hO1696⟩
     refine cD (.bool true) Try.call39 (fun w hw => by have := sints_d q1554 ((inV ds vs k).length) cq1554 ((inV ds vs k)) q1696 ((inV ds vs k).length) cq1696 ((inV ds vs k)) w (hO1554.at ((hw.tailN 7).sub ((((List.sublist_append_right Y1494 _).trans (List.sublist_append_right Y1690 _)).trans (List.sublist_append_right Y1693 _)).trans (List.sublist_append_right Y1696 _)))) hO1554.len (by omega) (hO1696.atN (A := [_, _, _, _, _, _, _]) hw) hO1696.len (by omega); simpa using this) (qo0 2 [] [] [(6, .bool true)] (on_ (ds_ (rt ([]) (.bool true) ?_))))
     exact fun w' hw => ⟨rfl, hw.below⟩
  ·
   refine cD (.bool true) Try.call9 (fun w hw => by have := over_d p2 n2 cap2 ds2 q2 m2 capv2 vs2 w; rw [q7] at this; exact this) (qo0 1 [] [2, 3, 4] [(32, .bool true)] (on_ (ds_ (t_ (sq_ (qa0 [] [] [(6, .bool true)] (ds_ (rt ([]) (.bool true) ?_))))))))
   exact fun w' hw => ⟨rfl, hw.below⟩
 ·
  refine cD (.bool true) Try.call9 (fun w hw => by have := over_d p n cap ds q m capv vs w; rw [q5] at this; exact this) (qo0 4 [] [2, 3, 4] [(32, .bool true)] (on_ (ds_ (t_ (sq_ (qa0 [] [] [(6, .bool true)] (ds_ (rt ([]) (.bool true) ?_))))))))
  exact fun w' hw => ⟨rfl, hw.below⟩
end Go.Proofs.Ytnoefldpkfpglaa

/-! The walker: what a row's inputs are: slices and structs, opened into lists. -/
namespace Go.Proofs.Ytnoefldpkfpglaa
open Go Go.RowKit

section
variable {H : Type} {enc : TypeId × Value → H} {P : Program} {w : World} {base : Nat} {spare : Nat → Bool} {held : Bool}
theorem spot_none {a : Addr} (h : a.spot = none) : a = ⟨a.block, a.off, none⟩ := by
  cases a
  simp at h
  simp [h]
theorem trod_sv {α : Type} [Enc α] {t e : TypeId} {fuel : Nat} {cs : List Value} {x : DataW H × List MemPlace} {Good : α → Prop} (ht : P.underlying t = some (.slice e)) (hc : P.cellsOf e = Enc.k α)
    (hopen : ∀ (fuel : Nat) (cs : List Value) (x : DataW H × List MemPlace), DataW.trod enc P w base spare held fuel e cs = some x → ∃ a : α, cs = Enc.enc a ∧ Good a) (h : DataW.trod enc P w base spare held fuel t cs = some x) :
    ∃ (p : Option Addr) (n cap : Nat) (l : List α), cs = [.slice p n cap] ∧ Sv w p l ∧ n = l.length ∧ n ≤ cap ∧ cap ≤ maxLen ∧ ∀ y ∈ l, Good y := by
  rcases Deep.open_slice ht h with ⟨hcs, _⟩ | ⟨a, len, cap, m, n', D, Pl, hcs, _, hle, hmx, hm, _, hi⟩
  · exact ⟨none, 0, 0, [], hcs, Sv.nil, rfl, Nat.le_refl _, Nat.zero_le _, fun y hy => by cases hy⟩
  · have key : ∀ i, i < len → ∃ y : α, w.cells? base (a.add (i * Enc.k α)) (Enc.k α) = some (Enc.enc y) ∧ Good y := fun i hin => by
      have him : i < m := by rw [hm]; split <;> omega
      obtain ⟨cs', h1, h2⟩ := hi i him
      obtain ⟨y, rfl, hy⟩ := hopen _ _ _ h2
      rw [hc] at h1
      exact ⟨y, h1, hy⟩
    rcases Nat.eq_zero_or_pos len with h0 | h0
    · subst h0
      exact ⟨some a, 0, cap, [], hcs, Sv.nil, rfl, hle, hmx, fun y hy => by cases hy⟩
    · obtain ⟨y0, hy0, _⟩ := key 0 h0
      haveI : Inhabited α := ⟨y0⟩
      obtain ⟨f, hf⟩ := Deep.choose_lt key
      obtain ⟨_, _, hcell⟩ := World.cells?_some hy0
      have h00 := hcell 0 Enc.pos
      have hlen0 : 0 < (Enc.enc y0).length := by rw [Enc.len]; exact Enc.pos
      rw [List.getElem?_eq_getElem hlen0, Nat.zero_mul, show (a.add 0).add 0 = a by simp [Addr.add]] at h00
      have hsp := spot_none (World.cell?_spot h00)
      refine ⟨some a, len, cap, (List.range len).map f, hcs, ⟨fun _ => ⟨a.block, a.off, by rw [← hsp]⟩, fun b o hbo i hil => ?_⟩, by simp, hle, hmx, fun y hy => ?_⟩
      · have hil' : i < len := by simpa using hil
        obtain ⟨_, _, hc2⟩ := World.cells?_some (hf i hil').1
        have ha : a = ⟨b, o, none⟩ := by simpa using hbo
        subst ha
        intro j v hj
        have hjk : j < Enc.k α := by rw [← Enc.len (f i)]; have := (List.getElem?_eq_some_iff.1 hj).1; simpa using this
        have h3 := hc2 j hjk
        rw [Deep.add_add] at h3
        have h4 : (Enc.enc (f i))[j]? = some v := by simpa using hj
        rw [h4] at h3
        have h5 : (⟨b, o, none⟩ : Addr).add (i * Enc.k α + j) = ⟨b, o + i * Enc.k α + j, none⟩ := by
          unfold Addr.add; split <;> simp_all <;> omega
        rw [h5] at h3
        exact h3
      · obtain ⟨i, hir, rfl⟩ := List.mem_map.1 hy
        exact (hf i (List.mem_range.1 hir)).2
theorem list1 {α : Type} {cs : List α} (h : cs.length = 1) : ∃ c0, cs = [c0] := by
  match cs, h with
  | [a], _ => exact ⟨a, rfl⟩
theorem list2' {α : Type} {cs : List α} (h : cs.length = 2) : ∃ c0 c1, cs = [c0, c1] := by
  match cs, h with
  | [a, b], _ => exact ⟨a, b, rfl⟩
theorem list5 {α : Type} {cs : List α} (h : cs.length = 5) : ∃ c0 c1 c2 c3 c4, cs = [c0, c1, c2, c3, c4] := by
  match cs, h with
  | [a, b, c, d, e], _ => exact ⟨a, b, c, d, e, rfl⟩
theorem trod_int1 {t : TypeId} {fuel : Nat} {cs : List Value} {x : DataW H × List MemPlace} (ht : P.underlying t = some (.int .i64)) (h : DataW.trod enc P w base spare held fuel t cs = some x) : ∃ a : Int, cs = Enc.enc a ∧ True := by
  obtain ⟨a, rfl, _, _⟩ := DataW.trod_int ht h
  exact ⟨a, rfl, trivial⟩
end
end Go.Proofs.Ytnoefldpkfpglaa

/-! Chapter 09: what the rows' inputs are. -/
namespace Go.Proofs.Ytnoefldpkfpglaa
open Go Go.RowKit Go.ChangeShapes Go.WideShapes

section
variable {H : Type} {enc : TypeId × Value → H} {w : World} {base : Nat} {spare : Nat → Bool} {held : Bool}
theorem cInt : Try.prog.cellsOf 3 = 1 := by kernel_rfl
theorem cCpus : Try.prog.cellsOf 39 = 1 := by kernel_rfl
theorem cMask : Try.prog.cellsOf 41 = 2 := by kernel_rfl
theorem cVcpu : Try.prog.cellsOf 43 = 4 := by kernel_rfl
theorem cGuests : Try.prog.cellsOf 25 = 2 := by kernel_rfl
theorem cDoms : Try.prog.cellsOf 22 = 1 := by kernel_rfl
theorem cVcps : Try.prog.cellsOf 23 = 1 := by kernel_rfl
theorem word_open {fuel : Nat} {cs : List Value} {x : DataW H × List MemPlace} (h : DataW.trod enc Try.prog w base spare held fuel 39 cs = some x) : ∃ a : Int, cs = [.int .u32 a] ∧ 0 ≤ a ∧ a < 4294967296 := by
  obtain ⟨a, ea, _, hw⟩ := DataW.trod_int Try.underlying39 h
  refine ⟨a, ea, ?_⟩
  simp only [Lit.wf, Bool.and_eq_true, decide_eq_true_eq] at hw
  exact ⟨hw.1, by have h2 : a ≤ 4294967295 := hw.2; omega⟩
theorem mask_open {fuel : Nat} {cs : List Value} {x : DataW H × List MemPlace} (h : DataW.trod enc Try.prog w base spare held fuel 41 cs = some x) : ∃ a b : Int, cs = [.int .u32 a, .int .u32 b] ∧ (0 ≤ a ∧ a < 4294967296) ∧ 0 ≤ b ∧ b < 4294967296 := by
  obtain ⟨xs, n, _, rfl, hl, hlen, hf⟩ := DataW.trod_struct Try.underlying41 h
  rw [cMask] at hl
  obtain ⟨c0, c1, rfl⟩ := list2' hl
  obtain ⟨y0, y1, rfl⟩ := list2' hlen
  have h0 : DataW.trod enc Try.prog w base spare held n 39 (([c0, c1].drop 0).take (Try.prog.cellsOf 39)) = some y0 := hf 0 _ rfl
  have h1 : DataW.trod enc Try.prog w base spare held n 39 (([c0, c1].drop 1).take (Try.prog.cellsOf 39)) = some y1 := hf 1 _ rfl
  rw [cCpus] at h0 h1
  simp only [List.drop_zero, List.take_succ_cons, List.take_zero, List.drop_succ_cons] at h0 h1
  obtain ⟨a, ea, ra⟩ := word_open h0
  obtain ⟨b, eb, rb⟩ := word_open h1
  simp only [List.cons.injEq, and_true] at ea eb
  subst ea; subst eb
  exact ⟨a, b, rfl, ra, rb⟩
theorem list4v {α : Type} {cs : List α} (h : cs.length = 4) : ∃ c0 c1 c2 c3, cs = [c0, c1, c2, c3] := by
  match cs, h with
  | [a, b, c, d], _ => exact ⟨a, b, c, d, rfl⟩
theorem list3v {α : Type} {cs : List α} (h : cs.length = 3) : ∃ c0 c1 c2, cs = [c0, c1, c2] := by
  match cs, h with
  | [a, b, c], _ => exact ⟨a, b, c, rfl⟩
theorem vcpu_open {fuel : Nat} {cs : List Value} {x : DataW H × List MemPlace} (h : DataW.trod enc Try.prog w base spare held fuel 43 cs = some x) : ∃ a : Vcp, cs = Enc.enc a ∧ ((0 ≤ a.hard ∧ a.hard < 4294967296) ∧ 0 ≤ a.soft ∧ a.soft < 4294967296) := by
  obtain ⟨xs, n, _, rfl, hl, hlen, hf⟩ := DataW.trod_struct Try.underlying43 h
  rw [cVcpu] at hl
  obtain ⟨c0, c1, c2, c3, rfl⟩ := list4v hl
  obtain ⟨y0, y1, y2, rfl⟩ := list3v hlen
  have h0 : DataW.trod enc Try.prog w base spare held n 3 (([c0, c1, c2, c3].drop 0).take (Try.prog.cellsOf 3)) = some y0 := hf 0 _ rfl
  have h1 : DataW.trod enc Try.prog w base spare held n 3 (([c0, c1, c2, c3].drop 1).take (Try.prog.cellsOf 3)) = some y1 := hf 1 _ rfl
  have h2 : DataW.trod enc Try.prog w base spare held n 41 (([c0, c1, c2, c3].drop 2).take (Try.prog.cellsOf 41)) = some y2 := hf 2 _ rfl
  clear hf hl hlen h
  rw [cInt] at h0 h1
  rw [cMask] at h2
  simp only [List.drop_zero, List.take_succ_cons, List.take_zero, List.drop_succ_cons] at h0 h1 h2
  obtain ⟨a, ea, _, _⟩ := DataW.trod_int Try.underlying3 h0
  obtain ⟨b, eb, _, _⟩ := DataW.trod_int Try.underlying3 h1
  obtain ⟨c, d, ec, rc, rd⟩ := mask_open h2
  simp only [List.cons.injEq, and_true] at ea eb ec
  obtain ⟨ec, ed⟩ := ec
  subst ea; subst eb; subst ec; subst ed
  exact ⟨⟨a, b, c, d⟩, rfl, rc, rd⟩
theorem domain_open_cells : Try.prog.cellsOf 32 = 4 := by kernel_rfl
theorem domain_open_list {α : Type} {cs : List α} (h : cs.length = 4) : ∃ c0 c1 c2 c3, cs = [c0, c1, c2, c3] := by
  match cs, h with
  | [c0, c1, c2, c3], _ => exact ⟨c0, c1, c2, c3, rfl⟩
theorem domain_open {fuel : Nat} {cs : List Value} {x : DataW H × List MemPlace} (h : DataW.trod enc Try.prog w base spare held fuel 32 cs = some x) : ∃ a : Dom, cs = Enc.enc a ∧ True := by
  obtain ⟨xs, n, _, rfl, hl, hlen, hf⟩ := DataW.trod_struct Try.underlying32 h
  rw [domain_open_cells] at hl
  obtain ⟨c0, c1, c2, c3, rfl⟩ := domain_open_list hl
  obtain ⟨y0, y1, y2, y3, rfl⟩ := domain_open_list hlen
  have h0 : DataW.trod enc Try.prog w base spare held n 3 (([c0, c1, c2, c3].drop 0).take (Try.prog.cellsOf 3)) = some y0 := hf 0 _ rfl
  have h1 : DataW.trod enc Try.prog w base spare held n 3 (([c0, c1, c2, c3].drop 1).take (Try.prog.cellsOf 3)) = some y1 := hf 1 _ rfl
  have h2 : DataW.trod enc Try.prog w base spare held n 3 (([c0, c1, c2, c3].drop 2).take (Try.prog.cellsOf 3)) = some y2 := hf 2 _ rfl
  have h3 : DataW.trod enc Try.prog w base spare held n 3 (([c0, c1, c2, c3].drop 3).take (Try.prog.cellsOf 3)) = some y3 := hf 3 _ rfl
  clear hf hl hlen h
  rw [cInt] at h0 h1 h2 h3
  simp only [List.drop_zero, List.take_succ_cons, List.take_zero, List.drop_succ_cons] at h0 h1 h2 h3
  obtain ⟨v0, e0, _, _⟩ := DataW.trod_int Try.underlying3 h0
  obtain ⟨v1, e1, _, _⟩ := DataW.trod_int Try.underlying3 h1
  obtain ⟨v2, e2, _, _⟩ := DataW.trod_int Try.underlying3 h2
  obtain ⟨v3, e3, _, _⟩ := DataW.trod_int Try.underlying3 h3
  simp only [List.cons.injEq, and_true] at e0 e1 e2 e3
  subst e0; subst e1; subst e2; subst e3
  exact ⟨⟨v0, v1, v2, v3⟩, rfl, trivial⟩
set_option maxRecDepth 100000 in
theorem guests_open {v : Value} {d : DataW H} {pl : List MemPlace} (hv : Value.okWide Try.prog w .any base 25 v) (h : DataW.Trod enc Try.prog w 0 spare held 25 v d pl) :
    ∃ (p : Option Addr) (n cap : Nat) (ds : List Dom) (q : Option Addr) (m capv : Nat) (vs : List Vcp), v = .agg #[.slice p n cap, .slice q m capv] ∧ Sv w p ds ∧ n = ds.length ∧ Sv w q vs ∧ m = vs.length ∧ Wrd vs := by
  obtain ⟨cs, rfl, hsz⟩ := okWide_struct Try.underlying25 hv
  obtain ⟨fuel, hf⟩ := h
  obtain ⟨xs, n, _, _, hl, hlen, hf⟩ := DataW.trod_struct Try.underlying25 hf
  obtain ⟨y0, y1, rfl⟩ := list2' hlen
  have h0 : DataW.trod enc Try.prog w 0 spare held n 22 ((((Value.agg cs).cells.toList).drop 0).take (Try.prog.cellsOf 22)) = some y0 := hf 0 _ rfl
  have h1 : DataW.trod enc Try.prog w 0 spare held n 23 ((((Value.agg cs).cells.toList).drop 1).take (Try.prog.cellsOf 23)) = some y1 := hf 1 _ rfl
  rw [cGuests] at hl
  obtain ⟨c0, c1, hc0⟩ := list2' hl
  rw [hc0, cDoms] at h0
  rw [hc0, cVcps] at h1
  obtain ⟨p, n, cap, l, he, hs, hn, hle, hmx, _⟩ := trod_sv (Good := fun _ => True) Try.underlying22 domain_open_cells (fun _ _ _ h => domain_open h) h0
  obtain ⟨q, m, capv, l2, he2, hs2, hm, hle2, hmx2, hw⟩ := trod_sv Try.underlying23 cVcpu (fun _ _ _ h => vcpu_open h) h1
  simp only [List.drop_zero, List.take_succ_cons, List.take_zero, List.drop_succ_cons, List.cons.injEq, and_true] at he he2
  subst he; subst he2
  refine ⟨p, n, cap, l, q, m, capv, l2, ?_, hs, hn, hs2, hm, hw⟩
  congr 1
  exact Array.toList_inj.1 (by simpa [Value.cells] using hc0)
set_option maxRecDepth 100000 in
theorem dom_arg {v : Value} {d : DataW H} {pl : List MemPlace} (hv : Value.okWide Try.prog w .any base 32 v) (h : DataW.Trod enc Try.prog w 0 spare held 32 v d pl) : ∃ x : Dom, v = .agg #[.int .i64 x.id, .int .i64 x.weight, .int .i64 x.cap, .int .i64 x.pool] := by
  obtain ⟨cs, rfl, hsz⟩ := okWide_struct Try.underlying32 hv
  obtain ⟨fuel, hf⟩ := h
  obtain ⟨a, ha, _⟩ := domain_open hf
  refine ⟨a, ?_⟩
  congr 1
  exact Array.toList_inj.1 (by simpa [Value.cells, Enc.enc, Dom.enc] using ha)
set_option maxRecDepth 100000 in
theorem vcp_arg {v : Value} {d : DataW H} {pl : List MemPlace} (hv : Value.okWide Try.prog w .any base 43 v) (h : DataW.Trod enc Try.prog w 0 spare held 43 v d pl) : ∃ x : Vcp, v = .agg #[.int .i64 x.id, .int .i64 x.dom, .int .u32 x.hard, .int .u32 x.soft] ∧ (0 ≤ x.hard ∧ x.hard < 4294967296) ∧ 0 ≤ x.soft ∧ x.soft < 4294967296 := by
  obtain ⟨cs, rfl, hsz⟩ := okWide_struct Try.underlying43 hv
  obtain ⟨fuel, hf⟩ := h
  obtain ⟨a, ha, hr⟩ := vcpu_open hf
  refine ⟨a, ?_, hr⟩
  congr 1
  exact Array.toList_inj.1 (by simpa [Value.cells, Enc.enc, Vcp.enc] using ha)
end
end Go.Proofs.Ytnoefldpkfpglaa
