/- Texts of this proof, one behind the other. -/
import Derived.Test.YtnoefldpkfpglaaZc
/-! Domains: the reference, which may be. -/
namespace Go.Proofs.Ytnoefldpkfpglaa
open Go Go.RowKit

set_option maxRecDepth 100000 in
theorem rright_d (p : Option Addr) (n cap : Nat) (ds : List Dom) (q : Option Addr) (m capv : Nat) (vs : List Vcp) (w : World)
 (hds : Sv w p ds) (hn : n = ds.length) (hb : n ≤ 1000)
 (hvs : Sv w q vs) (hm : m = vs.length) (hmb : m ≤ 1000)
 (hr : Wrd vs)
 : Calls Try.prog 24 #[.agg #[.slice p n cap, .slice q m capv]] w fun e w' => e = .returned (.bool (guestsB ds vs)) ∧ Below w.heap.size w w' := by
 refine enter (Hs.start w) Try.func24 rfl Try.ntmps24 rfl (sq_ (ma0 [] [] (fun γ1 => [(1, .pointer (some ⟨γ1 0, 0, none⟩))]) (fun γ1 L => bx (γ1 0) (#[.slice p n cap, .slice q m capv]) 25 :: L) (fun γ1 => ds_ (sq_ (sq_ ?_)))))
 by_cases q3 : ((n : Nat) : Int) > (8 : Int)
 ·
  refine qa [(1, .go (owns 0 0 1)), (3, .yes)] [1] [(17, .bool true)] ([((n : Nat) : Int) > (8 : Int)]) (al1 q3) (ds_ (t_ (sq_ (qa0 [] [] [(2, .bool false)] (ds_ (rt ([]) (.bool false) ?_))))))
  exact fun w' hw => ⟨by rw [bad_dl (by omega)], hw.below⟩
 ·
  by_cases q7 : ((m : Nat) : Int) > (16 : Int)
  ·
   refine qa [(1, .go (owns 0 0 1)), (3, .no), (6, .go (owns 0 1 1)), (8, .yes)] [1] [(17, .bool true)] ([¬ (((n : Nat) : Int) > (8 : Int))] ++ ([((m : Nat) : Int) > (16 : Int)])) (alA (al1 q3) (al1 q7)) (ds_ (t_ (sq_ (qa0 [] [] [(2, .bool false)] (ds_ (rt ([]) (.bool false) ?_))))))
   exact fun w' hw => ⟨by rw [bad_vl (by omega)], hw.below⟩
  ·
   refine qa [(1, .go (owns 0 0 1)), (3, .no), (6, .go (owns 0 1 1)), (8, .no)] [1] [(17, .bool false)] ([¬ (((n : Nat) : Int) > (8 : Int))] ++ ([¬ (((m : Nat) : Int) > (16 : Int))])) (alA (al1 q3) (al1 q7)) (ds_ (f_ (at_skip (ds_ (sq_ (sq_ (qa0 [] [1] [(3, .int .i64 0)] (ds_ (at_block (at_loop (α := Nat) [1, 3] (fun jd => [(1, .pointer (some ⟨γ1 0, 0, none⟩)), (3, .int .i64 ((jd : Nat)))]) (fun jd => [bx (γ1 0) (#[.slice p n cap, .slice q m capv]) 25]) (fun jd => jd ≤ n ∧ Ris Dom.id (ds.take jd) ∧ ∀ y ∈ ds.take jd, mayB y = true ∧ cntV vs y.id ≤ 8) (fun jd => n - jd) 0 (by kernel_rfl) rfl ⟨Nat.zero_le _, ris_take0, all_take0⟩ ?_))))))))))
   rintro jd
   rintro ⟨hjd, hRd, hAd⟩
   refine sq_ (sq_ ?_)
   by_cases q13 : ((jd : Nat) : Int) < ((n : Nat) : Int)
   ·
    refine qa [(2, .go (owns 0 0 1)), (4, .yes)] [1, 3] [(22, .bool true)] ([((jd : Nat) : Int) < ((n : Nat) : Int)]) (al1 q13) (ds_ (t_ (at_skip (ds_ (sq_ (at_block (sq_ ?_)))))))
    obtain ⟨x15, hx15⟩ := get_some (l := ds) (m := jd) (by omega)
    rcases q16 : mayB x15 with _ | _
    ·
     obtain ⟨b18, o18, rfl⟩ := hds.pos (i := jd) (by omega)
     refine at_any (by kernel_rfl) ?_
     refine tk (m := 37) [0, 2] [] [1, 3] [(25, .pointer (some ⟨γ1 0, 0, none⟩)), (27, .int .i64 ((jd : Nat)))] ([]) #[true, false, true, false, false, false, false, false, false, false, false, false, false, false, false, false, false, false, false, false, false, false, false, false, false, false, false, false, false, false, false, false, false, false, false, false, false, false, false] al0 ?_
     refine any_cutX (V := Unit) (fun _ => True) 0 #[true, true, true, true, true, true, true, true, true, true, true, true, true, true, true, true, true, true, true, true, true, true, true, true, true, true, true, true, true, true, true, true, true, true, true, true, true, true, true] (fun _ => [(1, .pointer (some ⟨γ1 0, 0, none⟩)), (3, .int .i64 ((jd : Nat))), (63, .bool true)]) (fun _ => [bx (γ1 0) (#[.slice (some ⟨b18, o18, none⟩) n cap, .slice q m capv]) 25]) ?_ (fun hmx17 => ?_)
     rotate_left
     ·
      refine any_cutX (V := Unit) (fun _ => True) 4 #[true, true, true, true, true, true, true, true, true, true, true, true, true, true, true, true, true, true, true, true, true, true, true, true, true, true, true, true, true, true, true, true, true, true, true, false, false, false, false] (fun _ => [(1, .pointer (some ⟨γ1 0, 0, none⟩)), (3, .int .i64 ((jd : Nat))), (52, .bool true), (53, undef), (59, undef)]) (fun _ => [bx (γ1 0) (#[.slice (some ⟨b18, o18, none⟩) n cap, .slice q m capv]) 25]) ?_ (fun hmx16 => ?_)
      ·
       rintro _ _
       refine a1 35 rfl ?_
       refine qo0 1 [] [1, 3, 52] [(60, undef)] ?_
       refine od_ ?_
       refine tk (m := 0) [36, 37, 38] [] [1, 3] [(63, .bool true)] ([]) #[true, true, true, true, true, true, true, true, true, true, true, true, true, true, true, true, true, true, true, true, true, true, true, true, true, true, true, true, true, true, true, true, true, true, true, true, true, true, true] al0 ?_
       exact wk (hmx17 () trivial) [1, 3, 63] [[_]] [0] rfl rfl
      refine any_cutX (V := Unit) (fun _ => True) 5 #[true, true, true, true, true, true, true, true, true, true, true, true, true, true, true, true, true, true, true, true, true, true, true, true, true, true, true, true, false, true, true, true, true, true, true, false, false, false, false] (fun _ => [(1, .pointer (some ⟨γ1 0, 0, none⟩)), (3, .int .i64 ((jd : Nat))), (52, .bool true), (59, undef)]) (fun _ => [bx (γ1 0) (#[.slice (some ⟨b18, o18, none⟩) n cap, .slice q m capv]) 25]) ?_ (fun hmx15 => ?_)
      ·
       rintro _ _
       refine a1 28 rfl ?_
       refine qo0 1 [] [1, 3, 52, 59] [(53, undef)] ?_
       refine od_ ?_
       exact wk (hmx16 () trivial) [1, 3, 52, 53, 59] [[_]] [0] rfl rfl
      refine any_cutX (V := Unit) (fun _ => True) 5 #[true, true, true, true, true, true, true, true, true, true, true, true, true, true, true, true, true, true, true, true, true, true, true, true, true, true, true, true, true, true, true, true, true, true, false, false, false, false, false] (fun _ => [(1, .pointer (some ⟨γ1 0, 0, none⟩)), (3, .int .i64 ((jd : Nat))), (52, .bool true), (53, undef), (58, undef)]) (fun _ => [bx (γ1 0) (#[.slice (some ⟨b18, o18, none⟩) n cap, .slice q m capv]) 25]) ?_ (fun hmx14 => ?_)
      ·
       rintro _ _
       refine a1 34 rfl ?_
       refine qo0 1 [] [1, 3, 52, 53] [(59, undef)] ?_
       refine od_ ?_
       exact wk (hmx16 () trivial) [1, 3, 52, 53, 59] [[_]] [0] rfl rfl
      refine any_cutX (V := Unit) (fun _ => True) 6 #[true, true, true, true, true, true, true, true, true, true, true, true, true, true, true, true, true, true, true, true, true, true, true, true, true, true, true, true, false, true, true, true, true, true, false, false, false, false, false] (fun _ => [(1, .pointer (some ⟨γ1 0, 0, none⟩)), (3, .int .i64 ((jd : Nat))), (52, .bool true), (58, undef)]) (fun _ => [bx (γ1 0) (#[.slice (some ⟨b18, o18, none⟩) n cap, .slice q m capv]) 25]) ?_ (fun hmx13 => ?_)
      ·
       rintro _ _
       refine any_fork [28, 34] (by kernel_rfl) (by simp) (each_cons _ rfl ?_ (each_cons _ rfl ?_ (each_nil)))
       ·
        refine qo0 1 [] [1, 3, 52, 58] [(53, undef)] ?_
        refine od_ ?_
        exact wk (hmx14 () trivial) [1, 3, 52, 53, 58] [[_]] [0] rfl rfl
       ·
        refine qo0 1 [] [1, 3, 52] [(59, undef)] ?_
        refine od_ ?_
        exact wk (hmx15 () trivial) [1, 3, 52, 59] [[_]] [0] rfl rfl
      refine any_cutX (V := Unit) (fun _ => True) 8 #[true, true, true, true, true, true, true, true, true, true, true, true, true, true, true, true, true, true, true, true, true, true, true, true, true, true, true, true, true, true, false, true, false, false, false, false, false, false, false] (fun _ => [(1, .pointer (some ⟨γ1 0, 0, none⟩)), (3, .int .i64 ((jd : Nat))), (52, .bool true), (53, undef), (54, undef), (56, undef)]) (fun _ => [bx (γ1 0) (#[.slice (some ⟨b18, o18, none⟩) n cap, .slice q m capv]) 25]) ?_ (fun hmx12 => ?_)
      ·
       rintro _ _
       refine a1 30 rfl ?_
       refine qo0 1 [] [1, 3, 52, 53, 56] [(55, undef)] ?_
       refine od_ ?_
       refine tk (m := 5) [32, 33] [] [1, 3, 52, 53] [(58, undef)] ([]) #[true, true, true, true, true, true, true, true, true, true, true, true, true, true, true, true, true, true, true, true, true, true, true, true, true, true, true, true, true, true, true, true, true, true, false, false, false, false, false] al0 ?_
       exact wk (hmx14 () trivial) [1, 3, 52, 53, 58] [[_]] [0] rfl rfl
      refine any_cutX (V := Unit) (fun _ => True) 9 #[true, true, true, true, true, true, true, true, true, true, true, true, true, true, true, true, true, true, true, true, true, true, true, true, true, true, true, true, false, true, false, true, false, false, false, false, false, false, false] (fun _ => [(1, .pointer (some ⟨γ1 0, 0, none⟩)), (3, .int .i64 ((jd : Nat))), (52, .bool true), (54, undef), (56, undef)]) (fun _ => [bx (γ1 0) (#[.slice (some ⟨b18, o18, none⟩) n cap, .slice q m capv]) 25]) ?_ (fun hmx11 => ?_)
      ·
       rintro _ _
       refine any_fork [28, 30] (by kernel_rfl) (by simp) (each_cons _ rfl ?_ (each_cons _ rfl ?_ (each_nil)))
       ·
        refine qo0 1 [] [1, 3, 52, 54, 56] [(53, undef)] ?_
        refine od_ ?_
        exact wk (hmx12 () trivial) [1, 3, 52, 53, 54, 56] [[_]] [0] rfl rfl
       ·
        refine qo0 1 [] [1, 3, 52, 56] [(55, undef)] ?_
        refine od_ ?_
        refine tk (m := 6) [32, 33] [] [1, 3, 52] [(58, undef)] ([]) #[true, true, true, true, true, true, true, true, true, true, true, true, true, true, true, true, true, true, true, true, true, true, true, true, true, true, true, true, false, true, true, true, true, true, false, false, false, false, false] al0 ?_
        exact wk (hmx13 () trivial) [1, 3, 52, 58] [[_]] [0] rfl rfl
      refine any_cutX (V := Unit) (fun _ => True) 16 #[true, true, true, true, true, true, true, true, true, true, true, true, true, true, true, true, true, false, true, true, true, true, true, true, false, false, false, false, false, false, false, false, false, false, false, false, false, false, false] (fun _ => [(1, .pointer (some ⟨γ1 0, 0, none⟩)), (3, .int .i64 ((jd : Nat))), (32, .bool true), (35, undef), (41, undef), (48, undef)]) (fun _ => [bx (γ1 0) (#[.slice (some ⟨b18, o18, none⟩) n cap, .slice q m capv]) 25]) ?_ (fun hmx10 => ?_)
      ·
       rintro _ _
       refine a1 17 rfl ?_
       refine qo0 1 [] [1, 3, 32, 35, 48] [(42, undef)] ?_
       refine od_ ?_
       refine tk (m := 9) [24, 25, 26, 27, 29, 31] [] [1, 3] [(52, .bool true), (54, undef), (56, undef)] ([]) #[true, true, true, true, true, true, true, true, true, true, true, true, true, true, true, true, true, true, true, true, true, true, true, true, true, true, true, true, false, true, false, true, false, false, false, false, false, false, false] al0 ?_
       exact wk (hmx11 () trivial) [1, 3, 52, 54, 56] [[_]] [0] rfl rfl
      refine any_cutX (V := Unit) (fun _ => True) 16 #[true, true, true, true, true, true, true, true, true, true, true, true, true, true, true, true, true, true, true, true, true, true, true, false, false, false, false, false, false, false, false, false, false, false, false, false, false, false, false] (fun _ => [(1, .pointer (some ⟨γ1 0, 0, none⟩)), (3, .int .i64 ((jd : Nat))), (32, .bool true), (35, undef), (42, undef), (47, undef)]) (fun _ => [bx (γ1 0) (#[.slice (some ⟨b18, o18, none⟩) n cap, .slice q m capv]) 25]) ?_ (fun hmx9 => ?_)
      ·
       rintro _ _
       refine a1 23 rfl ?_
       refine qo0 1 [] [1, 3, 32, 35, 42] [(48, undef)] ?_
       refine od_ ?_
       refine tk (m := 9) [24, 25, 26, 27, 29, 31] [] [1, 3] [(52, .bool true), (54, undef), (56, undef)] ([]) #[true, true, true, true, true, true, true, true, true, true, true, true, true, true, true, true, true, true, true, true, true, true, true, true, true, true, true, true, false, true, false, true, false, false, false, false, false, false, false] al0 ?_
       exact wk (hmx11 () trivial) [1, 3, 52, 54, 56] [[_]] [0] rfl rfl
      refine any_cutX (V := Unit) (fun _ => True) 17 #[true, true, true, true, true, true, true, true, true, true, true, true, true, true, true, true, true, false, true, true, true, true, true, false, false, false, false, false, false, false, false, false, false, false, false, false, false, false, false] (fun _ => [(1, .pointer (some ⟨γ1 0, 0, none⟩)), (3, .int .i64 ((jd : Nat))), (32, .bool true), (35, undef), (41, undef), (47, undef)]) (fun _ => [bx (γ1 0) (#[.slice (some ⟨b18, o18, none⟩) n cap, .slice q m capv]) 25]) ?_ (fun hmx8 => ?_)
      ·
       rintro _ _
       refine any_fork [17, 23] (by kernel_rfl) (by simp) (each_cons _ rfl ?_ (each_cons _ rfl ?_ (each_nil)))
       ·
        refine qo0 1 [] [1, 3, 32, 35, 47] [(42, undef)] ?_
        refine od_ ?_
        exact wk (hmx9 () trivial) [1, 3, 32, 35, 42, 47] [[_]] [0] rfl rfl
       ·
        refine qo0 1 [] [1, 3, 32, 35, 41] [(48, undef)] ?_
        refine od_ ?_
        exact wk (hmx10 () trivial) [1, 3, 32, 35, 41, 48] [[_]] [0] rfl rfl
      refine any_cutX (V := Unit) (fun _ => True) 19 #[true, true, true, true, true, true, true, true, true, true, true, true, false, true, true, false, false, false, true, true, true, true, true, true, false, false, false, false, false, false, false, false, false, false, false, false, false, false, false] (fun _ => [(1, .pointer (some ⟨γ1 0, 0, none⟩)), (3, .int .i64 ((jd : Nat))), (32, .bool true), (35, undef), (36, undef), (39, undef), (48, undef)]) (fun _ => [bx (γ1 0) (#[.slice (some ⟨b18, o18, none⟩) n cap, .slice q m capv]) 25]) ?_ (fun hmx7 => ?_)
      ·
       rintro _ _
       refine a1 12 rfl ?_
       refine qo0 1 [] [1, 3, 32, 35, 39, 48] [(37, undef)] ?_
       refine od_ ?_
       refine tk (m := 16) [15, 16] [] [1, 3, 32, 35, 48] [(41, undef)] ([]) #[true, true, true, true, true, true, true, true, true, true, true, true, true, true, true, true, true, false, true, true, true, true, true, true, false, false, false, false, false, false, false, false, false, false, false, false, false, false, false] al0 ?_
       exact wk (hmx10 () trivial) [1, 3, 32, 35, 41, 48] [[_]] [0] rfl rfl
      refine any_cutX (V := Unit) (fun _ => True) 19 #[true, true, true, true, true, true, true, true, true, true, true, true, true, true, true, true, true, true, true, false, true, false, false, false, false, false, false, false, false, false, false, false, false, false, false, false, false, false, false] (fun _ => [(1, .pointer (some ⟨γ1 0, 0, none⟩)), (3, .int .i64 ((jd : Nat))), (32, .bool true), (35, undef), (42, undef), (43, undef), (45, undef)]) (fun _ => [bx (γ1 0) (#[.slice (some ⟨b18, o18, none⟩) n cap, .slice q m capv]) 25]) ?_ (fun hmx6 => ?_)
      ·
       rintro _ _
       refine a1 19 rfl ?_
       refine qo0 1 [] [1, 3, 32, 35, 42, 45] [(44, undef)] ?_
       refine od_ ?_
       refine tk (m := 16) [21, 22] [] [1, 3, 32, 35, 42] [(47, undef)] ([]) #[true, true, true, true, true, true, true, true, true, true, true, true, true, true, true, true, true, true, true, true, true, true, true, false, false, false, false, false, false, false, false, false, false, false, false, false, false, false, false] al0 ?_
       exact wk (hmx9 () trivial) [1, 3, 32, 35, 42, 47] [[_]] [0] rfl rfl
      refine any_cutX (V := Unit) (fun _ => True) 20 #[true, true, true, true, true, true, true, true, true, true, true, true, false, true, true, false, false, false, true, true, true, true, true, false, false, false, false, false, false, false, false, false, false, false, false, false, false, false, false] (fun _ => [(1, .pointer (some ⟨γ1 0, 0, none⟩)), (3, .int .i64 ((jd : Nat))), (32, .bool true), (35, undef), (36, undef), (39, undef), (47, undef)]) (fun _ => [bx (γ1 0) (#[.slice (some ⟨b18, o18, none⟩) n cap, .slice q m capv]) 25]) ?_ (fun hmx5 => ?_)
      ·
       rintro _ _
       refine any_fork [12, 23] (by kernel_rfl) (by simp) (each_cons _ rfl ?_ (each_cons _ rfl ?_ (each_nil)))
       ·
        refine qo0 1 [] [1, 3, 32, 35, 39, 47] [(37, undef)] ?_
        refine od_ ?_
        refine tk (m := 17) [15, 16] [] [1, 3, 32, 35, 47] [(41, undef)] ([]) #[true, true, true, true, true, true, true, true, true, true, true, true, true, true, true, true, true, false, true, true, true, true, true, false, false, false, false, false, false, false, false, false, false, false, false, false, false, false, false] al0 ?_
        exact wk (hmx8 () trivial) [1, 3, 32, 35, 41, 47] [[_]] [0] rfl rfl
       ·
        refine qo0 1 [] [1, 3, 32, 35, 36, 39] [(48, undef)] ?_
        refine od_ ?_
        exact wk (hmx7 () trivial) [1, 3, 32, 35, 36, 39, 48] [[_]] [0] rfl rfl
      refine any_cutX (V := Unit) (fun _ => True) 20 #[true, true, true, true, true, true, true, true, true, true, true, true, true, true, true, true, true, false, true, false, true, false, false, false, false, false, false, false, false, false, false, false, false, false, false, false, false, false, false] (fun _ => [(1, .pointer (some ⟨γ1 0, 0, none⟩)), (3, .int .i64 ((jd : Nat))), (32, .bool true), (35, undef), (41, undef), (43, undef), (45, undef)]) (fun _ => [bx (γ1 0) (#[.slice (some ⟨b18, o18, none⟩) n cap, .slice q m capv]) 25]) ?_ (fun hmx4 => ?_)
      ·
       rintro _ _
       refine any_fork [17, 19] (by kernel_rfl) (by simp) (each_cons _ rfl ?_ (each_cons _ rfl ?_ (each_nil)))
       ·
        refine qo0 1 [] [1, 3, 32, 35, 43, 45] [(42, undef)] ?_
        refine od_ ?_
        exact wk (hmx6 () trivial) [1, 3, 32, 35, 42, 43, 45] [[_]] [0] rfl rfl
       ·
        refine qo0 1 [] [1, 3, 32, 35, 41, 45] [(44, undef)] ?_
        refine od_ ?_
        refine tk (m := 17) [21, 22] [] [1, 3, 32, 35, 41] [(47, undef)] ([]) #[true, true, true, true, true, true, true, true, true, true, true, true, true, true, true, true, true, false, true, true, true, true, true, false, false, false, false, false, false, false, false, false, false, false, false, false, false, false, false] al0 ?_
        exact wk (hmx8 () trivial) [1, 3, 32, 35, 41, 47] [[_]] [0] rfl rfl
      refine any_cutX (V := Unit) (fun _ => True) 23 #[true, true, true, true, true, true, true, true, true, true, true, true, false, true, true, false, false, false, true, false, true, false, false, false, false, false, false, false, false, false, false, false, false, false, false, false, false, false, false] (fun _ => [(1, .pointer (some ⟨γ1 0, 0, none⟩)), (3, .int .i64 ((jd : Nat))), (32, .bool true), (35, undef), (36, undef), (39, undef), (43, undef), (45, undef)]) (fun _ => [bx (γ1 0) (#[.slice (some ⟨b18, o18, none⟩) n cap, .slice q m capv]) 25]) ?_ (fun hmx3 => ?_)
      ·
       rintro _ _
       refine any_fork [12, 19] (by kernel_rfl) (by simp) (each_cons _ rfl ?_ (each_cons _ rfl ?_ (each_nil)))
       ·
        refine qo0 1 [] [1, 3, 32, 35, 39, 43, 45] [(37, undef)] ?_
        refine od_ ?_
        refine tk (m := 20) [15, 16] [] [1, 3, 32, 35, 43, 45] [(41, undef)] ([]) #[true, true, true, true, true, true, true, true, true, true, true, true, true, true, true, true, true, false, true, false, true, false, false, false, false, false, false, false, false, false, false, false, false, false, false, false, false, false, false] al0 ?_
        exact wk (hmx4 () trivial) [1, 3, 32, 35, 41, 43, 45] [[_]] [0] rfl rfl
       ·
        refine qo0 1 [] [1, 3, 32, 35, 36, 39, 45] [(44, undef)] ?_
        refine od_ ?_
        refine tk (m := 20) [21, 22] [] [1, 3, 32, 35, 36, 39] [(47, undef)] ([]) #[true, true, true, true, true, true, true, true, true, true, true, true, false, true, true, false, false, false, true, true, true, true, true, false, false, false, false, false, false, false, false, false, false, false, false, false, false, false, false] al0 ?_
        exact wk (hmx5 () trivial) [1, 3, 32, 35, 36, 39, 47] [[_]] [0] rfl rfl
      refine any_cutX (V := Unit) (fun _ => True) 34 #[true, true, true, true, true, false, false, false, false, false, false, false, false, false, false, false, false, false, false, false, false, false, false, false, false, false, false, false, false, false, false, false, false, false, false, false, false, false, false] (fun _ => [(1, .pointer (some ⟨γ1 0, 0, none⟩)), (3, .int .i64 ((jd : Nat))), (29, .agg #[.int .i64 x15.id, .int .i64 x15.weight, .int .i64 x15.cap, .int .i64 x15.pool])]) (fun _ => [bx (γ1 0) (#[.slice (some ⟨b18, o18, none⟩) n cap, .slice q m capv]) 25]) ?_ (fun hmx2 => ?_)
      ·
       rintro _ _
       refine a1 5 rfl ?_
       refine cD (.bool false) Try.call32 (fun w hw => by have := rmay_d x15 w; rw [q16] at this; exact this) ?_
       refine od_ ?_
       refine tk (m := 23) [6, 7, 8, 9, 10, 11, 13, 14, 18, 20] [] [1, 3] [(32, .bool true), (35, undef), (36, undef), (39, undef), (43, undef), (45, undef)] ([]) #[true, true, true, true, true, true, true, true, true, true, true, true, false, true, true, false, false, false, true, false, true, false, false, false, false, false, false, false, false, false, false, false, false, false, false, false, false, false, false] al0 ?_
       exact wk (hmx3 () trivial) [1, 3, 32, 35, 36, 39, 43, 45] [[_]] [0] rfl rfl
      refine any_cutX (V := Unit) (fun _ => True) 35 #[true, true, true, true, false, false, false, false, false, false, false, false, false, false, false, false, false, false, false, false, false, false, false, false, false, false, false, false, false, false, false, false, false, false, false, false, false, false, false] (fun _ => [(1, .pointer (some ⟨γ1 0, 0, none⟩)), (3, .int .i64 ((jd : Nat))), (28, .pointer (some ⟨b18, o18 + jd * 4, none⟩))]) (fun _ => [bx (γ1 0) (#[.slice (some ⟨b18, o18, none⟩) n cap, .slice q m capv]) 25]) ?_ (fun hmx1 => ?_)
      ·
       rintro _ _
       refine a1 4 rfl ?_
       refine qo 1 [(4, .go (outs b18 (o18 + jd * 4) [.int .i64 x15.id, .int .i64 x15.weight, .int .i64 x15.cap, .int .i64 x15.pool]))] [1, 3] [(29, .agg #[.int .i64 x15.id, .int .i64 x15.weight, .int .i64 x15.cap, .int .i64 x15.pool])] (cellsP w b18 (o18 + jd * 4) [.int .i64 x15.id, .int .i64 x15.weight, .int .i64 x15.cap, .int .i64 x15.pool]) (rd_pre (hds.get hx15) _ rfl) ?_
       refine od_ ?_
       exact wk (hmx2 () trivial) [1, 3, 29] [[_]] [0] rfl rfl
      refine a1 1 rfl ?_
      refine qo0 1 [(1, .go (owns 0 0 1))] [1, 3, 27] [(26, .slice (some ⟨b18, o18, none⟩) n cap)] ?_
      refine od_ ?_
      refine tk (m := 35) [3] [(3, .at b18 o18 jd)] [1, 3] [(28, .pointer (some ⟨b18, o18 + jd * 4, none⟩))] ([(some ⟨b18, o18, none⟩ : Option Addr) = some ⟨b18, o18, none⟩, ((jd : Nat)) = ((jd : Nat) : Int), jd < n]) #[true, true, true, true, false, false, false, false, false, false, false, false, false, false, false, false, false, false, false, false, false, false, false, false, false, false, false, false, false, false, false, false, false, false, false, false, false, false, false] (al2 rfl (al2 rfl (al1 (by omega)))) ?_
      exact wk (hmx1 () trivial) [1, 3, 28] [[_]] [0] rfl rfl
     rintro _ _
     refine any_nil (by kernel_rfl) ?_
     refine ds_ (t_ (sq_ (qa0 [] [] [(2, .bool false)] (ds_ (rt ([]) (.bool false) ?_)))))
     exact fun w' hw => ⟨by rw [bad_dom hx15 (.inl q16)], hw.below⟩
    ·
     by_cases q866 : ((jd : Nat) : Int) > (0 : Int)
     ·
      obtain ⟨x867, hx867⟩ := get_some (l := ds) (m := jd - 1) (by omega)
      by_cases q868 : (x867.id : Int) ≥ (x15.id : Int)
      ·
       obtain ⟨b870, o870, rfl⟩ := hds.pos (i := jd) (by omega)
       refine at_any (by kernel_rfl) ?_
       refine tk (m := 37) [0, 2] [] [1, 3] [(25, .pointer (some ⟨γ1 0, 0, none⟩)), (27, .int .i64 ((jd : Nat)))] ([]) #[true, false, true, false, false, false, false, false, false, false, false, false, false, false, false, false, false, false, false, false, false, false, false, false, false, false, false, false, false, false, false, false, false, false, false, false, false, false, false] al0 ?_
       refine any_cutX (V := Unit) (fun _ => True) 0 #[true, true, true, true, true, true, true, true, true, true, true, true, true, true, true, true, true, true, true, true, true, true, true, true, true, true, true, true, true, true, true, true, true, true, true, true, true, true, true] (fun _ => [(1, .pointer (some ⟨γ1 0, 0, none⟩)), (3, .int .i64 ((jd : Nat))), (63, .bool true)]) (fun _ => [bx (γ1 0) (#[.slice (some ⟨b870, o870, none⟩) n cap, .slice q m capv]) 25]) ?_ (fun hmx17 => ?_)
       rotate_left
       ·
        refine any_cutX (V := Unit) (fun _ => True) 4 #[true, true, true, true, true, true, true, true, true, true, true, true, true, true, true, true, true, true, true, true, true, true, true, true, true, true, true, true, true, true, true, true, true, true, true, false, false, false, false] (fun _ => [(1, .pointer (some ⟨γ1 0, 0, none⟩)), (3, .int .i64 ((jd : Nat))), (52, .bool true), (53, undef), (59, undef)]) (fun _ => [bx (γ1 0) (#[.slice (some ⟨b870, o870, none⟩) n cap, .slice q m capv]) 25]) ?_ (fun hmx16 => ?_)
        ·
         rintro _ _
         refine a1 35 rfl ?_
         refine qo0 1 [] [1, 3, 52] [(60, undef)] ?_
         refine od_ ?_
         refine tk (m := 0) [36, 37, 38] [] [1, 3] [(63, .bool true)] ([]) #[true, true, true, true, true, true, true, true, true, true, true, true, true, true, true, true, true, true, true, true, true, true, true, true, true, true, true, true, true, true, true, true, true, true, true, true, true, true, true] al0 ?_
         exact wk (hmx17 () trivial) [1, 3, 63] [[_]] [0] rfl rfl
        refine any_cutX (V := Unit) (fun _ => True) 5 #[true, true, true, true, true, true, true, true, true, true, true, true, true, true, true, true, true, true, true, true, true, true, true, true, true, true, true, true, false, true, true, true, true, true, true, false, false, false, false] (fun _ => [(1, .pointer (some ⟨γ1 0, 0, none⟩)), (3, .int .i64 ((jd : Nat))), (52, .bool true), (59, undef)]) (fun _ => [bx (γ1 0) (#[.slice (some ⟨b870, o870, none⟩) n cap, .slice q m capv]) 25]) ?_ (fun hmx15 => ?_)
        ·
         rintro _ _
         refine a1 28 rfl ?_
         refine qo0 1 [] [1, 3, 52, 59] [(53, undef)] ?_
         refine od_ ?_
         exact wk (hmx16 () trivial) [1, 3, 52, 53, 59] [[_]] [0] rfl rfl
        refine any_cutX (V := Unit) (fun _ => True) 5 #[true, true, true, true, true, true, true, true, true, true, true, true, true, true, true, true, true, true, true, true, true, true, true, true, true, true, true, true, true, true, true, true, true, true, false, false, false, false, false] (fun _ => [(1, .pointer (some ⟨γ1 0, 0, none⟩)), (3, .int .i64 ((jd : Nat))), (52, .bool true), (53, undef), (58, undef)]) (fun _ => [bx (γ1 0) (#[.slice (some ⟨b870, o870, none⟩) n cap, .slice q m capv]) 25]) ?_ (fun hmx14 => ?_)
        ·
         rintro _ _
         refine a1 34 rfl ?_
         refine qo0 1 [] [1, 3, 52, 53] [(59, undef)] ?_
         refine od_ ?_
         exact wk (hmx16 () trivial) [1, 3, 52, 53, 59] [[_]] [0] rfl rfl
        refine any_cutX (V := Unit) (fun _ => True) 6 #[true, true, true, true, true, true, true, true, true, true, true, true, true, true, true, true, true, true, true, true, true, true, true, true, true, true, true, true, false, true, true, true, true, true, false, false, false, false, false] (fun _ => [(1, .pointer (some ⟨γ1 0, 0, none⟩)), (3, .int .i64 ((jd : Nat))), (52, .bool true), (58, undef)]) (fun _ => [bx (γ1 0) (#[.slice (some ⟨b870, o870, none⟩) n cap, .slice q m capv]) 25]) ?_ (fun hmx13 => ?_)
        ·
         rintro _ _
         refine any_fork [28, 34] (by kernel_rfl) (by simp) (each_cons _ rfl ?_ (each_cons _ rfl ?_ (each_nil)))
         ·
          refine qo0 1 [] [1, 3, 52, 58] [(53, undef)] ?_
          refine od_ ?_
          exact wk (hmx14 () trivial) [1, 3, 52, 53, 58] [[_]] [0] rfl rfl
         ·
          refine qo0 1 [] [1, 3, 52] [(59, undef)] ?_
          refine od_ ?_
          exact wk (hmx15 () trivial) [1, 3, 52, 59] [[_]] [0] rfl rfl
        refine any_cutX (V := Unit) (fun _ => True) 8 #[true, true, true, true, true, true, true, true, true, true, true, true, true, true, true, true, true, true, true, true, true, true, true, true, true, true, true, true, true, true, false, true, false, false, false, false, false, false, false] (fun _ => [(1, .pointer (some ⟨γ1 0, 0, none⟩)), (3, .int .i64 ((jd : Nat))), (52, .bool true), (53, undef), (54, undef), (56, undef)]) (fun _ => [bx (γ1 0) (#[.slice (some ⟨b870, o870, none⟩) n cap, .slice q m capv]) 25]) ?_ (fun hmx12 => ?_)
        ·
         rintro _ _
         refine a1 30 rfl ?_
         refine qo0 1 [] [1, 3, 52, 53, 56] [(55, undef)] ?_
         refine od_ ?_
         refine tk (m := 5) [32, 33] [] [1, 3, 52, 53] [(58, undef)] ([]) #[true, true, true, true, true, true, true, true, true, true, true, true, true, true, true, true, true, true, true, true, true, true, true, true, true, true, true, true, true, true, true, true, true, true, false, false, false, false, false] al0 ?_
         exact wk (hmx14 () trivial) [1, 3, 52, 53, 58] [[_]] [0] rfl rfl
        refine any_cutX (V := Unit) (fun _ => True) 9 #[true, true, true, true, true, true, true, true, true, true, true, true, true, true, true, true, true, true, true, true, true, true, true, true, true, true, true, true, false, true, false, true, false, false, false, false, false, false, false] (fun _ => [(1, .pointer (some ⟨γ1 0, 0, none⟩)), (3, .int .i64 ((jd : Nat))), (52, .bool true), (54, undef), (56, undef)]) (fun _ => [bx (γ1 0) (#[.slice (some ⟨b870, o870, none⟩) n cap, .slice q m capv]) 25]) ?_ (fun hmx11 => ?_)
        ·
         rintro _ _
         refine any_fork [28, 30] (by kernel_rfl) (by simp) (each_cons _ rfl ?_ (each_cons _ rfl ?_ (each_nil)))
         ·
          refine qo0 1 [] [1, 3, 52, 54, 56] [(53, undef)] ?_
          refine od_ ?_
          exact wk (hmx12 () trivial) [1, 3, 52, 53, 54, 56] [[_]] [0] rfl rfl
         ·
          refine qo0 1 [] [1, 3, 52, 56] [(55, undef)] ?_
          refine od_ ?_
          refine tk (m := 6) [32, 33] [] [1, 3, 52] [(58, undef)] ([]) #[true, true, true, true, true, true, true, true, true, true, true, true, true, true, true, true, true, true, true, true, true, true, true, true, true, true, true, true, false, true, true, true, true, true, false, false, false, false, false] al0 ?_
          exact wk (hmx13 () trivial) [1, 3, 52, 58] [[_]] [0] rfl rfl
        refine any_cutX (V := Unit) (fun _ => True) 16 #[true, true, true, true, true, true, true, true, true, true, true, true, true, true, true, true, true, false, true, true, true, true, true, true, false, false, false, false, false, false, false, false, false, false, false, false, false, false, false] (fun _ => [(1, .pointer (some ⟨γ1 0, 0, none⟩)), (3, .int .i64 ((jd : Nat))), (32, .bool false), (35, .bool true), (41, .pointer (some ⟨b870, o870 + (jd - 1) * 4, none⟩)), (48, .int .i64 x15.id)]) (fun _ => [bx (γ1 0) (#[.slice (some ⟨b870, o870, none⟩) n cap, .slice q m capv]) 25]) ?_ (fun hmx10 => ?_)
        ·
         rintro _ _
         refine a1 17 rfl ?_
         refine qo 1 [(17, .go (outs b870 (o870 + (jd - 1) * 4) [.int .i64 x867.id]))] [1, 3, 32, 35, 48] [(42, .int .i64 x867.id)] (cellsP w b870 (o870 + (jd - 1) * 4) [.int .i64 x867.id]) (rd_pre (hds.get hx867) _ rfl) ?_
         refine od_ ?_
         refine tk (m := 9) [24, 25, 26, 27, 29, 31] [(24, .yes)] [1, 3] [(52, .bool true), (54, undef), (56, undef)] ([(x867.id : Int) ≥ (x15.id : Int)]) #[true, true, true, true, true, true, true, true, true, true, true, true, true, true, true, true, true, true, true, true, true, true, true, true, true, true, true, true, false, true, false, true, false, false, false, false, false, false, false] (al1 q868) ?_
         exact wk (hmx11 () trivial) [1, 3, 52, 54, 56] [[_]] [0] rfl rfl
        refine any_cutX (V := Unit) (fun _ => True) 16 #[true, true, true, true, true, true, true, true, true, true, true, true, true, true, true, true, true, true, true, true, true, true, true, false, false, false, false, false, false, false, false, false, false, false, false, false, false, false, false] (fun _ => [(1, .pointer (some ⟨γ1 0, 0, none⟩)), (3, .int .i64 ((jd : Nat))), (32, .bool false), (35, .bool true), (42, .int .i64 x867.id), (47, .pointer (some ⟨b870, o870 + jd * 4, none⟩))]) (fun _ => [bx (γ1 0) (#[.slice (some ⟨b870, o870, none⟩) n cap, .slice q m capv]) 25]) ?_ (fun hmx9 => ?_)
        ·
         rintro _ _
         refine a1 23 rfl ?_
         refine qo 1 [(23, .go (outs b870 (o870 + jd * 4) [.int .i64 x15.id]))] [1, 3, 32, 35, 42] [(48, .int .i64 x15.id)] (cellsP w b870 (o870 + jd * 4) [.int .i64 x15.id]) (rd_pre (hds.get hx15) _ rfl) ?_
         refine od_ ?_
         refine tk (m := 9) [24, 25, 26, 27, 29, 31] [(24, .yes)] [1, 3] [(52, .bool true), (54, undef), (56, undef)] ([(x867.id : Int) ≥ (x15.id : Int)]) #[true, true, true, true, true, true, true, true, true, true, true, true, true, true, true, true, true, true, true, true, true, true, true, true, true, true, true, true, false, true, false, true, false, false, false, false, false, false, false] (al1 q868) ?_
         exact wk (hmx11 () trivial) [1, 3, 52, 54, 56] [[_]] [0] rfl rfl
        refine any_cutX (V := Unit) (fun _ => True) 17 #[true, true, true, true, true, true, true, true, true, true, true, true, true, true, true, true, true, false, true, true, true, true, true, false, false, false, false, false, false, false, false, false, false, false, false, false, false, false, false] (fun _ => [(1, .pointer (some ⟨γ1 0, 0, none⟩)), (3, .int .i64 ((jd : Nat))), (32, .bool false), (35, .bool true), (41, .pointer (some ⟨b870, o870 + (jd - 1) * 4, none⟩)), (47, .pointer (some ⟨b870, o870 + jd * 4, none⟩))]) (fun _ => [bx (γ1 0) (#[.slice (some ⟨b870, o870, none⟩) n cap, .slice q m capv]) 25]) ?_ (fun hmx8 => ?_)
        ·
         rintro _ _
         refine any_fork [17, 23] (by kernel_rfl) (by simp) (each_cons _ rfl ?_ (each_cons _ rfl ?_ (each_nil)))
         ·
          refine qo 1 [(17, .go (outs b870 (o870 + (jd - 1) * 4) [.int .i64 x867.id]))] [1, 3, 32, 35, 47] [(42, .int .i64 x867.id)] (cellsP w b870 (o870 + (jd - 1) * 4) [.int .i64 x867.id]) (rd_pre (hds.get hx867) _ rfl) ?_
          refine od_ ?_
          exact wk (hmx9 () trivial) [1, 3, 32, 35, 42, 47] [[_]] [0] rfl rfl
         ·
          refine qo 1 [(23, .go (outs b870 (o870 + jd * 4) [.int .i64 x15.id]))] [1, 3, 32, 35, 41] [(48, .int .i64 x15.id)] (cellsP w b870 (o870 + jd * 4) [.int .i64 x15.id]) (rd_pre (hds.get hx15) _ rfl) ?_
          refine od_ ?_
          exact wk (hmx10 () trivial) [1, 3, 32, 35, 41, 48] [[_]] [0] rfl rfl
        refine any_cutX (V := Unit) (fun _ => True) 19 #[true, true, true, true, true, true, true, true, true, true, true, true, false, true, true, false, false, false, true, true, true, true, true, true, false, false, false, false, false, false, false, false, false, false, false, false, false, false, false] (fun _ => [(1, .pointer (some ⟨γ1 0, 0, none⟩)), (3, .int .i64 ((jd : Nat))), (32, .bool false), (35, .bool true), (36, .pointer (some ⟨γ1 0, 0, none⟩)), (39, .int .i64 (((jd : Nat)) - 1)), (48, .int .i64 x15.id)]) (fun _ => [bx (γ1 0) (#[.slice (some ⟨b870, o870, none⟩) n cap, .slice q m capv]) 25]) ?_ (fun hmx7 => ?_)
        ·
         rintro _ _
         refine a1 12 rfl ?_
         refine qo0 1 [(12, .go (owns 0 0 1))] [1, 3, 32, 35, 39, 48] [(37, .slice (some ⟨b870, o870, none⟩) n cap)] ?_
         refine od_ ?_
         refine tk (m := 16) [15, 16] [(15, .at b870 o870 (jd - 1))] [1, 3, 32, 35, 48] [(41, .pointer (some ⟨b870, o870 + (jd - 1) * 4, none⟩))] ([(some ⟨b870, o870, none⟩ : Option Addr) = some ⟨b870, o870, none⟩, (((jd : Nat)) - 1) = ((jd - 1 : Nat) : Int), jd - 1 < n]) #[true, true, true, true, true, true, true, true, true, true, true, true, true, true, true, true, true, false, true, true, true, true, true, true, false, false, false, false, false, false, false, false, false, false, false, false, false, false, false] (al2 rfl (al2 (by omega) (al1 (by omega)))) ?_
         exact wk (hmx10 () trivial) [1, 3, 32, 35, 41, 48] [[_]] [0] rfl rfl
        refine any_cutX (V := Unit) (fun _ => True) 19 #[true, true, true, true, true, true, true, true, true, true, true, true, true, true, true, true, true, true, true, false, true, false, false, false, false, false, false, false, false, false, false, false, false, false, false, false, false, false, false] (fun _ => [(1, .pointer (some ⟨γ1 0, 0, none⟩)), (3, .int .i64 ((jd : Nat))), (32, .bool false), (35, .bool true), (42, .int .i64 x867.id), (43, .pointer (some ⟨γ1 0, 0, none⟩)), (45, .int .i64 ((jd : Nat)))]) (fun _ => [bx (γ1 0) (#[.slice (some ⟨b870, o870, none⟩) n cap, .slice q m capv]) 25]) ?_ (fun hmx6 => ?_)
        ·
         rintro _ _
         refine a1 19 rfl ?_
         refine qo0 1 [(19, .go (owns 0 0 1))] [1, 3, 32, 35, 42, 45] [(44, .slice (some ⟨b870, o870, none⟩) n cap)] ?_
         refine od_ ?_
         refine tk (m := 16) [21, 22] [(21, .at b870 o870 jd)] [1, 3, 32, 35, 42] [(47, .pointer (some ⟨b870, o870 + jd * 4, none⟩))] ([(some ⟨b870, o870, none⟩ : Option Addr) = some ⟨b870, o870, none⟩, ((jd : Nat)) = ((jd : Nat) : Int), jd < n]) #[true, true, true, true, true, true, true, true, true, true, true, true, true, true, true, true, true, true, true, true, true, true, true, false, false, false, false, false, false, false, false, false, false, false, false, false, false, false, false] (al2 rfl (al2 rfl (al1 (by omega)))) ?_
         exact wk (hmx9 () trivial) [1, 3, 32, 35, 42, 47] [[_]] [0] rfl rfl
        refine any_cutX (V := Unit) (fun _ => True) 20 #[true, true, true, true, true, true, true, true, true, true, true, true, false, true, true, false, false, false, true, true, true, true, true, false, false, false, false, false, false, false, false, false, false, false, false, false, false, false, false] (fun _ => [(1, .pointer (some ⟨γ1 0, 0, none⟩)), (3, .int .i64 ((jd : Nat))), (32, .bool false), (35, .bool true), (36, .pointer (some ⟨γ1 0, 0, none⟩)), (39, .int .i64 (((jd : Nat)) - 1)), (47, .pointer (some ⟨b870, o870 + jd * 4, none⟩))]) (fun _ => [bx (γ1 0) (#[.slice (some ⟨b870, o870, none⟩) n cap, .slice q m capv]) 25]) ?_ (fun hmx5 => ?_)
        ·
         rintro _ _
         refine any_fork [12, 23] (by kernel_rfl) (by simp) (each_cons _ rfl ?_ (each_cons _ rfl ?_ (each_nil)))
         ·
          refine qo0 1 [(12, .go (owns 0 0 1))] [1, 3, 32, 35, 39, 47] [(37, .slice (some ⟨b870, o870, none⟩) n cap)] ?_
          refine od_ ?_
          refine tk (m := 17) [15, 16] [(15, .at b870 o870 (jd - 1))] [1, 3, 32, 35, 47] [(41, .pointer (some ⟨b870, o870 + (jd - 1) * 4, none⟩))] ([(some ⟨b870, o870, none⟩ : Option Addr) = some ⟨b870, o870, none⟩, (((jd : Nat)) - 1) = ((jd - 1 : Nat) : Int), jd - 1 < n]) #[true, true, true, true, true, true, true, true, true, true, true, true, true, true, true, true, true, false, true, true, true, true, true, false, false, false, false, false, false, false, false, false, false, false, false, false, false, false, false] (al2 rfl (al2 (by omega) (al1 (by omega)))) ?_
          exact wk (hmx8 () trivial) [1, 3, 32, 35, 41, 47] [[_]] [0] rfl rfl
         ·
          refine qo 1 [(23, .go (outs b870 (o870 + jd * 4) [.int .i64 x15.id]))] [1, 3, 32, 35, 36, 39] [(48, .int .i64 x15.id)] (cellsP w b870 (o870 + jd * 4) [.int .i64 x15.id]) (rd_pre (hds.get hx15) _ rfl) ?_
          refine od_ ?_
          exact wk (hmx7 () trivial) [1, 3, 32, 35, 36, 39, 48] [[_]] [0] rfl rfl
        refine any_cutX (V := Unit) (fun _ => True) 20 #[true, true, true, true, true, true, true, true, true, true, true, true, true, true, true, true, true, false, true, false, true, false, false, false, false, false, false, false, false, false, false, false, false, false, false, false, false, false, false] (fun _ => [(1, .pointer (some ⟨γ1 0, 0, none⟩)), (3, .int .i64 ((jd : Nat))), (32, .bool false), (35, .bool true), (41, .pointer (some ⟨b870, o870 + (jd - 1) * 4, none⟩)), (43, .pointer (some ⟨γ1 0, 0, none⟩)), (45, .int .i64 ((jd : Nat)))]) (fun _ => [bx (γ1 0) (#[.slice (some ⟨b870, o870, none⟩) n cap, .slice q m capv]) 25]) ?_ (fun hmx4 => ?_)
        ·
         rintro _ _
         refine any_fork [17, 19] (by kernel_rfl) (by simp) (each_cons _ rfl ?_ (each_cons _ rfl ?_ (each_nil)))
         ·
          refine qo 1 [(17, .go (outs b870 (o870 + (jd - 1) * 4) [.int .i64 x867.id]))] [1, 3, 32, 35, 43, 45] [(42, .int .i64 x867.id)] (cellsP w b870 (o870 + (jd - 1) * 4) [.int .i64 x867.id]) (rd_pre (hds.get hx867) _ rfl) ?_
          refine od_ ?_
          exact wk (hmx6 () trivial) [1, 3, 32, 35, 42, 43, 45] [[_]] [0] rfl rfl
         ·
          refine qo0 1 [(19, .go (owns 0 0 1))] [1, 3, 32, 35, 41, 45] [(44, .slice (some ⟨b870, o870, none⟩) n cap)] ?_
          refine od_ ?_
          refine tk (m := 17) [21, 22] [(21, .at b870 o870 jd)] [1, 3, 32, 35, 41] [(47, .pointer (some ⟨b870, o870 + jd * 4, none⟩))] ([(some ⟨b870, o870, none⟩ : Option Addr) = some ⟨b870, o870, none⟩, ((jd : Nat)) = ((jd : Nat) : Int), jd < n]) #[true, true, true, true, true, true, true, true, true, true, true, true, true, true, true, true, true, false, true, true, true, true, true, false, false, false, false, false, false, false, false, false, false, false, false, false, false, false, false] (al2 rfl (al2 rfl (al1 (by omega)))) ?_
          exact wk (hmx8 () trivial) [1, 3, 32, 35, 41, 47] [[_]] [0] rfl rfl
        refine any_cutX (V := Unit) (fun _ => True) 23 #[true, true, true, true, true, true, true, true, true, true, true, true, false, true, true, false, false, false, true, false, true, false, false, false, false, false, false, false, false, false, false, false, false, false, false, false, false, false, false] (fun _ => [(1, .pointer (some ⟨γ1 0, 0, none⟩)), (3, .int .i64 ((jd : Nat))), (32, .bool false), (35, .bool true), (36, .pointer (some ⟨γ1 0, 0, none⟩)), (39, .int .i64 (((jd : Nat)) - 1)), (43, .pointer (some ⟨γ1 0, 0, none⟩)), (45, .int .i64 ((jd : Nat)))]) (fun _ => [bx (γ1 0) (#[.slice (some ⟨b870, o870, none⟩) n cap, .slice q m capv]) 25]) ?_ (fun hmx3 => ?_)
        ·
         rintro _ _
         refine any_fork [12, 19] (by kernel_rfl) (by simp) (each_cons _ rfl ?_ (each_cons _ rfl ?_ (each_nil)))
         ·
          refine qo0 1 [(12, .go (owns 0 0 1))] [1, 3, 32, 35, 39, 43, 45] [(37, .slice (some ⟨b870, o870, none⟩) n cap)] ?_
          refine od_ ?_
          refine tk (m := 20) [15, 16] [(15, .at b870 o870 (jd - 1))] [1, 3, 32, 35, 43, 45] [(41, .pointer (some ⟨b870, o870 + (jd - 1) * 4, none⟩))] ([(some ⟨b870, o870, none⟩ : Option Addr) = some ⟨b870, o870, none⟩, (((jd : Nat)) - 1) = ((jd - 1 : Nat) : Int), jd - 1 < n]) #[true, true, true, true, true, true, true, true, true, true, true, true, true, true, true, true, true, false, true, false, true, false, false, false, false, false, false, false, false, false, false, false, false, false, false, false, false, false, false] (al2 rfl (al2 (by omega) (al1 (by omega)))) ?_
          exact wk (hmx4 () trivial) [1, 3, 32, 35, 41, 43, 45] [[_]] [0] rfl rfl
         ·
          refine qo0 1 [(19, .go (owns 0 0 1))] [1, 3, 32, 35, 36, 39, 45] [(44, .slice (some ⟨b870, o870, none⟩) n cap)] ?_
          refine od_ ?_
          refine tk (m := 20) [21, 22] [(21, .at b870 o870 jd)] [1, 3, 32, 35, 36, 39] [(47, .pointer (some ⟨b870, o870 + jd * 4, none⟩))] ([(some ⟨b870, o870, none⟩ : Option Addr) = some ⟨b870, o870, none⟩, ((jd : Nat)) = ((jd : Nat) : Int), jd < n]) #[true, true, true, true, true, true, true, true, true, true, true, true, false, true, true, false, false, false, true, true, true, true, true, false, false, false, false, false, false, false, false, false, false, false, false, false, false, false, false] (al2 rfl (al2 rfl (al1 (by omega)))) ?_
          exact wk (hmx5 () trivial) [1, 3, 32, 35, 36, 39, 47] [[_]] [0] rfl rfl
        refine any_cutX (V := Unit) (fun _ => True) 34 #[true, true, true, true, true, false, false, false, false, false, false, false, false, false, false, false, false, false, false, false, false, false, false, false, false, false, false, false, false, false, false, false, false, false, false, false, false, false, false] (fun _ => [(1, .pointer (some ⟨γ1 0, 0, none⟩)), (3, .int .i64 ((jd : Nat))), (29, .agg #[.int .i64 x15.id, .int .i64 x15.weight, .int .i64 x15.cap, .int .i64 x15.pool])]) (fun _ => [bx (γ1 0) (#[.slice (some ⟨b870, o870, none⟩) n cap, .slice q m capv]) 25]) ?_ (fun hmx2 => ?_)
        ·
         rintro _ _
         refine a1 5 rfl ?_
         refine cD (.bool true) Try.call32 (fun w hw => by have := rmay_d x15 w; rw [q16] at this; exact this) ?_
         refine od_ ?_
         refine tk (m := 23) [6, 7, 8, 9, 10, 11, 13, 14, 18, 20] [(9, .yes), (14, .fit)] [1, 3] [(32, .bool false), (35, .bool true), (36, .pointer (some ⟨γ1 0, 0, none⟩)), (39, .int .i64 (((jd : Nat)) - 1)), (43, .pointer (some ⟨γ1 0, 0, none⟩)), (45, .int .i64 ((jd : Nat)))] ([((jd : Nat) : Int) > (0 : Int)] ++ ([Fit .i64 (((jd : Nat)) - 1)])) #[true, true, true, true, true, true, true, true, true, true, true, true, false, true, true, false, false, false, true, false, true, false, false, false, false, false, false, false, false, false, false, false, false, false, false, false, false, false, false] (alA (al1 q866) (al1 (fit64 (by omega) (by omega)))) ?_
         exact wk (hmx3 () trivial) [1, 3, 32, 35, 36, 39, 43, 45] [[_]] [0] rfl rfl
        refine any_cutX (V := Unit) (fun _ => True) 35 #[true, true, true, true, false, false, false, false, false, false, false, false, false, false, false, false, false, false, false, false, false, false, false, false, false, false, false, false, false, false, false, false, false, false, false, false, false, false, false] (fun _ => [(1, .pointer (some ⟨γ1 0, 0, none⟩)), (3, .int .i64 ((jd : Nat))), (28, .pointer (some ⟨b870, o870 + jd * 4, none⟩))]) (fun _ => [bx (γ1 0) (#[.slice (some ⟨b870, o870, none⟩) n cap, .slice q m capv]) 25]) ?_ (fun hmx1 => ?_)
        ·
         rintro _ _
         refine a1 4 rfl ?_
         refine qo 1 [(4, .go (outs b870 (o870 + jd * 4) [.int .i64 x15.id, .int .i64 x15.weight, .int .i64 x15.cap, .int .i64 x15.pool]))] [1, 3] [(29, .agg #[.int .i64 x15.id, .int .i64 x15.weight, .int .i64 x15.cap, .int .i64 x15.pool])] (cellsP w b870 (o870 + jd * 4) [.int .i64 x15.id, .int .i64 x15.weight, .int .i64 x15.cap, .int .i64 x15.pool]) (rd_pre (hds.get hx15) _ rfl) ?_
         refine od_ ?_
         exact wk (hmx2 () trivial) [1, 3, 29] [[_]] [0] rfl rfl
        refine a1 1 rfl ?_
        refine qo0 1 [(1, .go (owns 0 0 1))] [1, 3, 27] [(26, .slice (some ⟨b870, o870, none⟩) n cap)] ?_
        refine od_ ?_
        refine tk (m := 35) [3] [(3, .at b870 o870 jd)] [1, 3] [(28, .pointer (some ⟨b870, o870 + jd * 4, none⟩))] ([(some ⟨b870, o870, none⟩ : Option Addr) = some ⟨b870, o870, none⟩, ((jd : Nat)) = ((jd : Nat) : Int), jd < n]) #[true, true, true, true, false, false, false, false, false, false, false, false, false, false, false, false, false, false, false, false, false, false, false, false, false, false, false, false, false, false, false, false, false, false, false, false, false, false, false] (al2 rfl (al2 rfl (al1 (by omega)))) ?_
        exact wk (hmx1 () trivial) [1, 3, 28] [[_]] [0] rfl rfl
       rintro _ _
       refine any_nil (by kernel_rfl) ?_
       refine ds_ (t_ (sq_ (qa0 [] [] [(2, .bool false)] (ds_ (rt ([]) (.bool false) ?_)))))
       exact fun w' hw => ⟨by rw [bad_drise hx15 hx867 (by omega) (by omega)], hw.below⟩
      ·
       by_cases q1718 : ((cntV vs x15.id : Nat) : Int) > (8 : Int)
       ·
        obtain ⟨b1720, o1720, rfl⟩ := hds.pos (i := jd) (by omega)
        refine at_any (by kernel_rfl) ?_
        refine tk (m := 37) [0, 2] [] [1, 3] [(25, .pointer (some ⟨γ1 0, 0, none⟩)), (27, .int .i64 ((jd : Nat)))] ([]) #[true, false, true, false, false, false, false, false, false, false, false, false, false, false, false, false, false, false, false, false, false, false, false, false, false, false, false, false, false, false, false, false, false, false, false, false, false, false, false] al0 ?_
        refine any_cutX (V := (List Ob) × (Nat) × (Option Addr)) (fun ⟨Y2424, cq2424, q2424⟩ => SlO 3 Y2424 q2424 (cntV vs x15.id) cq2424 (ofV vs x15.id)) 0 #[true, true, true, true, true, true, true, true, true, true, true, true, true, true, true, true, true, true, true, true, true, true, true, true, true, true, true, true, true, true, true, true, true, true, true, true, true, true, true] (fun ⟨Y2424, cq2424, q2424⟩ => [(1, .pointer (some ⟨γ1 0, 0, none⟩)), (3, .int .i64 ((jd : Nat))), (63, .bool true)]) (fun ⟨Y2424, cq2424, q2424⟩ => bx (γ1 0) (#[.slice (some ⟨b1720, o1720, none⟩) n cap, .slice q m capv]) 25 :: (Y2424 ++ [])) ?_ (fun hmx17 => ?_)
        rotate_left
        ·
         refine any_cutX (V := Unit) (fun _ => True) 4 #[true, true, true, true, true, true, true, true, true, true, true, true, true, true, true, true, true, true, true, true, true, true, true, true, true, true, true, true, true, true, true, true, true, true, true, false, false, false, false] (fun _ => [(1, .pointer (some ⟨γ1 0, 0, none⟩)), (3, .int .i64 ((jd : Nat))), (52, .bool false), (53, .agg #[.slice (some ⟨b1720, o1720, none⟩) n cap, .slice q m capv]), (59, .int .i64 x15.id)]) (fun _ => [bx (γ1 0) (#[.slice (some ⟨b1720, o1720, none⟩) n cap, .slice q m capv]) 25]) ?_ (fun hmx16 => ?_)
         ·
          rintro _ _
          refine a1 35 rfl ?_
          refine cP (fun v L' => ∃ q_ c_ Y_, v = .slice q_ (cntV vs x15.id) c_ ∧ L' = List.take 1 ([bx (γ1 0) (#[.slice (some ⟨b1720, o1720, none⟩) n cap, .slice q m capv]) 25]) ++ (Y_ ++ List.drop 1 ([bx (γ1 0) (#[.slice (some ⟨b1720, o1720, none⟩) n cap, .slice q m capv]) 25])) ∧ SlO 3 Y_ q_ (cntV vs x15.id) c_ (ofV vs x15.id)) Try.call20 (fun w hw => (rof_d (some ⟨b1720, o1720, none⟩) n cap ds q m capv vs x15.id w (hds.kept hw.below) hn (by omega) (hvs.kept hw.below) hm (by omega)).mono fun e w' ⟨q_, c_, Y_, he, hO, hb, hY⟩ => ⟨_, _, he, ⟨q_, c_, Y_, rfl, rfl, hO⟩, hw.join hb hY 1⟩) ?_
          rintro v2424 L2424 ⟨q2424, cq2424, Y2424, rfl, rfl, hO2424⟩
          refine od_ ?_
          refine tk (m := 0) [36, 37, 38] [(37, .yes)] [1, 3] [(63, .bool true)] ([((cntV vs x15.id : Nat) : Int) > (8 : Int)]) #[true, true, true, true, true, true, true, true, true, true, true, true, true, true, true, true, true, true, true, true, true, true, true, true, true, true, true, true, true, true, true, true, true, true, true, true, true, true, true] (al1 q1718) ?_
          exact wk (hmx17 (Y2424, cq2424, q2424) hO2424) [1, 3, 63] [[_], _] [0, 1] rfl rfl
         refine any_cutX (V := Unit) (fun _ => True) 5 #[true, true, true, true, true, true, true, true, true, true, true, true, true, true, true, true, true, true, true, true, true, true, true, true, true, true, true, true, false, true, true, true, true, true, true, false, false, false, false] (fun _ => [(1, .pointer (some ⟨γ1 0, 0, none⟩)), (3, .int .i64 ((jd : Nat))), (52, .bool false), (59, .int .i64 x15.id)]) (fun _ => [bx (γ1 0) (#[.slice (some ⟨b1720, o1720, none⟩) n cap, .slice q m capv]) 25]) ?_ (fun hmx15 => ?_)
         ·
          rintro _ _
          refine a1 28 rfl ?_
          refine qo0 1 [(28, .go (owns 0 0 2))] [1, 3, 52, 59] [(53, .agg #[.slice (some ⟨b1720, o1720, none⟩) n cap, .slice q m capv])] ?_
          refine od_ ?_
          exact wk (hmx16 () trivial) [1, 3, 52, 53, 59] [[_]] [0] rfl rfl
         refine any_cutX (V := Unit) (fun _ => True) 5 #[true, true, true, true, true, true, true, true, true, true, true, true, true, true, true, true, true, true, true, true, true, true, true, true, true, true, true, true, true, true, true, true, true, true, false, false, false, false, false] (fun _ => [(1, .pointer (some ⟨γ1 0, 0, none⟩)), (3, .int .i64 ((jd : Nat))), (52, .bool false), (53, .agg #[.slice (some ⟨b1720, o1720, none⟩) n cap, .slice q m capv]), (58, .pointer (some ⟨b1720, o1720 + jd * 4, none⟩))]) (fun _ => [bx (γ1 0) (#[.slice (some ⟨b1720, o1720, none⟩) n cap, .slice q m capv]) 25]) ?_ (fun hmx14 => ?_)
         ·
          rintro _ _
          refine a1 34 rfl ?_
          refine qo 1 [(34, .go (outs b1720 (o1720 + jd * 4) [.int .i64 x15.id]))] [1, 3, 52, 53] [(59, .int .i64 x15.id)] (cellsP w b1720 (o1720 + jd * 4) [.int .i64 x15.id]) (rd_pre (hds.get hx15) _ rfl) ?_
          refine od_ ?_
          exact wk (hmx16 () trivial) [1, 3, 52, 53, 59] [[_]] [0] rfl rfl
         refine any_cutX (V := Unit) (fun _ => True) 6 #[true, true, true, true, true, true, true, true, true, true, true, true, true, true, true, true, true, true, true, true, true, true, true, true, true, true, true, true, false, true, true, true, true, true, false, false, false, false, false] (fun _ => [(1, .pointer (some ⟨γ1 0, 0, none⟩)), (3, .int .i64 ((jd : Nat))), (52, .bool false), (58, .pointer (some ⟨b1720, o1720 + jd * 4, none⟩))]) (fun _ => [bx (γ1 0) (#[.slice (some ⟨b1720, o1720, none⟩) n cap, .slice q m capv]) 25]) ?_ (fun hmx13 => ?_)
         ·
          rintro _ _
          refine any_fork [28, 34] (by kernel_rfl) (by simp) (each_cons _ rfl ?_ (each_cons _ rfl ?_ (each_nil)))
          ·
           refine qo0 1 [(28, .go (owns 0 0 2))] [1, 3, 52, 58] [(53, .agg #[.slice (some ⟨b1720, o1720, none⟩) n cap, .slice q m capv])] ?_
           refine od_ ?_
           exact wk (hmx14 () trivial) [1, 3, 52, 53, 58] [[_]] [0] rfl rfl
          ·
           refine qo 1 [(34, .go (outs b1720 (o1720 + jd * 4) [.int .i64 x15.id]))] [1, 3, 52] [(59, .int .i64 x15.id)] (cellsP w b1720 (o1720 + jd * 4) [.int .i64 x15.id]) (rd_pre (hds.get hx15) _ rfl) ?_
           refine od_ ?_
           exact wk (hmx15 () trivial) [1, 3, 52, 59] [[_]] [0] rfl rfl
         refine any_cutX (V := Unit) (fun _ => True) 8 #[true, true, true, true, true, true, true, true, true, true, true, true, true, true, true, true, true, true, true, true, true, true, true, true, true, true, true, true, true, true, false, true, false, false, false, false, false, false, false] (fun _ => [(1, .pointer (some ⟨γ1 0, 0, none⟩)), (3, .int .i64 ((jd : Nat))), (52, .bool false), (53, .agg #[.slice (some ⟨b1720, o1720, none⟩) n cap, .slice q m capv]), (54, .pointer (some ⟨γ1 0, 0, none⟩)), (56, .int .i64 ((jd : Nat)))]) (fun _ => [bx (γ1 0) (#[.slice (some ⟨b1720, o1720, none⟩) n cap, .slice q m capv]) 25]) ?_ (fun hmx12 => ?_)
         ·
          rintro _ _
          refine a1 30 rfl ?_
          refine qo0 1 [(30, .go (owns 0 0 1))] [1, 3, 52, 53, 56] [(55, .slice (some ⟨b1720, o1720, none⟩) n cap)] ?_
          refine od_ ?_
          refine tk (m := 5) [32, 33] [(32, .at b1720 o1720 jd)] [1, 3, 52, 53] [(58, .pointer (some ⟨b1720, o1720 + jd * 4, none⟩))] ([(some ⟨b1720, o1720, none⟩ : Option Addr) = some ⟨b1720, o1720, none⟩, ((jd : Nat)) = ((jd : Nat) : Int), jd < n]) #[true, true, true, true, true, true, true, true, true, true, true, true, true, true, true, true, true, true, true, true, true, true, true, true, true, true, true, true, true, true, true, true, true, true, false, false, false, false, false] (al2 rfl (al2 rfl (al1 (by omega)))) ?_
          exact wk (hmx14 () trivial) [1, 3, 52, 53, 58] [[_]] [0] rfl rfl
         refine any_cutX (V := Unit) (fun _ => True) 9 #[true, true, true, true, true, true, true, true, true, true, true, true, true, true, true, true, true, true, true, true, true, true, true, true, true, true, true, true, false, true, false, true, false, false, false, false, false, false, false] (fun _ => [(1, .pointer (some ⟨γ1 0, 0, none⟩)), (3, .int .i64 ((jd : Nat))), (52, .bool false), (54, .pointer (some ⟨γ1 0, 0, none⟩)), (56, .int .i64 ((jd : Nat)))]) (fun _ => [bx (γ1 0) (#[.slice (some ⟨b1720, o1720, none⟩) n cap, .slice q m capv]) 25]) ?_ (fun hmx11 => ?_)
         ·
          rintro _ _
          refine any_fork [28, 30] (by kernel_rfl) (by simp) (each_cons _ rfl ?_ (each_cons _ rfl ?_ (each_nil)))
          ·
           refine qo0 1 [(28, .go (owns 0 0 2))] [1, 3, 52, 54, 56] [(53, .agg #[.slice (some ⟨b1720, o1720, none⟩) n cap, .slice q m capv])] ?_
           refine od_ ?_
           exact wk (hmx12 () trivial) [1, 3, 52, 53, 54, 56] [[_]] [0] rfl rfl
          ·
           refine qo0 1 [(30, .go (owns 0 0 1))] [1, 3, 52, 56] [(55, .slice (some ⟨b1720, o1720, none⟩) n cap)] ?_
           refine od_ ?_
           refine tk (m := 6) [32, 33] [(32, .at b1720 o1720 jd)] [1, 3, 52] [(58, .pointer (some ⟨b1720, o1720 + jd * 4, none⟩))] ([(some ⟨b1720, o1720, none⟩ : Option Addr) = some ⟨b1720, o1720, none⟩, ((jd : Nat)) = ((jd : Nat) : Int), jd < n]) #[true, true, true, true, true, true, true, true, true, true, true, true, true, true, true, true, true, true, true, true, true, true, true, true, true, true, true, true, false, true, true, true, true, true, false, false, false, false, false] (al2 rfl (al2 rfl (al1 (by omega)))) ?_
           exact wk (hmx13 () trivial) [1, 3, 52, 58] [[_]] [0] rfl rfl
         refine any_cutX (V := Unit) (fun _ => True) 16 #[true, true, true, true, true, true, true, true, true, true, true, true, true, true, true, true, true, false, true, true, true, true, true, true, false, false, false, false, false, false, false, false, false, false, false, false, false, false, false] (fun _ => [(1, .pointer (some ⟨γ1 0, 0, none⟩)), (3, .int .i64 ((jd : Nat))), (32, .bool false), (35, .bool true), (41, .pointer (some ⟨b1720, o1720 + (jd - 1) * 4, none⟩)), (48, .int .i64 x15.id)]) (fun _ => [bx (γ1 0) (#[.slice (some ⟨b1720, o1720, none⟩) n cap, .slice q m capv]) 25]) ?_ (fun hmx10 => ?_)
         ·
          rintro _ _
          refine a1 17 rfl ?_
          refine qo 1 [(17, .go (outs b1720 (o1720 + (jd - 1) * 4) [.int .i64 x867.id]))] [1, 3, 32, 35, 48] [(42, .int .i64 x867.id)] (cellsP w b1720 (o1720 + (jd - 1) * 4) [.int .i64 x867.id]) (rd_pre (hds.get hx867) _ rfl) ?_
          refine od_ ?_
          refine tk (m := 9) [24, 25, 26, 27, 29, 31] [(24, .no)] [1, 3] [(52, .bool false), (54, .pointer (some ⟨γ1 0, 0, none⟩)), (56, .int .i64 ((jd : Nat)))] ([¬ ((x867.id : Int) ≥ (x15.id : Int))]) #[true, true, true, true, true, true, true, true, true, true, true, true, true, true, true, true, true, true, true, true, true, true, true, true, true, true, true, true, false, true, false, true, false, false, false, false, false, false, false] (al1 q868) ?_
          exact wk (hmx11 () trivial) [1, 3, 52, 54, 56] [[_]] [0] rfl rfl
         refine any_cutX (V := Unit) (fun _ => True) 16 #[true, true, true, true, true, true, true, true, true, true, true, true, true, true, true, true, true, true, true, true, true, true, true, false, false, false, false, false, false, false, false, false, false, false, false, false, false, false, false] (fun _ => [(1, .pointer (some ⟨γ1 0, 0, none⟩)), (3, .int .i64 ((jd : Nat))), (32, .bool false), (35, .bool true), (42, .int .i64 x867.id), (47, .pointer (some ⟨b1720, o1720 + jd * 4, none⟩))]) (fun _ => [bx (γ1 0) (#[.slice (some ⟨b1720, o1720, none⟩) n cap, .slice q m capv]) 25]) ?_ (fun hmx9 => ?_)
         ·
          rintro _ _
          refine a1 23 rfl ?_
          refine qo 1 [(23, .go (outs b1720 (o1720 + jd * 4) [.int .i64 x15.id]))] [1, 3, 32, 35, 42] [(48, .int .i64 x15.id)] (cellsP w b1720 (o1720 + jd * 4) [.int .i64 x15.id]) (rd_pre (hds.get hx15) _ rfl) ?_
          refine od_ ?_
          refine tk (m := 9) [24, 25, 26, 27, 29, 31] [(24, .no)] [1, 3] [(52, .bool false), (54, .pointer (some ⟨γ1 0, 0, none⟩)), (56, .int .i64 ((jd : Nat)))] ([¬ ((x867.id : Int) ≥ (x15.id : Int))]) #[true, true, true, true, true, true, true, true, true, true, true, true, true, true, true, true, true, true, true, true, true, true, true, true, true, true, true, true, false, true, false, true, false, false, false, false, false, false, false] (al1 q868) ?_
          exact wk (hmx11 () trivial) [1, 3, 52, 54, 56] [[_]] [0] rfl rfl
         refine any_cutX (V := Unit) (fun _ => True) 17 #[true, true, true, true, true, true, true, true, true, true, true, true, true, true, true, true, true, false, true, true, true, true, true, false, false, false, false, false, false, false, false, false, false, false, false, false, false, false, false] (fun _ => [(1, .pointer (some ⟨γ1 0, 0, none⟩)), (3, .int .i64 ((jd : Nat))), (32, .bool false), (35, .bool true), (41, .pointer (some ⟨b1720, o1720 + (jd - 1) * 4, none⟩)), (47, .pointer (some ⟨b1720, o1720 + jd * 4, none⟩))]) (fun _ => [bx (γ1 0) (#[.slice (some ⟨b1720, o1720, none⟩) n cap, .slice q m capv]) 25]) ?_ (fun hmx8 => ?_)
         ·
          rintro _ _
          refine any_fork [17, 23] (by kernel_rfl) (by simp) (each_cons _ rfl ?_ (each_cons _ rfl ?_ (each_nil)))
          ·
           refine qo 1 [(17, .go (outs b1720 (o1720 + (jd - 1) * 4) [.int .i64 x867.id]))] [1, 3, 32, 35, 47] [(42, .int .i64 x867.id)] (cellsP w b1720 (o1720 + (jd - 1) * 4) [.int .i64 x867.id]) (rd_pre (hds.get hx867) _ rfl) ?_
           refine od_ ?_
           exact wk (hmx9 () trivial) [1, 3, 32, 35, 42, 47] [[_]] [0] rfl rfl
          ·
           refine qo 1 [(23, .go (outs b1720 (o1720 + jd * 4) [.int .i64 x15.id]))] [1, 3, 32, 35, 41] [(48, .int .i64 x15.id)] (cellsP w b1720 (o1720 + jd * 4) [.int .i64 x15.id]) (rd_pre (hds.get hx15) _ rfl) ?_
           refine od_ ?_
           exact wk (hmx10 () trivial) [1, 3, 32, 35, 41, 48] [[_]] [0] rfl rfl
         refine any_cutX (V := Unit) (fun _ => True) 19 #[true, true, true, true, true, true, true, true, true, true, true, true, false, true, true, false, false, false, true, true, true, true, true, true, false, false, false, false, false, false, false, false, false, false, false, false, false, false, false] (fun _ => [(1, .pointer (some ⟨γ1 0, 0, none⟩)), (3, .int .i64 ((jd : Nat))), (32, .bool false), (35, .bool true), (36, .pointer (some ⟨γ1 0, 0, none⟩)), (39, .int .i64 (((jd : Nat)) - 1)), (48, .int .i64 x15.id)]) (fun _ => [bx (γ1 0) (#[.slice (some ⟨b1720, o1720, none⟩) n cap, .slice q m capv]) 25]) ?_ (fun hmx7 => ?_)
         ·
          rintro _ _
          refine a1 12 rfl ?_
          refine qo0 1 [(12, .go (owns 0 0 1))] [1, 3, 32, 35, 39, 48] [(37, .slice (some ⟨b1720, o1720, none⟩) n cap)] ?_
          refine od_ ?_
          refine tk (m := 16) [15, 16] [(15, .at b1720 o1720 (jd - 1))] [1, 3, 32, 35, 48] [(41, .pointer (some ⟨b1720, o1720 + (jd - 1) * 4, none⟩))] ([(some ⟨b1720, o1720, none⟩ : Option Addr) = some ⟨b1720, o1720, none⟩, (((jd : Nat)) - 1) = ((jd - 1 : Nat) : Int), jd - 1 < n]) #[true, true, true, true, true, true, true, true, true, true, true, true, true, true, true, true, true, false, true, true, true, true, true, true, false, false, false, false, false, false, false, false, false, false, false, false, false, false, false] (al2 rfl (al2 (by omega) (al1 (by omega)))) ?_
          exact wk (hmx10 () trivial) [1, 3, 32, 35, 41, 48] [[_]] [0] rfl rfl
         refine any_cutX (V := Unit) (fun _ => True) 19 #[true, true, true, true, true, true, true, true, true, true, true, true, true, true, true, true, true, true, true, false, true, false, false, false, false, false, false, false, false, false, false, false, false, false, false, false, false, false, false] (fun _ => [(1, .pointer (some ⟨γ1 0, 0, none⟩)), (3, .int .i64 ((jd : Nat))), (32, .bool false), (35, .bool true), (42, .int .i64 x867.id), (43, .pointer (some ⟨γ1 0, 0, none⟩)), (45, .int .i64 ((jd : Nat)))]) (fun _ => [bx (γ1 0) (#[.slice (some ⟨b1720, o1720, none⟩) n cap, .slice q m capv]) 25]) ?_ (fun hmx6 => ?_)
         ·
          rintro _ _
          refine a1 19 rfl ?_
          refine qo0 1 [(19, .go (owns 0 0 1))] [1, 3, 32, 35, 42, 45] [(44, .slice (some ⟨b1720, o1720, none⟩) n cap)] ?_
          refine od_ ?_
          refine tk (m := 16) [21, 22] [(21, .at b1720 o1720 jd)] [1, 3, 32, 35, 42] [(47, .pointer (some ⟨b1720, o1720 + jd * 4, none⟩))] ([(some ⟨b1720, o1720, none⟩ : Option Addr) = some ⟨b1720, o1720, none⟩, ((jd : Nat)) = ((jd : Nat) : Int), jd < n]) #[true, true, true, true, true, true, true, true, true, true, true, true, true, true, true, true, true, true, true, true, true, true, true, false, false, false, false, false, false, false, false, false, false, false, false, false, false, false, false] (al2 rfl (al2 rfl (al1 (by omega)))) ?_
          exact wk (hmx9 () trivial) [1, 3, 32, 35, 42, 47] [[_]] [0] rfl rfl
         refine any_cutX (V := Unit) (fun _ => True) 20 #[true, true, true, true, true, true, true, true, true, true, true, true, false, true, true, false, false, false, true, true, true, true, true, false, false, false, false, false, false, false, false, false, false, false, false, false, false, false, false] (fun _ => [(1, .pointer (some ⟨γ1 0, 0, none⟩)), (3, .int .i64 ((jd : Nat))), (32, .bool false), (35, .bool true), (36, .pointer (some ⟨γ1 0, 0, none⟩)), (39, .int .i64 (((jd : Nat)) - 1)), (47, .pointer (some ⟨b1720, o1720 + jd * 4, none⟩))]) (fun _ => [bx (γ1 0) (#[.slice (some ⟨b1720, o1720, none⟩) n cap, .slice q m capv]) 25]) ?_ (fun hmx5 => ?_)
         ·
          rintro _ _
          refine any_fork [12, 23] (by kernel_rfl) (by simp) (each_cons _ rfl ?_ (each_cons _ rfl ?_ (each_nil)))
          ·
           refine qo0 1 [(12, .go (owns 0 0 1))] [1, 3, 32, 35, 39, 47] [(37, .slice (some ⟨b1720, o1720, none⟩) n cap)] ?_
           refine od_ ?_
           refine tk (m := 17) [15, 16] [(15, .at b1720 o1720 (jd - 1))] [1, 3, 32, 35, 47] [(41, .pointer (some ⟨b1720, o1720 + (jd - 1) * 4, none⟩))] ([(some ⟨b1720, o1720, none⟩ : Option Addr) = some ⟨b1720, o1720, none⟩, (((jd : Nat)) - 1) = ((jd - 1 : Nat) : Int), jd - 1 < n]) #[true, true, true, true, true, true, true, true, true, true, true, true, true, true, true, true, true, false, true, true, true, true, true, false, false, false, false, false, false, false, false, false, false, false, false, false, false, false, false] (al2 rfl (al2 (by omega) (al1 (by omega)))) ?_
           exact wk (hmx8 () trivial) [1, 3, 32, 35, 41, 47] [[_]] [0] rfl rfl
          ·
           refine qo 1 [(23, .go (outs b1720 (o1720 + jd * 4) [.int .i64 x15.id]))] [1, 3, 32, 35, 36, 39] [(48, .int .i64 x15.id)] (cellsP w b1720 (o1720 + jd * 4) [.int .i64 x15.id]) (rd_pre (hds.get hx15) _ rfl) ?_
           refine od_ ?_
           exact wk (hmx7 () trivial) [1, 3, 32, 35, 36, 39, 48] [[_]] [0] rfl rfl
         refine any_cutX (V := Unit) (fun _ => True) 20 #[true, true, true, true, true, true, true, true, true, true, true, true, true, true, true, true, true, false, true, false, true, false, false, false, false, false, false, false, false, false, false, false, false, false, false, false, false, false, false] (fun _ => [(1, .pointer (some ⟨γ1 0, 0, none⟩)), (3, .int .i64 ((jd : Nat))), (32, .bool false), (35, .bool true), (41, .pointer (some ⟨b1720, o1720 + (jd - 1) * 4, none⟩)), (43, .pointer (some ⟨γ1 0, 0, none⟩)), (45, .int .i64 ((jd : Nat)))]) (fun _ => [bx (γ1 0) (#[.slice (some ⟨b1720, o1720, none⟩) n cap, .slice q m capv]) 25]) ?_ (fun hmx4 => ?_)
         ·
          rintro _ _
          refine any_fork [17, 19] (by kernel_rfl) (by simp) (each_cons _ rfl ?_ (each_cons _ rfl ?_ (each_nil)))
          ·
           refine qo 1 [(17, .go (outs b1720 (o1720 + (jd - 1) * 4) [.int .i64 x867.id]))] [1, 3, 32, 35, 43, 45] [(42, .int .i64 x867.id)] (cellsP w b1720 (o1720 + (jd - 1) * 4) [.int .i64 x867.id]) (rd_pre (hds.get hx867) _ rfl) ?_
           refine od_ ?_
           exact wk (hmx6 () trivial) [1, 3, 32, 35, 42, 43, 45] [[_]] [0] rfl rfl
          ·
           refine qo0 1 [(19, .go (owns 0 0 1))] [1, 3, 32, 35, 41, 45] [(44, .slice (some ⟨b1720, o1720, none⟩) n cap)] ?_
           refine od_ ?_
           refine tk (m := 17) [21, 22] [(21, .at b1720 o1720 jd)] [1, 3, 32, 35, 41] [(47, .pointer (some ⟨b1720, o1720 + jd * 4, none⟩))] ([(some ⟨b1720, o1720, none⟩ : Option Addr) = some ⟨b1720, o1720, none⟩, ((jd : Nat)) = ((jd : Nat) : Int), jd < n]) #[true, true, true, true, true, true, true, true, true, true, true, true, true, true, true, true, true, false, true, true, true, true, true, false, false, false, false, false, false, false, false, false, false, false, false, false, false, false, false] (al2 rfl (al2 rfl (al1 (by omega)))) ?_
           exact wk (hmx8 () trivial) [1, 3, 32, 35, 41, 47] [[_]] [0] rfl rfl
         refine any_cutX (V := Unit) (fun _ => True) 23 #[true, true, true, true, true, true, true, true, true, true, true, true, false, true, true, false, false, false, true, false, true, false, false, false, false, false, false, false, false, false, false, false, false, false, false, false, false, false, false] (fun _ => [(1, .pointer (some ⟨γ1 0, 0, none⟩)), (3, .int .i64 ((jd : Nat))), (32, .bool false), (35, .bool true), (36, .pointer (some ⟨γ1 0, 0, none⟩)), (39, .int .i64 (((jd : Nat)) - 1)), (43, .pointer (some ⟨γ1 0, 0, none⟩)), (45, .int .i64 ((jd : Nat)))]) (fun _ => [bx (γ1 0) (#[.slice (some ⟨b1720, o1720, none⟩) n cap, .slice q m capv]) 25]) ?_ (fun hmx3 => ?_)
         ·
          rintro _ _
          refine any_fork [12, 19] (by kernel_rfl) (by simp) (each_cons _ rfl ?_ (each_cons _ rfl ?_ (each_nil)))
          ·
           refine qo0 1 [(12, .go (owns 0 0 1))] [1, 3, 32, 35, 39, 43, 45] [(37, .slice (some ⟨b1720, o1720, none⟩) n cap)] ?_
           refine od_ ?_
           refine tk (m := 20) [15, 16] [(15, .at b1720 o1720 (jd - 1))] [1, 3, 32, 35, 43, 45] [(41, .pointer (some ⟨b1720, o1720 + (jd - 1) * 4, none⟩))] ([(some ⟨b1720, o1720, none⟩ : Option Addr) = some ⟨b1720, o1720, none⟩, (((jd : Nat)) - 1) = ((jd - 1 : Nat) : Int), jd - 1 < n]) #[true, true, true, true, true, true, true, true, true, true, true, true, true, true, true, true, true, false, true, false, true, false, false, false, false, false, false, false, false, false, false, false, false, false, false, false, false, false, false] (al2 rfl (al2 (by omega) (al1 (by omega)))) ?_
           exact wk (hmx4 () trivial) [1, 3, 32, 35, 41, 43, 45] [[_]] [0] rfl rfl
          ·
           refine qo0 1 [(19, .go (owns 0 0 1))] [1, 3, 32, 35, 36, 39, 45] [(44, .slice (some ⟨b1720, o1720, none⟩) n cap)] ?_
           refine od_ ?_
           refine tk (m := 20) [21, 22] [(21, .at b1720 o1720 jd)] [1, 3, 32, 35, 36, 39] [(47, .pointer (some ⟨b1720, o1720 + jd * 4, none⟩))] ([(some ⟨b1720, o1720, none⟩ : Option Addr) = some ⟨b1720, o1720, none⟩, ((jd : Nat)) = ((jd : Nat) : Int), jd < n]) #[true, true, true, true, true, true, true, true, true, true, true, true, false, true, true, false, false, false, true, true, true, true, true, false, false, false, false, false, false, false, false, false, false, false, false, false, false, false, false] (al2 rfl (al2 rfl (al1 (by omega)))) ?_
           exact wk (hmx5 () trivial) [1, 3, 32, 35, 36, 39, 47] [[_]] [0] rfl rfl
         refine any_cutX (V := Unit) (fun _ => True) 34 #[true, true, true, true, true, false, false, false, false, false, false, false, false, false, false, false, false, false, false, false, false, false, false, false, false, false, false, false, false, false, false, false, false, false, false, false, false, false, false] (fun _ => [(1, .pointer (some ⟨γ1 0, 0, none⟩)), (3, .int .i64 ((jd : Nat))), (29, .agg #[.int .i64 x15.id, .int .i64 x15.weight, .int .i64 x15.cap, .int .i64 x15.pool])]) (fun _ => [bx (γ1 0) (#[.slice (some ⟨b1720, o1720, none⟩) n cap, .slice q m capv]) 25]) ?_ (fun hmx2 => ?_)
         ·
          rintro _ _
          refine a1 5 rfl ?_
          refine cD (.bool true) Try.call32 (fun w hw => by have := rmay_d x15 w; rw [q16] at this; exact this) ?_
          refine od_ ?_
          refine tk (m := 23) [6, 7, 8, 9, 10, 11, 13, 14, 18, 20] [(9, .yes), (14, .fit)] [1, 3] [(32, .bool false), (35, .bool true), (36, .pointer (some ⟨γ1 0, 0, none⟩)), (39, .int .i64 (((jd : Nat)) - 1)), (43, .pointer (some ⟨γ1 0, 0, none⟩)), (45, .int .i64 ((jd : Nat)))] ([((jd : Nat) : Int) > (0 : Int)] ++ ([Fit .i64 (((jd : Nat)) - 1)])) #[true, true, true, true, true, true, true, true, true, true, true, true, false, true, true, false, false, false, true, false, true, false, false, false, false, false, false, false, false, false, false, false, false, false, false, false, false, false, false] (alA (al1 q866) (al1 (fit64 (by omega) (by omega)))) ?_
          exact wk (hmx3 () trivial) [1, 3, 32, 35, 36, 39, 43, 45] [[_]] [0] rfl rfl
         refine any_cutX (V := Unit) (fun _ => True) 35 #[true, true, true, true, false, false, false, false, false, false, false, false, false, false, false, false, false, false, false, false, false, false, false, false, false, false, false, false, false, false, false, false, false, false, false, false, false, false, false] (fun _ => [(1, .pointer (some ⟨γ1 0, 0, none⟩)), (3, .int .i64 ((jd : Nat))), (28, .pointer (some ⟨b1720, o1720 + jd * 4, none⟩))]) (fun _ => [bx (γ1 0) (#[.slice (some ⟨b1720, o1720, none⟩) n cap, .slice q m capv]) 25]) ?_ (fun hmx1 => ?_)
         ·
          rintro _ _
          refine a1 4 rfl ?_
          refine qo 1 [(4, .go (outs b1720 (o1720 + jd * 4) [.int .i64 x15.id, .int .i64 x15.weight, .int .i64 x15.cap, .int .i64 x15.pool]))] [1, 3] [(29, .agg #[.int .i64 x15.id, .int .i64 x15.weight, .int .i64 x15.cap, .int .i64 x15.pool])] (cellsP w b1720 (o1720 + jd * 4) [.int .i64 x15.id, .int .i64 x15.weight, .int .i64 x15.cap, .int .i64 x15.pool]) (rd_pre (hds.get hx15) _ rfl) ?_
          refine od_ ?_
          exact wk (hmx2 () trivial) [1, 3, 29] [[_]] [0] rfl rfl
         refine a1 1 rfl ?_
         refine qo0 1 [(1, .go (owns 0 0 1))] [1, 3, 27] [(26, .slice (some ⟨b1720, o1720, none⟩) n cap)] ?_
         refine od_ ?_
         refine tk (m := 35) [3] [(3, .at b1720 o1720 jd)] [1, 3] [(28, .pointer (some ⟨b1720, o1720 + jd * 4, none⟩))] ([(some ⟨b1720, o1720, none⟩ : Option Addr) = some ⟨b1720, o1720, none⟩, ((jd : Nat)) = ((jd : Nat) : Int), jd < n]) #[true, true, true, true, false, false, false, false, false, false, false, false, false, false, false, false, false, false, false, false, false, false, false, false, false, false, false, false, false, false, false, false, false, false, false, false, false, false, false] (al2 rfl (al2 rfl (al1 (by omega)))) ?_
         exact wk (hmx1 () trivial) [1, 3, 28] [[_]] [0] rfl rfl
        rintro ⟨Y2424, cq2424, q2424⟩ hO2424
        refine any_nil (by kernel_rfl) ?_
        refine ds_ (t_ (sq_ (qa0 [] [] [(2, .bool false)] (ds_ (rt ([]) (.bool false) ?_)))))
        exact fun w' hw => ⟨by rw [bad_dom hx15 (.inr (by omega))], hw.below⟩
       ·
        obtain ⟨b2569, o2569, rfl⟩ := hds.pos (i := jd) (by omega)
        refine at_any (by kernel_rfl) ?_
        refine tk (m := 37) [0, 2] [] [1, 3] [(25, .pointer (some ⟨γ1 0, 0, none⟩)), (27, .int .i64 ((jd : Nat)))] ([]) #[true, false, true, false, false, false, false, false, false, false, false, false, false, false, false, false, false, false, false, false, false, false, false, false, false, false, false, false, false, false, false, false, false, false, false, false, false, false, false] al0 ?_
        refine any_cutX (V := (List Ob) × (Nat) × (Option Addr)) (fun ⟨Y3273, cq3273, q3273⟩ => SlO 3 Y3273 q3273 (cntV vs x15.id) cq3273 (ofV vs x15.id)) 0 #[true, true, true, true, true, true, true, true, true, true, true, true, true, true, true, true, true, true, true, true, true, true, true, true, true, true, true, true, true, true, true, true, true, true, true, true, true, true, true] (fun ⟨Y3273, cq3273, q3273⟩ => [(1, .pointer (some ⟨γ1 0, 0, none⟩)), (3, .int .i64 ((jd : Nat))), (63, .bool false)]) (fun ⟨Y3273, cq3273, q3273⟩ => bx (γ1 0) (#[.slice (some ⟨b2569, o2569, none⟩) n cap, .slice q m capv]) 25 :: (Y3273 ++ [])) ?_ (fun hmx17 => ?_)
        rotate_left
        ·
         refine any_cutX (V := Unit) (fun _ => True) 4 #[true, true, true, true, true, true, true, true, true, true, true, true, true, true, true, true, true, true, true, true, true, true, true, true, true, true, true, true, true, true, true, true, true, true, true, false, false, false, false] (fun _ => [(1, .pointer (some ⟨γ1 0, 0, none⟩)), (3, .int .i64 ((jd : Nat))), (52, .bool false), (53, .agg #[.slice (some ⟨b2569, o2569, none⟩) n cap, .slice q m capv]), (59, .int .i64 x15.id)]) (fun _ => [bx (γ1 0) (#[.slice (some ⟨b2569, o2569, none⟩) n cap, .slice q m capv]) 25]) ?_ (fun hmx16 => ?_)
         ·
          rintro _ _
          refine a1 35 rfl ?_
          refine cP (fun v L' => ∃ q_ c_ Y_, v = .slice q_ (cntV vs x15.id) c_ ∧ L' = List.take 1 ([bx (γ1 0) (#[.slice (some ⟨b2569, o2569, none⟩) n cap, .slice q m capv]) 25]) ++ (Y_ ++ List.drop 1 ([bx (γ1 0) (#[.slice (some ⟨b2569, o2569, none⟩) n cap, .slice q m capv]) 25])) ∧ SlO 3 Y_ q_ (cntV vs x15.id) c_ (ofV vs x15.id)) Try.call20 (fun w hw => (rof_d (some ⟨b2569, o2569, none⟩) n cap ds q m capv vs x15.id w (hds.kept hw.below) hn (by omega) (hvs.kept hw.below) hm (by omega)).mono fun e w' ⟨q_, c_, Y_, he, hO, hb, hY⟩ => ⟨_, _, he, ⟨q_, c_, Y_, rfl, rfl, hO⟩, hw.join hb hY 1⟩) ?_
          rintro v3273 L3273 ⟨q3273, cq3273, Y3273, rfl, rfl, hO3273⟩
          refine od_ ?_
          refine tk (m := 0) [36, 37, 38] [(37, .no)] [1, 3] [(63, .bool false)] ([¬ (((cntV vs x15.id : Nat) : Int) > (8 : Int))]) #[true, true, true, true, true, true, true, true, true, true, true, true, true, true, true, true, true, true, true, true, true, true, true, true, true, true, true, true, true, true, true, true, true, true, true, true, true, true, true] (al1 q1718) ?_
          exact wk (hmx17 (Y3273, cq3273, q3273) hO3273) [1, 3, 63] [[_], _] [0, 1] rfl rfl
         refine any_cutX (V := Unit) (fun _ => True) 5 #[true, true, true, true, true, true, true, true, true, true, true, true, true, true, true, true, true, true, true, true, true, true, true, true, true, true, true, true, false, true, true, true, true, true, true, false, false, false, false] (fun _ => [(1, .pointer (some ⟨γ1 0, 0, none⟩)), (3, .int .i64 ((jd : Nat))), (52, .bool false), (59, .int .i64 x15.id)]) (fun _ => [bx (γ1 0) (#[.slice (some ⟨b2569, o2569, none⟩) n cap, .slice q m capv]) 25]) ?_ (fun hmx15 => ?_)
         ·
          rintro _ _
          refine a1 28 rfl ?_
          refine qo0 1 [(28, .go (owns 0 0 2))] [1, 3, 52, 59] [(53, .agg #[.slice (some ⟨b2569, o2569, none⟩) n cap, .slice q m capv])] ?_
          refine od_ ?_
          exact wk (hmx16 () trivial) [1, 3, 52, 53, 59] [[_]] [0] rfl rfl
         refine any_cutX (V := Unit) (fun _ => True) 5 #[true, true, true, true, true, true, true, true, true, true, true, true, true, true, true, true, true, true, true, true, true, true, true, true, true, true, true, true, true, true, true, true, true, true, false, false, false, false, false] (fun _ => [(1, .pointer (some ⟨γ1 0, 0, none⟩)), (3, .int .i64 ((jd : Nat))), (52, .bool false), (53, .agg #[.slice (some ⟨b2569, o2569, none⟩) n cap, .slice q m capv]), (58, .pointer (some ⟨b2569, o2569 + jd * 4, none⟩))]) (fun _ => [bx (γ1 0) (#[.slice (some ⟨b2569, o2569, none⟩) n cap, .slice q m capv]) 25]) ?_ (fun hmx14 => ?_)
         ·
          rintro _ _
          refine a1 34 rfl ?_
          refine qo 1 [(34, .go (outs b2569 (o2569 + jd * 4) [.int .i64 x15.id]))] [1, 3, 52, 53] [(59, .int .i64 x15.id)] (cellsP w b2569 (o2569 + jd * 4) [.int .i64 x15.id]) (rd_pre (hds.get hx15) _ rfl) ?_
          refine od_ ?_
          exact wk (hmx16 () trivial) [1, 3, 52, 53, 59] [[_]] [0] rfl rfl
         refine any_cutX (V := Unit) (fun _ => True) 6 #[true, true, true, true, true, true, true, true, true, true, true, true, true, true, true, true, true, true, true, true, true, true, true, true, true, true, true, true, false, true, true, true, true, true, false, false, false, false, false] (fun _ => [(1, .pointer (some ⟨γ1 0, 0, none⟩)), (3, .int .i64 ((jd : Nat))), (52, .bool false), (58, .pointer (some ⟨b2569, o2569 + jd * 4, none⟩))]) (fun _ => [bx (γ1 0) (#[.slice (some ⟨b2569, o2569, none⟩) n cap, .slice q m capv]) 25]) ?_ (fun hmx13 => ?_)
         ·
          rintro _ _
          refine any_fork [28, 34] (by kernel_rfl) (by simp) (each_cons _ rfl ?_ (each_cons _ rfl ?_ (each_nil)))
          ·
           refine qo0 1 [(28, .go (owns 0 0 2))] [1, 3, 52, 58] [(53, .agg #[.slice (some ⟨b2569, o2569, none⟩) n cap, .slice q m capv])] ?_
           refine od_ ?_
           exact wk (hmx14 () trivial) [1, 3, 52, 53, 58] [[_]] [0] rfl rfl
          ·
           refine qo 1 [(34, .go (outs b2569 (o2569 + jd * 4) [.int .i64 x15.id]))] [1, 3, 52] [(59, .int .i64 x15.id)] (cellsP w b2569 (o2569 + jd * 4) [.int .i64 x15.id]) (rd_pre (hds.get hx15) _ rfl) ?_
           refine od_ ?_
           exact wk (hmx15 () trivial) [1, 3, 52, 59] [[_]] [0] rfl rfl
         refine any_cutX (V := Unit) (fun _ => True) 8 #[true, true, true, true, true, true, true, true, true, true, true, true, true, true, true, true, true, true, true, true, true, true, true, true, true, true, true, true, true, true, false, true, false, false, false, false, false, false, false] (fun _ => [(1, .pointer (some ⟨γ1 0, 0, none⟩)), (3, .int .i64 ((jd : Nat))), (52, .bool false), (53, .agg #[.slice (some ⟨b2569, o2569, none⟩) n cap, .slice q m capv]), (54, .pointer (some ⟨γ1 0, 0, none⟩)), (56, .int .i64 ((jd : Nat)))]) (fun _ => [bx (γ1 0) (#[.slice (some ⟨b2569, o2569, none⟩) n cap, .slice q m capv]) 25]) ?_ (fun hmx12 => ?_)
         ·
          rintro _ _
          refine a1 30 rfl ?_
          refine qo0 1 [(30, .go (owns 0 0 1))] [1, 3, 52, 53, 56] [(55, .slice (some ⟨b2569, o2569, none⟩) n cap)] ?_
          refine od_ ?_
          refine tk (m := 5) [32, 33] [(32, .at b2569 o2569 jd)] [1, 3, 52, 53] [(58, .pointer (some ⟨b2569, o2569 + jd * 4, none⟩))] ([(some ⟨b2569, o2569, none⟩ : Option Addr) = some ⟨b2569, o2569, none⟩, ((jd : Nat)) = ((jd : Nat) : Int), jd < n]) #[true, true, true, true, true, true, true, true, true, true, true, true, true, true, true, true, true, true, true, true, true, true, true, true, true, true, true, true, true, true, true, true, true, true, false, false, false, false, false] (al2 rfl (al2 rfl (al1 (by omega)))) ?_
          exact wk (hmx14 () trivial) [1, 3, 52, 53, 58] [[_]] [0] rfl rfl
         refine any_cutX (V := Unit) (fun _ => True) 9 #[true, true, true, true, true, true, true, true, true, true, true, true, true, true, true, true, true, true, true, true, true, true, true, true, true, true, true, true, false, true, false, true, false, false, false, false, false, false, false] (fun _ => [(1, .pointer (some ⟨γ1 0, 0, none⟩)), (3, .int .i64 ((jd : Nat))), (52, .bool false), (54, .pointer (some ⟨γ1 0, 0, none⟩)), (56, .int .i64 ((jd : Nat)))]) (fun _ => [bx (γ1 0) (#[.slice (some ⟨b2569, o2569, none⟩) n cap, .slice q m capv]) 25]) ?_ (fun hmx11 => ?_)
         ·
          rintro _ _
          refine any_fork [28, 30] (by kernel_rfl) (by simp) (each_cons _ rfl ?_ (each_cons _ rfl ?_ (each_nil)))
          ·
           refine qo0 1 [(28, .go (owns 0 0 2))] [1, 3, 52, 54, 56] [(53, .agg #[.slice (some ⟨b2569, o2569, none⟩) n cap, .slice q m capv])] ?_
           refine od_ ?_
           exact wk (hmx12 () trivial) [1, 3, 52, 53, 54, 56] [[_]] [0] rfl rfl
          ·
           refine qo0 1 [(30, .go (owns 0 0 1))] [1, 3, 52, 56] [(55, .slice (some ⟨b2569, o2569, none⟩) n cap)] ?_
           refine od_ ?_
           refine tk (m := 6) [32, 33] [(32, .at b2569 o2569 jd)] [1, 3, 52] [(58, .pointer (some ⟨b2569, o2569 + jd * 4, none⟩))] ([(some ⟨b2569, o2569, none⟩ : Option Addr) = some ⟨b2569, o2569, none⟩, ((jd : Nat)) = ((jd : Nat) : Int), jd < n]) #[true, true, true, true, true, true, true, true, true, true, true, true, true, true, true, true, true, true, true, true, true, true, true, true, true, true, true, true, false, true, true, true, true, true, false, false, false, false, false] (al2 rfl (al2 rfl (al1 (by omega)))) ?_
           exact wk (hmx13 () trivial) [1, 3, 52, 58] [[_]] [0] rfl rfl
         refine any_cutX (V := Unit) (fun _ => True) 16 #[true, true, true, true, true, true, true, true, true, true, true, true, true, true, true, true, true, false, true, true, true, true, true, true, false, false, false, false, false, false, false, false, false, false, false, false, false, false, false] (fun _ => [(1, .pointer (some ⟨γ1 0, 0, none⟩)), (3, .int .i64 ((jd : Nat))), (32, .bool false), (35, .bool true), (41, .pointer (some ⟨b2569, o2569 + (jd - 1) * 4, none⟩)), (48, .int .i64 x15.id)]) (fun _ => [bx (γ1 0) (#[.slice (some ⟨b2569, o2569, none⟩) n cap, .slice q m capv]) 25]) ?_ (fun hmx10 => ?_)
         ·
          rintro _ _
          refine a1 17 rfl ?_
          refine qo 1 [(17, .go (outs b2569 (o2569 + (jd - 1) * 4) [.int .i64 x867.id]))] [1, 3, 32, 35, 48] [(42, .int .i64 x867.id)] (cellsP w b2569 (o2569 + (jd - 1) * 4) [.int .i64 x867.id]) (rd_pre (hds.get hx867) _ rfl) ?_
          refine od_ ?_
          refine tk (m := 9) [24, 25, 26, 27, 29, 31] [(24, .no)] [1, 3] [(52, .bool false), (54, .pointer (some ⟨γ1 0, 0, none⟩)), (56, .int .i64 ((jd : Nat)))] ([¬ ((x867.id : Int) ≥ (x15.id : Int))]) #[true, true, true, true, true, true, true, true, true, true, true, true, true, true, true, true, true, true, true, true, true, true, true, true, true, true, true, true, false, true, false, true, false, false, false, false, false, false, false] (al1 q868) ?_
          exact wk (hmx11 () trivial) [1, 3, 52, 54, 56] [[_]] [0] rfl rfl
         refine any_cutX (V := Unit) (fun _ => True) 16 #[true, true, true, true, true, true, true, true, true, true, true, true, true, true, true, true, true, true, true, true, true, true, true, false, false, false, false, false, false, false, false, false, false, false, false, false, false, false, false] (fun _ => [(1, .pointer (some ⟨γ1 0, 0, none⟩)), (3, .int .i64 ((jd : Nat))), (32, .bool false), (35, .bool true), (42, .int .i64 x867.id), (47, .pointer (some ⟨b2569, o2569 + jd * 4, none⟩))]) (fun _ => [bx (γ1 0) (#[.slice (some ⟨b2569, o2569, none⟩) n cap, .slice q m capv]) 25]) ?_ (fun hmx9 => ?_)
         ·
          rintro _ _
          refine a1 23 rfl ?_
          refine qo 1 [(23, .go (outs b2569 (o2569 + jd * 4) [.int .i64 x15.id]))] [1, 3, 32, 35, 42] [(48, .int .i64 x15.id)] (cellsP w b2569 (o2569 + jd * 4) [.int .i64 x15.id]) (rd_pre (hds.get hx15) _ rfl) ?_
          refine od_ ?_
          refine tk (m := 9) [24, 25, 26, 27, 29, 31] [(24, .no)] [1, 3] [(52, .bool false), (54, .pointer (some ⟨γ1 0, 0, none⟩)), (56, .int .i64 ((jd : Nat)))] ([¬ ((x867.id : Int) ≥ (x15.id : Int))]) #[true, true, true, true, true, true, true, true, true, true, true, true, true, true, true, true, true, true, true, true, true, true, true, true, true, true, true, true, false, true, false, true, false, false, false, false, false, false, false] (al1 q868) ?_
          exact wk (hmx11 () trivial) [1, 3, 52, 54, 56] [[_]] [0] rfl rfl
         refine any_cutX (V := Unit) (fun _ => True) 17 #[true, true, true, true, true, true, true, true, true, true, true, true, true, true, true, true, true, false, true, true, true, true, true, false, false, false, false, false, false, false, false, false, false, false, false, false, false, false, false] (fun _ => [(1, .pointer (some ⟨γ1 0, 0, none⟩)), (3, .int .i64 ((jd : Nat))), (32, .bool false), (35, .bool true), (41, .pointer (some ⟨b2569, o2569 + (jd - 1) * 4, none⟩)), (47, .pointer (some ⟨b2569, o2569 + jd * 4, none⟩))]) (fun _ => [bx (γ1 0) (#[.slice (some ⟨b2569, o2569, none⟩) n cap, .slice q m capv]) 25]) ?_ (fun hmx8 => ?_)
         ·
          rintro _ _
          refine any_fork [17, 23] (by kernel_rfl) (by simp) (each_cons _ rfl ?_ (each_cons _ rfl ?_ (each_nil)))
          ·
           refine qo 1 [(17, .go (outs b2569 (o2569 + (jd - 1) * 4) [.int .i64 x867.id]))] [1, 3, 32, 35, 47] [(42, .int .i64 x867.id)] (cellsP w b2569 (o2569 + (jd - 1) * 4) [.int .i64 x867.id]) (rd_pre (hds.get hx867) _ rfl) ?_
           refine od_ ?_
           exact wk (hmx9 () trivial) [1, 3, 32, 35, 42, 47] [[_]] [0] rfl rfl
          ·
           refine qo 1 [(23, .go (outs b2569 (o2569 + jd * 4) [.int .i64 x15.id]))] [1, 3, 32, 35, 41] [(48, .int .i64 x15.id)] (cellsP w b2569 (o2569 + jd * 4) [.int .i64 x15.id]) (rd_pre (hds.get hx15) _ rfl) ?_
           refine od_ ?_
           exact wk (hmx10 () trivial) [1, 3, 32, 35, 41, 48] [[_]] [0] rfl rfl
         refine any_cutX (V := Unit) (fun _ => True) 19 #[true, true, true, true, true, true, true, true, true, true, true, true, false, true, true, false, false, false, true, true, true, true, true, true, false, false, false, false, false, false, false, false, false, false, false, false, false, false, false] (fun _ => [(1, .pointer (some ⟨γ1 0, 0, none⟩)), (3, .int .i64 ((jd : Nat))), (32, .bool false), (35, .bool true), (36, .pointer (some ⟨γ1 0, 0, none⟩)), (39, .int .i64 (((jd : Nat)) - 1)), (48, .int .i64 x15.id)]) (fun _ => [bx (γ1 0) (#[.slice (some ⟨b2569, o2569, none⟩) n cap, .slice q m capv]) 25]) ?_ (fun hmx7 => ?_)
         ·
          rintro _ _
          refine a1 12 rfl ?_
          refine qo0 1 [(12, .go (owns 0 0 1))] [1, 3, 32, 35, 39, 48] [(37, .slice (some ⟨b2569, o2569, none⟩) n cap)] ?_
          refine od_ ?_
          refine tk (m := 16) [15, 16] [(15, .at b2569 o2569 (jd - 1))] [1, 3, 32, 35, 48] [(41, .pointer (some ⟨b2569, o2569 + (jd - 1) * 4, none⟩))] ([(some ⟨b2569, o2569, none⟩ : Option Addr) = some ⟨b2569, o2569, none⟩, (((jd : Nat)) - 1) = ((jd - 1 : Nat) : Int), jd - 1 < n]) #[true, true, true, true, true, true, true, true, true, true, true, true, true, true, true, true, true, false, true, true, true, true, true, true, false, false, false, false, false, false, false, false, false, false, false, false, false, false, false] (al2 rfl (al2 (by omega) (al1 (by omega)))) ?_
          exact wk (hmx10 () trivial) [1, 3, 32, 35, 41, 48] [[_]] [0] rfl rfl
         refine any_cutX (V := Unit) (fun _ => True) 19 #[true, true, true, true, true, true, true, true, true, true, true, true, true, true, true, true, true, true, true, false, true, false, false, false, false, false, false, false, false, false, false, false, false, false, false, false, false, false, false] (fun _ => [(1, .pointer (some ⟨γ1 0, 0, none⟩)), (3, .int .i64 ((jd : Nat))), (32, .bool false), (35, .bool true), (42, .int .i64 x867.id), (43, .pointer (some ⟨γ1 0, 0, none⟩)), (45, .int .i64 ((jd : Nat)))]) (fun _ => [bx (γ1 0) (#[.slice (some ⟨b2569, o2569, none⟩) n cap, .slice q m capv]) 25]) ?_ (fun hmx6 => ?_)
         ·
          rintro _ _
          refine a1 19 rfl ?_
          refine qo0 1 [(19, .go (owns 0 0 1))] [1, 3, 32, 35, 42, 45] [(44, .slice (some ⟨b2569, o2569, none⟩) n cap)] ?_
          refine od_ ?_
          refine tk (m := 16) [21, 22] [(21, .at b2569 o2569 jd)] [1, 3, 32, 35, 42] [(47, .pointer (some ⟨b2569, o2569 + jd * 4, none⟩))] ([(some ⟨b2569, o2569, none⟩ : Option Addr) = some ⟨b2569, o2569, none⟩, ((jd : Nat)) = ((jd : Nat) : Int), jd < n]) #[true, true, true, true, true, true, true, true, true, true, true, true, true, true, true, true, true, true, true, true, true, true, true, false, false, false, false, false, false, false, false, false, false, false, false, false, false, false, false] (al2 rfl (al2 rfl (al1 (by omega)))) ?_
          exact wk (hmx9 () trivial) [1, 3, 32, 35, 42, 47] [[_]] [0] rfl rfl
         refine any_cutX (V := Unit) (fun _ => True) 20 #[true, true, true, true, true, true, true, true, true, true, true, true, false, true, true, false, false, false, true, true, true, true, true, false, false, false, false, false, false, false, false, false, false, false, false, false, false, false, false] (fun _ => [(1, .pointer (some ⟨γ1 0, 0, none⟩)), (3, .int .i64 ((jd : Nat))), (32, .bool false), (35, .bool true), (36, .pointer (some ⟨γ1 0, 0, none⟩)), (39, .int .i64 (((jd : Nat)) - 1)), (47, .pointer (some ⟨b2569, o2569 + jd * 4, none⟩))]) (fun _ => [bx (γ1 0) (#[.slice (some ⟨b2569, o2569, none⟩) n cap, .slice q m capv]) 25]) ?_ (fun hmx5 => ?_)
         ·
          rintro _ _
          refine any_fork [12, 23] (by kernel_rfl) (by simp) (each_cons _ rfl ?_ (each_cons _ rfl ?_ (each_nil)))
          ·
           refine qo0 1 [(12, .go (owns 0 0 1))] [1, 3, 32, 35, 39, 47] [(37, .slice (some ⟨b2569, o2569, none⟩) n cap)] ?_
           refine od_ ?_
           refine tk (m := 17) [15, 16] [(15, .at b2569 o2569 (jd - 1))] [1, 3, 32, 35, 47] [(41, .pointer (some ⟨b2569, o2569 + (jd - 1) * 4, none⟩))] ([(some ⟨b2569, o2569, none⟩ : Option Addr) = some ⟨b2569, o2569, none⟩, (((jd : Nat)) - 1) = ((jd - 1 : Nat) : Int), jd - 1 < n]) #[true, true, true, true, true, true, true, true, true, true, true, true, true, true, true, true, true, false, true, true, true, true, true, false, false, false, false, false, false, false, false, false, false, false, false, false, false, false, false] (al2 rfl (al2 (by omega) (al1 (by omega)))) ?_
           exact wk (hmx8 () trivial) [1, 3, 32, 35, 41, 47] [[_]] [0] rfl rfl
          ·
           refine qo 1 [(23, .go (outs b2569 (o2569 + jd * 4) [.int .i64 x15.id]))] [1, 3, 32, 35, 36, 39] [(48, .int .i64 x15.id)] (cellsP w b2569 (o2569 + jd * 4) [.int .i64 x15.id]) (rd_pre (hds.get hx15) _ rfl) ?_
           refine od_ ?_
           exact wk (hmx7 () trivial) [1, 3, 32, 35, 36, 39, 48] [[_]] [0] rfl rfl
         refine any_cutX (V := Unit) (fun _ => True) 20 #[true, true, true, true, true, true, true, true, true, true, true, true, true, true, true, true, true, false, true, false, true, false, false, false, false, false, false, false, false, false, false, false, false, false, false, false, false, false, false] (fun _ => [(1, .pointer (some ⟨γ1 0, 0, none⟩)), (3, .int .i64 ((jd : Nat))), (32, .bool false), (35, .bool true), (41, .pointer (some ⟨b2569, o2569 + (jd - 1) * 4, none⟩)), (43, .pointer (some ⟨γ1 0, 0, none⟩)), (45, .int .i64 ((jd : Nat)))]) (fun _ => [bx (γ1 0) (#[.slice (some ⟨b2569, o2569, none⟩) n cap, .slice q m capv]) 25]) ?_ (fun hmx4 => ?_)
         ·
          rintro _ _
          refine any_fork [17, 19] (by kernel_rfl) (by simp) (each_cons _ rfl ?_ (each_cons _ rfl ?_ (each_nil)))
          ·
           refine qo 1 [(17, .go (outs b2569 (o2569 + (jd - 1) * 4) [.int .i64 x867.id]))] [1, 3, 32, 35, 43, 45] [(42, .int .i64 x867.id)] (cellsP w b2569 (o2569 + (jd - 1) * 4) [.int .i64 x867.id]) (rd_pre (hds.get hx867) _ rfl) ?_
           refine od_ ?_
           exact wk (hmx6 () trivial) [1, 3, 32, 35, 42, 43, 45] [[_]] [0] rfl rfl
          ·
           refine qo0 1 [(19, .go (owns 0 0 1))] [1, 3, 32, 35, 41, 45] [(44, .slice (some ⟨b2569, o2569, none⟩) n cap)] ?_
           refine od_ ?_
           refine tk (m := 17) [21, 22] [(21, .at b2569 o2569 jd)] [1, 3, 32, 35, 41] [(47, .pointer (some ⟨b2569, o2569 + jd * 4, none⟩))] ([(some ⟨b2569, o2569, none⟩ : Option Addr) = some ⟨b2569, o2569, none⟩, ((jd : Nat)) = ((jd : Nat) : Int), jd < n]) #[true, true, true, true, true, true, true, true, true, true, true, true, true, true, true, true, true, false, true, true, true, true, true, false, false, false, false, false, false, false, false, false, false, false, false, false, false, false, false] (al2 rfl (al2 rfl (al1 (by omega)))) ?_
           exact wk (hmx8 () trivial) [1, 3, 32, 35, 41, 47] [[_]] [0] rfl rfl
         refine any_cutX (V := Unit) (fun _ => True) 23 #[true, true, true, true, true, true, true, true, true, true, true, true, false, true, true, false, false, false, true, false, true, false, false, false, false, false, false, false, false, false, false, false, false, false, false, false, false, false, false] (fun _ => [(1, .pointer (some ⟨γ1 0, 0, none⟩)), (3, .int .i64 ((jd : Nat))), (32, .bool false), (35, .bool true), (36, .pointer (some ⟨γ1 0, 0, none⟩)), (39, .int .i64 (((jd : Nat)) - 1)), (43, .pointer (some ⟨γ1 0, 0, none⟩)), (45, .int .i64 ((jd : Nat)))]) (fun _ => [bx (γ1 0) (#[.slice (some ⟨b2569, o2569, none⟩) n cap, .slice q m capv]) 25]) ?_ (fun hmx3 => ?_)
         ·
          rintro _ _
          refine any_fork [12, 19] (by kernel_rfl) (by simp) (each_cons _ rfl ?_ (each_cons _ rfl ?_ (each_nil)))
          ·
           refine qo0 1 [(12, .go (owns 0 0 1))] [1, 3, 32, 35, 39, 43, 45] [(37, .slice (some ⟨b2569, o2569, none⟩) n cap)] ?_
           refine od_ ?_
           refine tk (m := 20) [15, 16] [(15, .at b2569 o2569 (jd - 1))] [1, 3, 32, 35, 43, 45] [(41, .pointer (some ⟨b2569, o2569 + (jd - 1) * 4, none⟩))] ([(some ⟨b2569, o2569, none⟩ : Option Addr) = some ⟨b2569, o2569, none⟩, (((jd : Nat)) - 1) = ((jd - 1 : Nat) : Int), jd - 1 < n]) #[true, true, true, true, true, true, true, true, true, true, true, true, true, true, true, true, true, false, true, false, true, false, false, false, false, false, false, false, false, false, false, false, false, false, false, false, false, false, false] (al2 rfl (al2 (by omega) (al1 (by omega)))) ?_
           exact wk (hmx4 () trivial) [1, 3, 32, 35, 41, 43, 45] [[_]] [0] rfl rfl
          ·
           refine qo0 1 [(19, .go (owns 0 0 1))] [1, 3, 32, 35, 36, 39, 45] [(44, .slice (some ⟨b2569, o2569, none⟩) n cap)] ?_
           refine od_ ?_
           refine tk (m := 20) [21, 22] [(21, .at b2569 o2569 jd)] [1, 3, 32, 35, 36, 39] [(47, .pointer (some ⟨b2569, o2569 + jd * 4, none⟩))] ([(some ⟨b2569, o2569, none⟩ : Option Addr) = some ⟨b2569, o2569, none⟩, ((jd : Nat)) = ((jd : Nat) : Int), jd < n]) #[true, true, true, true, true, true, true, true, true, true, true, true, false, true, true, false, false, false, true, true, true, true, true, false, false, false, false, false, false, false, false, false, false, false, false, false, false, false, false] (al2 rfl (al2 rfl (al1 (by omega)))) ?_
           exact wk (hmx5 () trivial) [1, 3, 32, 35, 36, 39, 47] [[_]] [0] rfl rfl
         refine any_cutX (V := Unit) (fun _ => True) 34 #[true, true, true, true, true, false, false, false, false, false, false, false, false, false, false, false, false, false, false, false, false, false, false, false, false, false, false, false, false, false, false, false, false, false, false, false, false, false, false] (fun _ => [(1, .pointer (some ⟨γ1 0, 0, none⟩)), (3, .int .i64 ((jd : Nat))), (29, .agg #[.int .i64 x15.id, .int .i64 x15.weight, .int .i64 x15.cap, .int .i64 x15.pool])]) (fun _ => [bx (γ1 0) (#[.slice (some ⟨b2569, o2569, none⟩) n cap, .slice q m capv]) 25]) ?_ (fun hmx2 => ?_)
         ·
          rintro _ _
          refine a1 5 rfl ?_
          refine cD (.bool true) Try.call32 (fun w hw => by have := rmay_d x15 w; rw [q16] at this; exact this) ?_
          refine od_ ?_
          refine tk (m := 23) [6, 7, 8, 9, 10, 11, 13, 14, 18, 20] [(9, .yes), (14, .fit)] [1, 3] [(32, .bool false), (35, .bool true), (36, .pointer (some ⟨γ1 0, 0, none⟩)), (39, .int .i64 (((jd : Nat)) - 1)), (43, .pointer (some ⟨γ1 0, 0, none⟩)), (45, .int .i64 ((jd : Nat)))] ([((jd : Nat) : Int) > (0 : Int)] ++ ([Fit .i64 (((jd : Nat)) - 1)])) #[true, true, true, true, true, true, true, true, true, true, true, true, false, true, true, false, false, false, true, false, true, false, false, false, false, false, false, false, false, false, false, false, false, false, false, false, false, false, false] (alA (al1 q866) (al1 (fit64 (by omega) (by omega)))) ?_
          exact wk (hmx3 () trivial) [1, 3, 32, 35, 36, 39, 43, 45] [[_]] [0] rfl rfl
         refine any_cutX (V := Unit) (fun _ => True) 35 #[true, true, true, true, false, false, false, false, false, false, false, false, false, false, false, false, false, false, false, false, false, false, false, false, false, false, false, false, false, false, false, false, false, false, false, false, false, false, false] (fun _ => [(1, .pointer (some ⟨γ1 0, 0, none⟩)), (3, .int .i64 ((jd : Nat))), (28, .pointer (some ⟨b2569, o2569 + jd * 4, none⟩))]) (fun _ => [bx (γ1 0) (#[.slice (some ⟨b2569, o2569, none⟩) n cap, .slice q m capv]) 25]) ?_ (fun hmx1 => ?_)
         ·
          rintro _ _
          refine a1 4 rfl ?_
          refine qo 1 [(4, .go (outs b2569 (o2569 + jd * 4) [.int .i64 x15.id, .int .i64 x15.weight, .int .i64 x15.cap, .int .i64 x15.pool]))] [1, 3] [(29, .agg #[.int .i64 x15.id, .int .i64 x15.weight, .int .i64 x15.cap, .int .i64 x15.pool])] (cellsP w b2569 (o2569 + jd * 4) [.int .i64 x15.id, .int .i64 x15.weight, .int .i64 x15.cap, .int .i64 x15.pool]) (rd_pre (hds.get hx15) _ rfl) ?_
          refine od_ ?_
          exact wk (hmx2 () trivial) [1, 3, 29] [[_]] [0] rfl rfl
         refine a1 1 rfl ?_
         refine qo0 1 [(1, .go (owns 0 0 1))] [1, 3, 27] [(26, .slice (some ⟨b2569, o2569, none⟩) n cap)] ?_
         refine od_ ?_
         refine tk (m := 35) [3] [(3, .at b2569 o2569 jd)] [1, 3] [(28, .pointer (some ⟨b2569, o2569 + jd * 4, none⟩))] ([(some ⟨b2569, o2569, none⟩ : Option Addr) = some ⟨b2569, o2569, none⟩, ((jd : Nat)) = ((jd : Nat) : Int), jd < n]) #[true, true, true, true, false, false, false, false, false, false, false, false, false, false, false, false, false, false, false, false, false, false, false, false, false, false, false, false, false, false, false, false, false, false, false, false, false, false, false] (al2 rfl (al2 rfl (al1 (by omega)))) ?_
         exact wk (hmx1 () trivial) [1, 3, 28] [[_]] [0] rfl rfl
        rintro ⟨Y3273, cq3273, q3273⟩ hO3273
        refine any_nil (by kernel_rfl) ?_
        refine ds_ (f_ (at_skip (done_block (ds_ (qa [(1, .fit)] [1] [(3, .int .i64 ((jd + 1 : Nat)))] ([Fit .i64 ((jd + 1 : Nat))]) (al1 (fit64 (by omega) (by omega))) (Done.drop (L' := [bx (γ1 0) (#[.slice (some ⟨b2569, o2569, none⟩) n cap, .slice q m capv]) 25]) ?_ (List.Sublist.cons_cons _ (List.sublist_append_right _ _))))))))
        exact dr [1, 3] (jd + 1) ⟨by omega, ris_take_on hRd hx15 (.inr ⟨x867, hx867, by omega⟩), all_on hAd hx15 ⟨q16, by omega⟩⟩
     ·
      by_cases q3417 : ((cntV vs x15.id : Nat) : Int) > (8 : Int)
      ·
       obtain ⟨b3419, o3419, rfl⟩ := hds.pos (i := jd) (by omega)
       refine at_any (by kernel_rfl) ?_
       refine tk (m := 37) [0, 2] [] [1, 3] [(25, .pointer (some ⟨γ1 0, 0, none⟩)), (27, .int .i64 ((jd : Nat)))] ([]) #[true, false, true, false, false, false, false, false, false, false, false, false, false, false, false, false, false, false, false, false, false, false, false, false, false, false, false, false, false, false, false, false, false, false, false, false, false, false, false] al0 ?_
       refine any_cutX (V := (List Ob) × (Nat) × (Option Addr)) (fun ⟨Y4123, cq4123, q4123⟩ => SlO 3 Y4123 q4123 (cntV vs x15.id) cq4123 (ofV vs x15.id)) 0 #[true, true, true, true, true, true, true, true, true, true, true, true, true, true, true, true, true, true, true, true, true, true, true, true, true, true, true, true, true, true, true, true, true, true, true, true, true, true, true] (fun ⟨Y4123, cq4123, q4123⟩ => [(1, .pointer (some ⟨γ1 0, 0, none⟩)), (3, .int .i64 ((jd : Nat))), (63, .bool true)]) (fun ⟨Y4123, cq4123, q4123⟩ => bx (γ1 0) (#[.slice (some ⟨b3419, o3419, none⟩) n cap, .slice q m capv]) 25 :: (Y4123 ++ [])) ?_ (fun hmx17 => ?_)
       rotate_left
       ·
        refine any_cutX (V := Unit) (fun _ => True) 4 #[true, true, true, true, true, true, true, true, true, true, true, true, true, true, true, true, true, true, true, true, true, true, true, true, true, true, true, true, true, true, true, true, true, true, true, false, false, false, false] (fun _ => [(1, .pointer (some ⟨γ1 0, 0, none⟩)), (3, .int .i64 ((jd : Nat))), (52, .bool false), (53, .agg #[.slice (some ⟨b3419, o3419, none⟩) n cap, .slice q m capv]), (59, .int .i64 x15.id)]) (fun _ => [bx (γ1 0) (#[.slice (some ⟨b3419, o3419, none⟩) n cap, .slice q m capv]) 25]) ?_ (fun hmx16 => ?_)
        ·
         rintro _ _
         refine a1 35 rfl ?_
         refine cP (fun v L' => ∃ q_ c_ Y_, v = .slice q_ (cntV vs x15.id) c_ ∧ L' = List.take 1 ([bx (γ1 0) (#[.slice (some ⟨b3419, o3419, none⟩) n cap, .slice q m capv]) 25]) ++ (Y_ ++ List.drop 1 ([bx (γ1 0) (#[.slice (some ⟨b3419, o3419, none⟩) n cap, .slice q m capv]) 25])) ∧ SlO 3 Y_ q_ (cntV vs x15.id) c_ (ofV vs x15.id)) Try.call20 (fun w hw => (rof_d (some ⟨b3419, o3419, none⟩) n cap ds q m capv vs x15.id w (hds.kept hw.below) hn (by omega) (hvs.kept hw.below) hm (by omega)).mono fun e w' ⟨q_, c_, Y_, he, hO, hb, hY⟩ => ⟨_, _, he, ⟨q_, c_, Y_, rfl, rfl, hO⟩, hw.join hb hY 1⟩) ?_
         rintro v4123 L4123 ⟨q4123, cq4123, Y4123, rfl, rfl, hO4123⟩
         refine od_ ?_
         refine tk (m := 0) [36, 37, 38] [(37, .yes)] [1, 3] [(63, .bool true)] ([((cntV vs x15.id : Nat) : Int) > (8 : Int)]) #[true, true, true, true, true, true, true, true, true, true, true, true, true, true, true, true, true, true, true, true, true, true, true, true, true, true, true, true, true, true, true, true, true, true, true, true, true, true, true] (al1 q3417) ?_
         exact wk (hmx17 (Y4123, cq4123, q4123) hO4123) [1, 3, 63] [[_], _] [0, 1] rfl rfl
        refine any_cutX (V := Unit) (fun _ => True) 5 #[true, true, true, true, true, true, true, true, true, true, true, true, true, true, true, true, true, true, true, true, true, true, true, true, true, true, true, true, false, true, true, true, true, true, true, false, false, false, false] (fun _ => [(1, .pointer (some ⟨γ1 0, 0, none⟩)), (3, .int .i64 ((jd : Nat))), (52, .bool false), (59, .int .i64 x15.id)]) (fun _ => [bx (γ1 0) (#[.slice (some ⟨b3419, o3419, none⟩) n cap, .slice q m capv]) 25]) ?_ (fun hmx15 => ?_)
        ·
         rintro _ _
         refine a1 28 rfl ?_
         refine qo0 1 [(28, .go (owns 0 0 2))] [1, 3, 52, 59] [(53, .agg #[.slice (some ⟨b3419, o3419, none⟩) n cap, .slice q m capv])] ?_
         refine od_ ?_
         exact wk (hmx16 () trivial) [1, 3, 52, 53, 59] [[_]] [0] rfl rfl
        refine any_cutX (V := Unit) (fun _ => True) 5 #[true, true, true, true, true, true, true, true, true, true, true, true, true, true, true, true, true, true, true, true, true, true, true, true, true, true, true, true, true, true, true, true, true, true, false, false, false, false, false] (fun _ => [(1, .pointer (some ⟨γ1 0, 0, none⟩)), (3, .int .i64 ((jd : Nat))), (52, .bool false), (53, .agg #[.slice (some ⟨b3419, o3419, none⟩) n cap, .slice q m capv]), (58, .pointer (some ⟨b3419, o3419 + jd * 4, none⟩))]) (fun _ => [bx (γ1 0) (#[.slice (some ⟨b3419, o3419, none⟩) n cap, .slice q m capv]) 25]) ?_ (fun hmx14 => ?_)
        ·
         rintro _ _
         refine a1 34 rfl ?_
         refine qo 1 [(34, .go (outs b3419 (o3419 + jd * 4) [.int .i64 x15.id]))] [1, 3, 52, 53] [(59, .int .i64 x15.id)] (cellsP w b3419 (o3419 + jd * 4) [.int .i64 x15.id]) (rd_pre (hds.get hx15) _ rfl) ?_
         refine od_ ?_
         exact wk (hmx16 () trivial) [1, 3, 52, 53, 59] [[_]] [0] rfl rfl
        refine any_cutX (V := Unit) (fun _ => True) 6 #[true, true, true, true, true, true, true, true, true, true, true, true, true, true, true, true, true, true, true, true, true, true, true, true, true, true, true, true, false, true, true, true, true, true, false, false, false, false, false] (fun _ => [(1, .pointer (some ⟨γ1 0, 0, none⟩)), (3, .int .i64 ((jd : Nat))), (52, .bool false), (58, .pointer (some ⟨b3419, o3419 + jd * 4, none⟩))]) (fun _ => [bx (γ1 0) (#[.slice (some ⟨b3419, o3419, none⟩) n cap, .slice q m capv]) 25]) ?_ (fun hmx13 => ?_)
        ·
         rintro _ _
         refine any_fork [28, 34] (by kernel_rfl) (by simp) (each_cons _ rfl ?_ (each_cons _ rfl ?_ (each_nil)))
         ·
          refine qo0 1 [(28, .go (owns 0 0 2))] [1, 3, 52, 58] [(53, .agg #[.slice (some ⟨b3419, o3419, none⟩) n cap, .slice q m capv])] ?_
          refine od_ ?_
          exact wk (hmx14 () trivial) [1, 3, 52, 53, 58] [[_]] [0] rfl rfl
         ·
          refine qo 1 [(34, .go (outs b3419 (o3419 + jd * 4) [.int .i64 x15.id]))] [1, 3, 52] [(59, .int .i64 x15.id)] (cellsP w b3419 (o3419 + jd * 4) [.int .i64 x15.id]) (rd_pre (hds.get hx15) _ rfl) ?_
          refine od_ ?_
          exact wk (hmx15 () trivial) [1, 3, 52, 59] [[_]] [0] rfl rfl
        refine any_cutX (V := Unit) (fun _ => True) 8 #[true, true, true, true, true, true, true, true, true, true, true, true, true, true, true, true, true, true, true, true, true, true, true, true, true, true, true, true, true, true, false, true, false, false, false, false, false, false, false] (fun _ => [(1, .pointer (some ⟨γ1 0, 0, none⟩)), (3, .int .i64 ((jd : Nat))), (52, .bool false), (53, .agg #[.slice (some ⟨b3419, o3419, none⟩) n cap, .slice q m capv]), (54, .pointer (some ⟨γ1 0, 0, none⟩)), (56, .int .i64 ((jd : Nat)))]) (fun _ => [bx (γ1 0) (#[.slice (some ⟨b3419, o3419, none⟩) n cap, .slice q m capv]) 25]) ?_ (fun hmx12 => ?_)
        ·
         rintro _ _
         refine a1 30 rfl ?_
         refine qo0 1 [(30, .go (owns 0 0 1))] [1, 3, 52, 53, 56] [(55, .slice (some ⟨b3419, o3419, none⟩) n cap)] ?_
         refine od_ ?_
         refine tk (m := 5) [32, 33] [(32, .at b3419 o3419 jd)] [1, 3, 52, 53] [(58, .pointer (some ⟨b3419, o3419 + jd * 4, none⟩))] ([(some ⟨b3419, o3419, none⟩ : Option Addr) = some ⟨b3419, o3419, none⟩, ((jd : Nat)) = ((jd : Nat) : Int), jd < n]) #[true, true, true, true, true, true, true, true, true, true, true, true, true, true, true, true, true, true, true, true, true, true, true, true, true, true, true, true, true, true, true, true, true, true, false, false, false, false, false] (al2 rfl (al2 rfl (al1 (by omega)))) ?_
         exact wk (hmx14 () trivial) [1, 3, 52, 53, 58] [[_]] [0] rfl rfl
        refine any_cutX (V := Unit) (fun _ => True) 9 #[true, true, true, true, true, true, true, true, true, true, true, true, true, true, true, true, true, true, true, true, true, true, true, true, true, true, true, true, false, true, false, true, false, false, false, false, false, false, false] (fun _ => [(1, .pointer (some ⟨γ1 0, 0, none⟩)), (3, .int .i64 ((jd : Nat))), (52, .bool false), (54, .pointer (some ⟨γ1 0, 0, none⟩)), (56, .int .i64 ((jd : Nat)))]) (fun _ => [bx (γ1 0) (#[.slice (some ⟨b3419, o3419, none⟩) n cap, .slice q m capv]) 25]) ?_ (fun hmx11 => ?_)
        ·
         rintro _ _
         refine any_fork [28, 30] (by kernel_rfl) (by simp) (each_cons _ rfl ?_ (each_cons _ rfl ?_ (each_nil)))
         ·
          refine qo0 1 [(28, .go (owns 0 0 2))] [1, 3, 52, 54, 56] [(53, .agg #[.slice (some ⟨b3419, o3419, none⟩) n cap, .slice q m capv])] ?_
          refine od_ ?_
          exact wk (hmx12 () trivial) [1, 3, 52, 53, 54, 56] [[_]] [0] rfl rfl
         ·
          refine qo0 1 [(30, .go (owns 0 0 1))] [1, 3, 52, 56] [(55, .slice (some ⟨b3419, o3419, none⟩) n cap)] ?_
          refine od_ ?_
          refine tk (m := 6) [32, 33] [(32, .at b3419 o3419 jd)] [1, 3, 52] [(58, .pointer (some ⟨b3419, o3419 + jd * 4, none⟩))] ([(some ⟨b3419, o3419, none⟩ : Option Addr) = some ⟨b3419, o3419, none⟩, ((jd : Nat)) = ((jd : Nat) : Int), jd < n]) #[true, true, true, true, true, true, true, true, true, true, true, true, true, true, true, true, true, true, true, true, true, true, true, true, true, true, true, true, false, true, true, true, true, true, false, false, false, false, false] (al2 rfl (al2 rfl (al1 (by omega)))) ?_
          exact wk (hmx13 () trivial) [1, 3, 52, 58] [[_]] [0] rfl rfl
        refine any_cutX (V := Unit) (fun _ => True) 16 #[true, true, true, true, true, true, true, true, true, true, true, true, true, true, true, true, true, false, true, true, true, true, true, true, false, false, false, false, false, false, false, false, false, false, false, false, false, false, false] (fun _ => [(1, .pointer (some ⟨γ1 0, 0, none⟩)), (3, .int .i64 ((jd : Nat))), (32, .bool false), (35, .bool false), (41, undef), (48, undef)]) (fun _ => [bx (γ1 0) (#[.slice (some ⟨b3419, o3419, none⟩) n cap, .slice q m capv]) 25]) ?_ (fun hmx10 => ?_)
        ·
         rintro _ _
         refine a1 17 rfl ?_
         refine qo0 1 [] [1, 3, 32, 35, 48] [(42, undef)] ?_
         refine od_ ?_
         refine tk (m := 9) [24, 25, 26, 27, 29, 31] [] [1, 3] [(52, .bool false), (54, .pointer (some ⟨γ1 0, 0, none⟩)), (56, .int .i64 ((jd : Nat)))] ([]) #[true, true, true, true, true, true, true, true, true, true, true, true, true, true, true, true, true, true, true, true, true, true, true, true, true, true, true, true, false, true, false, true, false, false, false, false, false, false, false] al0 ?_
         exact wk (hmx11 () trivial) [1, 3, 52, 54, 56] [[_]] [0] rfl rfl
        refine any_cutX (V := Unit) (fun _ => True) 16 #[true, true, true, true, true, true, true, true, true, true, true, true, true, true, true, true, true, true, true, true, true, true, true, false, false, false, false, false, false, false, false, false, false, false, false, false, false, false, false] (fun _ => [(1, .pointer (some ⟨γ1 0, 0, none⟩)), (3, .int .i64 ((jd : Nat))), (32, .bool false), (35, .bool false), (42, undef), (47, undef)]) (fun _ => [bx (γ1 0) (#[.slice (some ⟨b3419, o3419, none⟩) n cap, .slice q m capv]) 25]) ?_ (fun hmx9 => ?_)
        ·
         rintro _ _
         refine a1 23 rfl ?_
         refine qo0 1 [] [1, 3, 32, 35, 42] [(48, undef)] ?_
         refine od_ ?_
         refine tk (m := 9) [24, 25, 26, 27, 29, 31] [] [1, 3] [(52, .bool false), (54, .pointer (some ⟨γ1 0, 0, none⟩)), (56, .int .i64 ((jd : Nat)))] ([]) #[true, true, true, true, true, true, true, true, true, true, true, true, true, true, true, true, true, true, true, true, true, true, true, true, true, true, true, true, false, true, false, true, false, false, false, false, false, false, false] al0 ?_
         exact wk (hmx11 () trivial) [1, 3, 52, 54, 56] [[_]] [0] rfl rfl
        refine any_cutX (V := Unit) (fun _ => True) 17 #[true, true, true, true, true, true, true, true, true, true, true, true, true, true, true, true, true, false, true, true, true, true, true, false, false, false, false, false, false, false, false, false, false, false, false, false, false, false, false] (fun _ => [(1, .pointer (some ⟨γ1 0, 0, none⟩)), (3, .int .i64 ((jd : Nat))), (32, .bool false), (35, .bool false), (41, undef), (47, undef)]) (fun _ => [bx (γ1 0) (#[.slice (some ⟨b3419, o3419, none⟩) n cap, .slice q m capv]) 25]) ?_ (fun hmx8 => ?_)
        ·
         rintro _ _
         refine any_fork [17, 23] (by kernel_rfl) (by simp) (each_cons _ rfl ?_ (each_cons _ rfl ?_ (each_nil)))
         ·
          refine qo0 1 [] [1, 3, 32, 35, 47] [(42, undef)] ?_
          refine od_ ?_
          exact wk (hmx9 () trivial) [1, 3, 32, 35, 42, 47] [[_]] [0] rfl rfl
         ·
          refine qo0 1 [] [1, 3, 32, 35, 41] [(48, undef)] ?_
          refine od_ ?_
          exact wk (hmx10 () trivial) [1, 3, 32, 35, 41, 48] [[_]] [0] rfl rfl
        refine any_cutX (V := Unit) (fun _ => True) 19 #[true, true, true, true, true, true, true, true, true, true, true, true, false, true, true, false, false, false, true, true, true, true, true, true, false, false, false, false, false, false, false, false, false, false, false, false, false, false, false] (fun _ => [(1, .pointer (some ⟨γ1 0, 0, none⟩)), (3, .int .i64 ((jd : Nat))), (32, .bool false), (35, .bool false), (36, undef), (39, undef), (48, undef)]) (fun _ => [bx (γ1 0) (#[.slice (some ⟨b3419, o3419, none⟩) n cap, .slice q m capv]) 25]) ?_ (fun hmx7 => ?_)
        ·
         rintro _ _
         refine a1 12 rfl ?_
         refine qo0 1 [] [1, 3, 32, 35, 39, 48] [(37, undef)] ?_
         refine od_ ?_
         refine tk (m := 16) [15, 16] [] [1, 3, 32, 35, 48] [(41, undef)] ([]) #[true, true, true, true, true, true, true, true, true, true, true, true, true, true, true, true, true, false, true, true, true, true, true, true, false, false, false, false, false, false, false, false, false, false, false, false, false, false, false] al0 ?_
         exact wk (hmx10 () trivial) [1, 3, 32, 35, 41, 48] [[_]] [0] rfl rfl
        refine any_cutX (V := Unit) (fun _ => True) 19 #[true, true, true, true, true, true, true, true, true, true, true, true, true, true, true, true, true, true, true, false, true, false, false, false, false, false, false, false, false, false, false, false, false, false, false, false, false, false, false] (fun _ => [(1, .pointer (some ⟨γ1 0, 0, none⟩)), (3, .int .i64 ((jd : Nat))), (32, .bool false), (35, .bool false), (42, undef), (43, undef), (45, undef)]) (fun _ => [bx (γ1 0) (#[.slice (some ⟨b3419, o3419, none⟩) n cap, .slice q m capv]) 25]) ?_ (fun hmx6 => ?_)
        ·
         rintro _ _
         refine a1 19 rfl ?_
         refine qo0 1 [] [1, 3, 32, 35, 42, 45] [(44, undef)] ?_
         refine od_ ?_
         refine tk (m := 16) [21, 22] [] [1, 3, 32, 35, 42] [(47, undef)] ([]) #[true, true, true, true, true, true, true, true, true, true, true, true, true, true, true, true, true, true, true, true, true, true, true, false, false, false, false, false, false, false, false, false, false, false, false, false, false, false, false] al0 ?_
         exact wk (hmx9 () trivial) [1, 3, 32, 35, 42, 47] [[_]] [0] rfl rfl
        refine any_cutX (V := Unit) (fun _ => True) 20 #[true, true, true, true, true, true, true, true, true, true, true, true, false, true, true, false, false, false, true, true, true, true, true, false, false, false, false, false, false, false, false, false, false, false, false, false, false, false, false] (fun _ => [(1, .pointer (some ⟨γ1 0, 0, none⟩)), (3, .int .i64 ((jd : Nat))), (32, .bool false), (35, .bool false), (36, undef), (39, undef), (47, undef)]) (fun _ => [bx (γ1 0) (#[.slice (some ⟨b3419, o3419, none⟩) n cap, .slice q m capv]) 25]) ?_ (fun hmx5 => ?_)
        ·
         rintro _ _
         refine any_fork [12, 23] (by kernel_rfl) (by simp) (each_cons _ rfl ?_ (each_cons _ rfl ?_ (each_nil)))
         ·
          refine qo0 1 [] [1, 3, 32, 35, 39, 47] [(37, undef)] ?_
          refine od_ ?_
          refine tk (m := 17) [15, 16] [] [1, 3, 32, 35, 47] [(41, undef)] ([]) #[true, true, true, true, true, true, true, true, true, true, true, true, true, true, true, true, true, false, true, true, true, true, true, false, false, false, false, false, false, false, false, false, false, false, false, false, false, false, false] al0 ?_
          exact wk (hmx8 () trivial) [1, 3, 32, 35, 41, 47] [[_]] [0] rfl rfl
         ·
          refine qo0 1 [] [1, 3, 32, 35, 36, 39] [(48, undef)] ?_
          refine od_ ?_
          exact wk (hmx7 () trivial) [1, 3, 32, 35, 36, 39, 48] [[_]] [0] rfl rfl
        refine any_cutX (V := Unit) (fun _ => True) 20 #[true, true, true, true, true, true, true, true, true, true, true, true, true, true, true, true, true, false, true, false, true, false, false, false, false, false, false, false, false, false, false, false, false, false, false, false, false, false, false] (fun _ => [(1, .pointer (some ⟨γ1 0, 0, none⟩)), (3, .int .i64 ((jd : Nat))), (32, .bool false), (35, .bool false), (41, undef), (43, undef), (45, undef)]) (fun _ => [bx (γ1 0) (#[.slice (some ⟨b3419, o3419, none⟩) n cap, .slice q m capv]) 25]) ?_ (fun hmx4 => ?_)
        ·
         rintro _ _
         refine any_fork [17, 19] (by kernel_rfl) (by simp) (each_cons _ rfl ?_ (each_cons _ rfl ?_ (each_nil)))
         ·
          refine qo0 1 [] [1, 3, 32, 35, 43, 45] [(42, undef)] ?_
          refine od_ ?_
          exact wk (hmx6 () trivial) [1, 3, 32, 35, 42, 43, 45] [[_]] [0] rfl rfl
         ·
          refine qo0 1 [] [1, 3, 32, 35, 41, 45] [(44, undef)] ?_
          refine od_ ?_
          refine tk (m := 17) [21, 22] [] [1, 3, 32, 35, 41] [(47, undef)] ([]) #[true, true, true, true, true, true, true, true, true, true, true, true, true, true, true, true, true, false, true, true, true, true, true, false, false, false, false, false, false, false, false, false, false, false, false, false, false, false, false] al0 ?_
          exact wk (hmx8 () trivial) [1, 3, 32, 35, 41, 47] [[_]] [0] rfl rfl
        refine any_cutX (V := Unit) (fun _ => True) 23 #[true, true, true, true, true, true, true, true, true, true, true, true, false, true, true, false, false, false, true, false, true, false, false, false, false, false, false, false, false, false, false, false, false, false, false, false, false, false, false] (fun _ => [(1, .pointer (some ⟨γ1 0, 0, none⟩)), (3, .int .i64 ((jd : Nat))), (32, .bool false), (35, .bool false), (36, undef), (39, undef), (43, undef), (45, undef)]) (fun _ => [bx (γ1 0) (#[.slice (some ⟨b3419, o3419, none⟩) n cap, .slice q m capv]) 25]) ?_ (fun hmx3 => ?_)
        ·
         rintro _ _
         refine any_fork [12, 19] (by kernel_rfl) (by simp) (each_cons _ rfl ?_ (each_cons _ rfl ?_ (each_nil)))
         ·
          refine qo0 1 [] [1, 3, 32, 35, 39, 43, 45] [(37, undef)] ?_
          refine od_ ?_
          refine tk (m := 20) [15, 16] [] [1, 3, 32, 35, 43, 45] [(41, undef)] ([]) #[true, true, true, true, true, true, true, true, true, true, true, true, true, true, true, true, true, false, true, false, true, false, false, false, false, false, false, false, false, false, false, false, false, false, false, false, false, false, false] al0 ?_
          exact wk (hmx4 () trivial) [1, 3, 32, 35, 41, 43, 45] [[_]] [0] rfl rfl
         ·
          refine qo0 1 [] [1, 3, 32, 35, 36, 39, 45] [(44, undef)] ?_
          refine od_ ?_
          refine tk (m := 20) [21, 22] [] [1, 3, 32, 35, 36, 39] [(47, undef)] ([]) #[true, true, true, true, true, true, true, true, true, true, true, true, false, true, true, false, false, false, true, true, true, true, true, false, false, false, false, false, false, false, false, false, false, false, false, false, false, false, false] al0 ?_
          exact wk (hmx5 () trivial) [1, 3, 32, 35, 36, 39, 47] [[_]] [0] rfl rfl
        refine any_cutX (V := Unit) (fun _ => True) 34 #[true, true, true, true, true, false, false, false, false, false, false, false, false, false, false, false, false, false, false, false, false, false, false, false, false, false, false, false, false, false, false, false, false, false, false, false, false, false, false] (fun _ => [(1, .pointer (some ⟨γ1 0, 0, none⟩)), (3, .int .i64 ((jd : Nat))), (29, .agg #[.int .i64 x15.id, .int .i64 x15.weight, .int .i64 x15.cap, .int .i64 x15.pool])]) (fun _ => [bx (γ1 0) (#[.slice (some ⟨b3419, o3419, none⟩) n cap, .slice q m capv]) 25]) ?_ (fun hmx2 => ?_)
        ·
         rintro _ _
         refine a1 5 rfl ?_
         refine cD (.bool true) Try.call32 (fun w hw => by have := rmay_d x15 w; rw [q16] at this; exact this) ?_
         refine od_ ?_
         refine tk (m := 23) [6, 7, 8, 9, 10, 11, 13, 14, 18, 20] [(9, .no)] [1, 3] [(32, .bool false), (35, .bool false), (36, undef), (39, undef), (43, undef), (45, undef)] ([¬ (((jd : Nat) : Int) > (0 : Int))]) #[true, true, true, true, true, true, true, true, true, true, true, true, false, true, true, false, false, false, true, false, true, false, false, false, false, false, false, false, false, false, false, false, false, false, false, false, false, false, false] (al1 q866) ?_
         exact wk (hmx3 () trivial) [1, 3, 32, 35, 36, 39, 43, 45] [[_]] [0] rfl rfl
        refine any_cutX (V := Unit) (fun _ => True) 35 #[true, true, true, true, false, false, false, false, false, false, false, false, false, false, false, false, false, false, false, false, false, false, false, false, false, false, false, false, false, false, false, false, false, false, false, false, false, false, false] (fun _ => [(1, .pointer (some ⟨γ1 0, 0, none⟩)), (3, .int .i64 ((jd : Nat))), (28, .pointer (some ⟨b3419, o3419 + jd * 4, none⟩))]) (fun _ => [bx (γ1 0) (#[.slice (some ⟨b3419, o3419, none⟩) n cap, .slice q m capv]) 25]) ?_ (fun hmx1 => ?_)
        ·
         rintro _ _
         refine a1 4 rfl ?_
         refine qo 1 [(4, .go (outs b3419 (o3419 + jd * 4) [.int .i64 x15.id, .int .i64 x15.weight, .int .i64 x15.cap, .int .i64 x15.pool]))] [1, 3] [(29, .agg #[.int .i64 x15.id, .int .i64 x15.weight, .int .i64 x15.cap, .int .i64 x15.pool])] (cellsP w b3419 (o3419 + jd * 4) [.int .i64 x15.id, .int .i64 x15.weight, .int .i64 x15.cap, .int .i64 x15.pool]) (rd_pre (hds.get hx15) _ rfl) ?_
         refine od_ ?_
         exact wk (hmx2 () trivial) [1, 3, 29] [[_]] [0] rfl rfl
        refine a1 1 rfl ?_
        refine qo0 1 [(1, .go (owns 0 0 1))] [1, 3, 27] [(26, .slice (some ⟨b3419, o3419, none⟩) n cap)] ?_
        refine od_ ?_
        refine tk (m := 35) [3] [(3, .at b3419 o3419 jd)] [1, 3] [(28, .pointer (some ⟨b3419, o3419 + jd * 4, none⟩))] ([(some ⟨b3419, o3419, none⟩ : Option Addr) = some ⟨b3419, o3419, none⟩, ((jd : Nat)) = ((jd : Nat) : Int), jd < n]) #[true, true, true, true, false, false, false, false, false, false, false, false, false, false, false, false, false, false, false, false, false, false, false, false, false, false, false, false, false, false, false, false, false, false, false, false, false, false, false] (al2 rfl (al2 rfl (al1 (by omega)))) ?_
        exact wk (hmx1 () trivial) [1, 3, 28] [[_]] [0] rfl rfl
       rintro ⟨Y4123, cq4123, q4123⟩ hO4123
       refine any_nil (by kernel_rfl) ?_
       refine ds_ (t_ (sq_ (qa0 [] [] [(2, .bool false)] (ds_ (rt ([]) (.bool false) ?_)))))
       exact fun w' hw => ⟨by rw [bad_dom hx15 (.inr (by omega))], hw.below⟩
      ·
       obtain ⟨b4268, o4268, rfl⟩ := hds.pos (i := jd) (by omega)
       refine at_any (by kernel_rfl) ?_
       refine tk (m := 37) [0, 2] [] [1, 3] [(25, .pointer (some ⟨γ1 0, 0, none⟩)), (27, .int .i64 ((jd : Nat)))] ([]) #[true, false, true, false, false, false, false, false, false, false, false, false, false, false, false, false, false, false, false, false, false, false, false, false, false, false, false, false, false, false, false, false, false, false, false, false, false, false, false] al0 ?_
       refine any_cutX (V := (List Ob) × (Nat) × (Option Addr)) (fun ⟨Y4972, cq4972, q4972⟩ => SlO 3 Y4972 q4972 (cntV vs x15.id) cq4972 (ofV vs x15.id)) 0 #[true, true, true, true, true, true, true, true, true, true, true, true, true, true, true, true, true, true, true, true, true, true, true, true, true, true, true, true, true, true, true, true, true, true, true, true, true, true, true] (fun ⟨Y4972, cq4972, q4972⟩ => [(1, .pointer (some ⟨γ1 0, 0, none⟩)), (3, .int .i64 ((jd : Nat))), (63, .bool false)]) (fun ⟨Y4972, cq4972, q4972⟩ => bx (γ1 0) (#[.slice (some ⟨b4268, o4268, none⟩) n cap, .slice q m capv]) 25 :: (Y4972 ++ [])) ?_ (fun hmx17 => ?_)
       rotate_left
       ·
        refine any_cutX (V := Unit) (fun _ => True) 4 #[true, true, true, true, true, true, true, true, true, true, true, true, true, true, true, true, true, true, true, true, true, true, true, true, true, true, true, true, true, true, true, true, true, true, true, false, false, false, false] (fun _ => [(1, .pointer (some ⟨γ1 0, 0, none⟩)), (3, .int .i64 ((jd : Nat))), (52, .bool false), (53, .agg #[.slice (some ⟨b4268, o4268, none⟩) n cap, .slice q m capv]), (59, .int .i64 x15.id)]) (fun _ => [bx (γ1 0) (#[.slice (some ⟨b4268, o4268, none⟩) n cap, .slice q m capv]) 25]) ?_ (fun hmx16 => ?_)
        ·
         rintro _ _
         refine a1 35 rfl ?_
         refine cP (fun v L' => ∃ q_ c_ Y_, v = .slice q_ (cntV vs x15.id) c_ ∧ L' = List.take 1 ([bx (γ1 0) (#[.slice (some ⟨b4268, o4268, none⟩) n cap, .slice q m capv]) 25]) ++ (Y_ ++ List.drop 1 ([bx (γ1 0) (#[.slice (some ⟨b4268, o4268, none⟩) n cap, .slice q m capv]) 25])) ∧ SlO 3 Y_ q_ (cntV vs x15.id) c_ (ofV vs x15.id)) Try.call20 (fun w hw => (rof_d (some ⟨b4268, o4268, none⟩) n cap ds q m capv vs x15.id w (hds.kept hw.below) hn (by omega) (hvs.kept hw.below) hm (by omega)).mono fun e w' ⟨q_, c_, Y_, he, hO, hb, hY⟩ => ⟨_, _, he, ⟨q_, c_, Y_, rfl, rfl, hO⟩, hw.join hb hY 1⟩) ?_
         rintro v4972 L4972 ⟨q4972, cq4972, Y4972, rfl, rfl, hO4972⟩
         refine od_ ?_
         refine tk (m := 0) [36, 37, 38] [(37, .no)] [1, 3] [(63, .bool false)] ([¬ (((cntV vs x15.id : Nat) : Int) > (8 : Int))]) #[true, true, true, true, true, true, true, true, true, true, true, true, true, true, true, true, true, true, true, true, true, true, true, true, true, true, true, true, true, true, true, true, true, true, true, true, true, true, true] (al1 q3417) ?_
         exact wk (hmx17 (Y4972, cq4972, q4972) hO4972) [1, 3, 63] [[_], _] [0, 1] rfl rfl
        refine any_cutX (V := Unit) (fun _ => True) 5 #[true, true, true, true, true, true, true, true, true, true, true, true, true, true, true, true, true, true, true, true, true, true, true, true, true, true, true, true, false, true, true, true, true, true, true, false, false, false, false] (fun _ => [(1, .pointer (some ⟨γ1 0, 0, none⟩)), (3, .int .i64 ((jd : Nat))), (52, .bool false), (59, .int .i64 x15.id)]) (fun _ => [bx (γ1 0) (#[.slice (some ⟨b4268, o4268, none⟩) n cap, .slice q m capv]) 25]) ?_ (fun hmx15 => ?_)
        ·
         rintro _ _
         refine a1 28 rfl ?_
         refine qo0 1 [(28, .go (owns 0 0 2))] [1, 3, 52, 59] [(53, .agg #[.slice (some ⟨b4268, o4268, none⟩) n cap, .slice q m capv])] ?_
         refine od_ ?_
         exact wk (hmx16 () trivial) [1, 3, 52, 53, 59] [[_]] [0] rfl rfl
        refine any_cutX (V := Unit) (fun _ => True) 5 #[true, true, true, true, true, true, true, true, true, true, true, true, true, true, true, true, true, true, true, true, true, true, true, true, true, true, true, true, true, true, true, true, true, true, false, false, false, false, false] (fun _ => [(1, .pointer (some ⟨γ1 0, 0, none⟩)), (3, .int .i64 ((jd : Nat))), (52, .bool false), (53, .agg #[.slice (some ⟨b4268, o4268, none⟩) n cap, .slice q m capv]), (58, .pointer (some ⟨b4268, o4268 + jd * 4, none⟩))]) (fun _ => [bx (γ1 0) (#[.slice (some ⟨b4268, o4268, none⟩) n cap, .slice q m capv]) 25]) ?_ (fun hmx14 => ?_)
        ·
         rintro _ _
         refine a1 34 rfl ?_
         refine qo 1 [(34, .go (outs b4268 (o4268 + jd * 4) [.int .i64 x15.id]))] [1, 3, 52, 53] [(59, .int .i64 x15.id)] (cellsP w b4268 (o4268 + jd * 4) [.int .i64 x15.id]) (rd_pre (hds.get hx15) _ rfl) ?_
         refine od_ ?_
         exact wk (hmx16 () trivial) [1, 3, 52, 53, 59] [[_]] [0] rfl rfl
        refine any_cutX (V := Unit) (fun _ => True) 6 #[true, true, true, true, true, true, true, true, true, true, true, true, true, true, true, true, true, true, true, true, true, true, true, true, true, true, true, true, false, true, true, true, true, true, false, false, false, false, false] (fun _ => [(1, .pointer (some ⟨γ1 0, 0, none⟩)), (3, .int .i64 ((jd : Nat))), (52, .bool false), (58, .pointer (some ⟨b4268, o4268 + jd * 4, none⟩))]) (fun _ => [bx (γ1 0) (#[.slice (some ⟨b4268, o4268, none⟩) n cap, .slice q m capv]) 25]) ?_ (fun hmx13 => ?_)
        ·
         rintro _ _
         refine any_fork [28, 34] (by kernel_rfl) (by simp) (each_cons _ rfl ?_ (each_cons _ rfl ?_ (each_nil)))
         ·
          refine qo0 1 [(28, .go (owns 0 0 2))] [1, 3, 52, 58] [(53, .agg #[.slice (some ⟨b4268, o4268, none⟩) n cap, .slice q m capv])] ?_
          refine od_ ?_
          exact wk (hmx14 () trivial) [1, 3, 52, 53, 58] [[_]] [0] rfl rfl
         ·
          refine qo 1 [(34, .go (outs b4268 (o4268 + jd * 4) [.int .i64 x15.id]))] [1, 3, 52] [(59, .int .i64 x15.id)] (cellsP w b4268 (o4268 + jd * 4) [.int .i64 x15.id]) (rd_pre (hds.get hx15) _ rfl) ?_
          refine od_ ?_
          exact wk (hmx15 () trivial) [1, 3, 52, 59] [[_]] [0] rfl rfl
        refine any_cutX (V := Unit) (fun _ => True) 8 #[true, true, true, true, true, true, true, true, true, true, true, true, true, true, true, true, true, true, true, true, true, true, true, true, true, true, true, true, true, true, false, true, false, false, false, false, false, false, false] (fun _ => [(1, .pointer (some ⟨γ1 0, 0, none⟩)), (3, .int .i64 ((jd : Nat))), (52, .bool false), (53, .agg #[.slice (some ⟨b4268, o4268, none⟩) n cap, .slice q m capv]), (54, .pointer (some ⟨γ1 0, 0, none⟩)), (56, .int .i64 ((jd : Nat)))]) (fun _ => [bx (γ1 0) (#[.slice (some ⟨b4268, o4268, none⟩) n cap, .slice q m capv]) 25]) ?_ (fun hmx12 => ?_)
        ·
         rintro _ _
         refine a1 30 rfl ?_
         refine qo0 1 [(30, .go (owns 0 0 1))] [1, 3, 52, 53, 56] [(55, .slice (some ⟨b4268, o4268, none⟩) n cap)] ?_
         refine od_ ?_
         refine tk (m := 5) [32, 33] [(32, .at b4268 o4268 jd)] [1, 3, 52, 53] [(58, .pointer (some ⟨b4268, o4268 + jd * 4, none⟩))] ([(some ⟨b4268, o4268, none⟩ : Option Addr) = some ⟨b4268, o4268, none⟩, ((jd : Nat)) = ((jd : Nat) : Int), jd < n]) #[true, true, true, true, true, true, true, true, true, true, true, true, true, true, true, true, true, true, true, true, true, true, true, true, true, true, true, true, true, true, true, true, true, true, false, false, false, false, false] (al2 rfl (al2 rfl (al1 (by omega)))) ?_
         exact wk (hmx14 () trivial) [1, 3, 52, 53, 58] [[_]] [0] rfl rfl
        refine any_cutX (V := Unit) (fun _ => True) 9 #[true, true, true, true, true, true, true, true, true, true, true, true, true, true, true, true, true, true, true, true, true, true, true, true, true, true, true, true, false, true, false, true, false, false, false, false, false, false, false] (fun _ => [(1, .pointer (some ⟨γ1 0, 0, none⟩)), (3, .int .i64 ((jd : Nat))), (52, .bool false), (54, .pointer (some ⟨γ1 0, 0, none⟩)), (56, .int .i64 ((jd : Nat)))]) (fun _ => [bx (γ1 0) (#[.slice (some ⟨b4268, o4268, none⟩) n cap, .slice q m capv]) 25]) ?_ (fun hmx11 => ?_)
        ·
         rintro _ _
         refine any_fork [28, 30] (by kernel_rfl) (by simp) (each_cons _ rfl ?_ (each_cons _ rfl ?_ (each_nil)))
         ·
          refine qo0 1 [(28, .go (owns 0 0 2))] [1, 3, 52, 54, 56] [(53, .agg #[.slice (some ⟨b4268, o4268, none⟩) n cap, .slice q m capv])] ?_
          refine od_ ?_
          exact wk (hmx12 () trivial) [1, 3, 52, 53, 54, 56] [[_]] [0] rfl rfl
         ·
          refine qo0 1 [(30, .go (owns 0 0 1))] [1, 3, 52, 56] [(55, .slice (some ⟨b4268, o4268, none⟩) n cap)] ?_
          refine od_ ?_
          refine tk (m := 6) [32, 33] [(32, .at b4268 o4268 jd)] [1, 3, 52] [(58, .pointer (some ⟨b4268, o4268 + jd * 4, none⟩))] ([(some ⟨b4268, o4268, none⟩ : Option Addr) = some ⟨b4268, o4268, none⟩, ((jd : Nat)) = ((jd : Nat) : Int), jd < n]) #[true, true, true, true, true, true, true, true, true, true, true, true, true, true, true, true, true, true, true, true, true, true, true, true, true, true, true, true, false, true, true, true, true, true, false, false, false, false, false] (al2 rfl (al2 rfl (al1 (by omega)))) ?_
          exact wk (hmx13 () trivial) [1, 3, 52, 58] [[_]] [0] rfl rfl
        refine any_cutX (V := Unit) (fun _ => True) 16 #[true, true, true, true, true, true, true, true, true, true, true, true, true, true, true, true, true, false, true, true, true, true, true, true, false, false, false, false, false, false, false, false, false, false, false, false, false, false, false] (fun _ => [(1, .pointer (some ⟨γ1 0, 0, none⟩)), (3, .int .i64 ((jd : Nat))), (32, .bool false), (35, .bool false), (41, undef), (48, undef)]) (fun _ => [bx (γ1 0) (#[.slice (some ⟨b4268, o4268, none⟩) n cap, .slice q m capv]) 25]) ?_ (fun hmx10 => ?_)
        ·
         rintro _ _
         refine a1 17 rfl ?_
         refine qo0 1 [] [1, 3, 32, 35, 48] [(42, undef)] ?_
         refine od_ ?_
         refine tk (m := 9) [24, 25, 26, 27, 29, 31] [] [1, 3] [(52, .bool false), (54, .pointer (some ⟨γ1 0, 0, none⟩)), (56, .int .i64 ((jd : Nat)))] ([]) #[true, true, true, true, true, true, true, true, true, true, true, true, true, true, true, true, true, true, true, true, true, true, true, true, true, true, true, true, false, true, false, true, false, false, false, false, false, false, false] al0 ?_
         exact wk (hmx11 () trivial) [1, 3, 52, 54, 56] [[_]] [0] rfl rfl
        refine any_cutX (V := Unit) (fun _ => True) 16 #[true, true, true, true, true, true, true, true, true, true, true, true, true, true, true, true, true, true, true, true, true, true, true, false, false, false, false, false, false, false, false, false, false, false, false, false, false, false, false] (fun _ => [(1, .pointer (some ⟨γ1 0, 0, none⟩)), (3, .int .i64 ((jd : Nat))), (32, .bool false), (35, .bool false), (42, undef), (47, undef)]) (fun _ => [bx (γ1 0) (#[.slice (some ⟨b4268, o4268, none⟩) n cap, .slice q m capv]) 25]) ?_ (fun hmx9 => ?_)
        ·
         rintro _ _
         refine a1 23 rfl ?_
         refine qo0 1 [] [1, 3, 32, 35, 42] [(48, undef)] ?_
         refine od_ ?_
         refine tk (m := 9) [24, 25, 26, 27, 29, 31] [] [1, 3] [(52, .bool false), (54, .pointer (some ⟨γ1 0, 0, none⟩)), (56, .int .i64 ((jd : Nat)))] ([]) #[true, true, true, true, true, true, true, true, true, true, true, true, true, true, true, true, true, true, true, true, true, true, true, true, true, true, true, true, false, true, false, true, false, false, false, false, false, false, false] al0 ?_
         exact wk (hmx11 () trivial) [1, 3, 52, 54, 56] [[_]] [0] rfl rfl
        refine any_cutX (V := Unit) (fun _ => True) 17 #[true, true, true, true, true, true, true, true, true, true, true, true, true, true, true, true, true, false, true, true, true, true, true, false, false, false, false, false, false, false, false, false, false, false, false, false, false, false, false] (fun _ => [(1, .pointer (some ⟨γ1 0, 0, none⟩)), (3, .int .i64 ((jd : Nat))), (32, .bool false), (35, .bool false), (41, undef), (47, undef)]) (fun _ => [bx (γ1 0) (#[.slice (some ⟨b4268, o4268, none⟩) n cap, .slice q m capv]) 25]) ?_ (fun hmx8 => ?_)
        ·
         rintro _ _
         refine any_fork [17, 23] (by kernel_rfl) (by simp) (each_cons _ rfl ?_ (each_cons _ rfl ?_ (each_nil)))
         ·
          refine qo0 1 [] [1, 3, 32, 35, 47] [(42, undef)] ?_
          refine od_ ?_
          exact wk (hmx9 () trivial) [1, 3, 32, 35, 42, 47] [[_]] [0] rfl rfl
         ·
          refine qo0 1 [] [1, 3, 32, 35, 41] [(48, undef)] ?_
          refine od_ ?_
          exact wk (hmx10 () trivial) [1, 3, 32, 35, 41, 48] [[_]] [0] rfl rfl
        refine any_cutX (V := Unit) (fun _ => True) 19 #[true, true, true, true, true, true, true, true, true, true, true, true, false, true, true, false, false, false, true, true, true, true, true, true, false, false, false, false, false, false, false, false, false, false, false, false, false, false, false] (fun _ => [(1, .pointer (some ⟨γ1 0, 0, none⟩)), (3, .int .i64 ((jd : Nat))), (32, .bool false), (35, .bool false), (36, undef), (39, undef), (48, undef)]) (fun _ => [bx (γ1 0) (#[.slice (some ⟨b4268, o4268, none⟩) n cap, .slice q m capv]) 25]) ?_ (fun hmx7 => ?_)
        ·
         rintro _ _
         refine a1 12 rfl ?_
         refine qo0 1 [] [1, 3, 32, 35, 39, 48] [(37, undef)] ?_
         refine od_ ?_
         refine tk (m := 16) [15, 16] [] [1, 3, 32, 35, 48] [(41, undef)] ([]) #[true, true, true, true, true, true, true, true, true, true, true, true, true, true, true, true, true, false, true, true, true, true, true, true, false, false, false, false, false, false, false, false, false, false, false, false, false, false, false] al0 ?_
         exact wk (hmx10 () trivial) [1, 3, 32, 35, 41, 48] [[_]] [0] rfl rfl
        refine any_cutX (V := Unit) (fun _ => True) 19 #[true, true, true, true, true, true, true, true, true, true, true, true, true, true, true, true, true, true, true, false, true, false, false, false, false, false, false, false, false, false, false, false, false, false, false, false, false, false, false] (fun _ => [(1, .pointer (some ⟨γ1 0, 0, none⟩)), (3, .int .i64 ((jd : Nat))), (32, .bool false), (35, .bool false), (42, undef), (43, undef), (45, undef)]) (fun _ => [bx (γ1 0) (#[.slice (some ⟨b4268, o4268, none⟩) n cap, .slice q m capv]) 25]) ?_ (fun hmx6 => ?_)
        ·
         rintro _ _
         refine a1 19 rfl ?_
         refine qo0 1 [] [1, 3, 32, 35, 42, 45] [(44, undef)] ?_
         refine od_ ?_
         refine tk (m := 16) [21, 22] [] [1, 3, 32, 35, 42] [(47, undef)] ([]) #[true, true, true, true, true, true, true, true, true, true, true, true, true, true, true, true, true, true, true, true, true, true, true, false, false, false, false, false, false, false, false, false, false, false, false, false, false, false, false] al0 ?_
         exact wk (hmx9 () trivial) [1, 3, 32, 35, 42, 47] [[_]] [0] rfl rfl
        refine any_cutX (V := Unit) (fun _ => True) 20 #[true, true, true, true, true, true, true, true, true, true, true, true, false, true, true, false, false, false, true, true, true, true, true, false, false, false, false, false, false, false, false, false, false, false, false, false, false, false, false] (fun _ => [(1, .pointer (some ⟨γ1 0, 0, none⟩)), (3, .int .i64 ((jd : Nat))), (32, .bool false), (35, .bool false), (36, undef), (39, undef), (47, undef)]) (fun _ => [bx (γ1 0) (#[.slice (some ⟨b4268, o4268, none⟩) n cap, .slice q m capv]) 25]) ?_ (fun hmx5 => ?_)
        ·
         rintro _ _
         refine any_fork [12, 23] (by kernel_rfl) (by simp) (each_cons _ rfl ?_ (each_cons _ rfl ?_ (each_nil)))
         ·
          refine qo0 1 [] [1, 3, 32, 35, 39, 47] [(37, undef)] ?_
          refine od_ ?_
          refine tk (m := 17) [15, 16] [] [1, 3, 32, 35, 47] [(41, undef)] ([]) #[true, true, true, true, true, true, true, true, true, true, true, true, true, true, true, true, true, false, true, true, true, true, true, false, false, false, false, false, false, false, false, false, false, false, false, false, false, false, false] al0 ?_
          exact wk (hmx8 () trivial) [1, 3, 32, 35, 41, 47] [[_]] [0] rfl rfl
         ·
          refine qo0 1 [] [1, 3, 32, 35, 36, 39] [(48, undef)] ?_
          refine od_ ?_
          exact wk (hmx7 () trivial) [1, 3, 32, 35, 36, 39, 48] [[_]] [0] rfl rfl
        refine any_cutX (V := Unit) (fun _ => True) 20 #[true, true, true, true, true, true, true, true, true, true, true, true, true, true, true, true, true, false, true, false, true, false, false, false, false, false, false, false, false, false, false, false, false, false, false, false, false, false, false] (fun _ => [(1, .pointer (some ⟨γ1 0, 0, none⟩)), (3, .int .i64 ((jd : Nat))), (32, .bool false), (35, .bool false), (41, undef), (43, undef), (45, undef)]) (fun _ => [bx (γ1 0) (#[.slice (some ⟨b4268, o4268, none⟩) n cap, .slice q m capv]) 25]) ?_ (fun hmx4 => ?_)
        ·
         rintro _ _
         refine any_fork [17, 19] (by kernel_rfl) (by simp) (each_cons _ rfl ?_ (each_cons _ rfl ?_ (each_nil)))
         ·
          refine qo0 1 [] [1, 3, 32, 35, 43, 45] [(42, undef)] ?_
          refine od_ ?_
          exact wk (hmx6 () trivial) [1, 3, 32, 35, 42, 43, 45] [[_]] [0] rfl rfl
         ·
          refine qo0 1 [] [1, 3, 32, 35, 41, 45] [(44, undef)] ?_
          refine od_ ?_
          refine tk (m := 17) [21, 22] [] [1, 3, 32, 35, 41] [(47, undef)] ([]) #[true, true, true, true, true, true, true, true, true, true, true, true, true, true, true, true, true, false, true, true, true, true, true, false, false, false, false, false, false, false, false, false, false, false, false, false, false, false, false] al0 ?_
          exact wk (hmx8 () trivial) [1, 3, 32, 35, 41, 47] [[_]] [0] rfl rfl
        refine any_cutX (V := Unit) (fun _ => True) 23 #[true, true, true, true, true, true, true, true, true, true, true, true, false, true, true, false, false, false, true, false, true, false, false, false, false, false, false, false, false, false, false, false, false, false, false, false, false, false, false] (fun _ => [(1, .pointer (some ⟨γ1 0, 0, none⟩)), (3, .int .i64 ((jd : Nat))), (32, .bool false), (35, .bool false), (36, undef), (39, undef), (43, undef), (45, undef)]) (fun _ => [bx (γ1 0) (#[.slice (some ⟨b4268, o4268, none⟩) n cap, .slice q m capv]) 25]) ?_ (fun hmx3 => ?_)
        ·
         rintro _ _
         refine any_fork [12, 19] (by kernel_rfl) (by simp) (each_cons _ rfl ?_ (each_cons _ rfl ?_ (each_nil)))
         ·
          refine qo0 1 [] [1, 3, 32, 35, 39, 43, 45] [(37, undef)] ?_
          refine od_ ?_
          refine tk (m := 20) [15, 16] [] [1, 3, 32, 35, 43, 45] [(41, undef)] ([]) #[true, true, true, true, true, true, true, true, true, true, true, true, true, true, true, true, true, false, true, false, true, false, false, false, false, false, false, false, false, false, false, false, false, false, false, false, false, false, false] al0 ?_
          exact wk (hmx4 () trivial) [1, 3, 32, 35, 41, 43, 45] [[_]] [0] rfl rfl
         ·
          refine qo0 1 [] [1, 3, 32, 35, 36, 39, 45] [(44, undef)] ?_
          refine od_ ?_
          refine tk (m := 20) [21, 22] [] [1, 3, 32, 35, 36, 39] [(47, undef)] ([]) #[true, true, true, true, true, true, true, true, true, true, true, true, false, true, true, false, false, false, true, true, true, true, true, false, false, false, false, false, false, false, false, false, false, false, false, false, false, false, false] al0 ?_
          exact wk (hmx5 () trivial) [1, 3, 32, 35, 36, 39, 47] [[_]] [0] rfl rfl
        refine any_cutX (V := Unit) (fun _ => True) 34 #[true, true, true, true, true, false, false, false, false, false, false, false, false, false, false, false, false, false, false, false, false, false, false, false, false, false, false, false, false, false, false, false, false, false, false, false, false, false, false] (fun _ => [(1, .pointer (some ⟨γ1 0, 0, none⟩)), (3, .int .i64 ((jd : Nat))), (29, .agg #[.int .i64 x15.id, .int .i64 x15.weight, .int .i64 x15.cap, .int .i64 x15.pool])]) (fun _ => [bx (γ1 0) (#[.slice (some ⟨b4268, o4268, none⟩) n cap, .slice q m capv]) 25]) ?_ (fun hmx2 => ?_)
        ·
         rintro _ _
         refine a1 5 rfl ?_
         refine cD (.bool true) Try.call32 (fun w hw => by have := rmay_d x15 w; rw [q16] at this; exact this) ?_
         refine od_ ?_
         refine tk (m := 23) [6, 7, 8, 9, 10, 11, 13, 14, 18, 20] [(9, .no)] [1, 3] [(32, .bool false), (35, .bool false), (36, undef), (39, undef), (43, undef), (45, undef)] ([¬ (((jd : Nat) : Int) > (0 : Int))]) #[true, true, true, true, true, true, true, true, true, true, true, true, false, true, true, false, false, false, true, false, true, false, false, false, false, false, false, false, false, false, false, false, false, false, false, false, false, false, false] (al1 q866) ?_
         exact wk (hmx3 () trivial) [1, 3, 32, 35, 36, 39, 43, 45] [[_]] [0] rfl rfl
        refine any_cutX (V := Unit) (fun _ => True) 35 #[true, true, true, true, false, false, false, false, false, false, false, false, false, false, false, false, false, false, false, false, false, false, false, false, false, false, false, false, false, false, false, false, false, false, false, false, false, false, false] (fun _ => [(1, .pointer (some ⟨γ1 0, 0, none⟩)), (3, .int .i64 ((jd : Nat))), (28, .pointer (some ⟨b4268, o4268 + jd * 4, none⟩))]) (fun _ => [bx (γ1 0) (#[.slice (some ⟨b4268, o4268, none⟩) n cap, .slice q m capv]) 25]) ?_ (fun hmx1 => ?_)
        ·
         rintro _ _
         refine a1 4 rfl ?_
         refine qo 1 [(4, .go (outs b4268 (o4268 + jd * 4) [.int .i64 x15.id, .int .i64 x15.weight, .int .i64 x15.cap, .int .i64 x15.pool]))] [1, 3] [(29, .agg #[.int .i64 x15.id, .int .i64 x15.weight, .int .i64 x15.cap, .int .i64 x15.pool])] (cellsP w b4268 (o4268 + jd * 4) [.int .i64 x15.id, .int .i64 x15.weight, .int .i64 x15.cap, .int .i64 x15.pool]) (rd_pre (hds.get hx15) _ rfl) ?_
         refine od_ ?_
         exact wk (hmx2 () trivial) [1, 3, 29] [[_]] [0] rfl rfl
        refine a1 1 rfl ?_
        refine qo0 1 [(1, .go (owns 0 0 1))] [1, 3, 27] [(26, .slice (some ⟨b4268, o4268, none⟩) n cap)] ?_
        refine od_ ?_
        refine tk (m := 35) [3] [(3, .at b4268 o4268 jd)] [1, 3] [(28, .pointer (some ⟨b4268, o4268 + jd * 4, none⟩))] ([(some ⟨b4268, o4268, none⟩ : Option Addr) = some ⟨b4268, o4268, none⟩, ((jd : Nat)) = ((jd : Nat) : Int), jd < n]) #[true, true, true, true, false, false, false, false, false, false, false, false, false, false, false, false, false, false, false, false, false, false, false, false, false, false, false, false, false, false, false, false, false, false, false, false, false, false, false] (al2 rfl (al2 rfl (al1 (by omega)))) ?_
        exact wk (hmx1 () trivial) [1, 3, 28] [[_]] [0] rfl rfl
       rintro ⟨Y4972, cq4972, q4972⟩ hO4972
       refine any_nil (by kernel_rfl) ?_
       refine ds_ (f_ (at_skip (done_block (ds_ (qa [(1, .fit)] [1] [(3, .int .i64 ((jd + 1 : Nat)))] ([Fit .i64 ((jd + 1 : Nat))]) (al1 (fit64 (by omega) (by omega))) (Done.drop (L' := [bx (γ1 0) (#[.slice (some ⟨b4268, o4268, none⟩) n cap, .slice q m capv]) 25]) ?_ (List.Sublist.cons_cons _ (List.sublist_append_right _ _))))))))
       exact dr [1, 3] (jd + 1) ⟨by omega, ris_take_on hRd hx15 (.inl (by omega)), all_on hAd hx15 ⟨q16, by omega⟩⟩
   ·
    refine qa [(2, .go (owns 0 0 1)), (4, .no)] [1, 3] [(22, .bool false)] ([¬ (((jd : Nat) : Int) < ((n : Nat) : Int))]) (al1 q13) (ds_ (f_ (at_leave _ rfl (ds_ (sq_ (sq_ (qa0 [] [1] [(4, .int .i64 0)] (ds_ (at_block (at_loop (α := Nat) [1, 4] (fun jv => [(1, .pointer (some ⟨γ1 0, 0, none⟩)), (4, .int .i64 ((jv : Nat)))]) (fun jv => [bx (γ1 0) (#[.slice p n cap, .slice q m capv]) 25]) (fun jv => jv ≤ m ∧ Ris Vcp.id (vs.take jv) ∧ ∀ y ∈ vs.take jv, 1 ≤ y.id ∧ y.id ≤ 16 ∧ maskB y.hard y.soft = true ∧ ∃ d ∈ ds, d.id = y.dom) (fun jv => m - jv) 0 (by kernel_rfl) rfl ⟨Nat.zero_le _, ris_take0, all_take0⟩ ?_))))))))))
    rintro jv
    rintro ⟨hjv, hRv, hAv⟩
    refine sq_ (sq_ ?_)
    by_cases q5119 : ((jv : Nat) : Int) < ((m : Nat) : Int)
    ·
     refine qa [(2, .go (owns 0 1 1)), (4, .yes)] [1, 4] [(68, .bool true)] ([((jv : Nat) : Int) < ((m : Nat) : Int)]) (al1 q5119) (ds_ (t_ (at_skip (ds_ (sq_ (at_block (sq_ ?_)))))))
     obtain ⟨b5122, o5122, rfl⟩ := hvs.pos (i := jv) (by omega)
     obtain ⟨x5124, hx5124⟩ := get_some (l := vs) (m := jv) (by omega)
     refine ma [(1, .go (owns 0 1 1)), (3, .at b5122 o5122 jv), (4, .go (outs b5122 (o5122 + jv * 4) [.int .i64 x5124.id, .int .i64 x5124.dom, .int .u32 x5124.hard, .int .u32 x5124.soft])), (6, .go (owns 0 0 4))] [1, 4] (fun γ5125 => [(5, .pointer (some ⟨γ5125 0, 0, none⟩))]) (fun γ5125 L => bx (γ5125 0) (#[.int .i64 x5124.id, .int .i64 x5124.dom, .int .u32 x5124.hard, .int .u32 x5124.soft]) 43 :: L) (fun γ5125 => [(some ⟨b5122, o5122, none⟩ : Option Addr) = some ⟨b5122, o5122, none⟩, ((jv : Nat)) = ((jv : Nat) : Int), jv < m] ++ (cellsP w b5122 (o5122 + jv * 4) [.int .i64 x5124.id, .int .i64 x5124.dom, .int .u32 x5124.hard, .int .u32 x5124.soft])) (fun γ5125 => (alA (al2 rfl (al2 rfl (al1 (by omega)))) (rd_pre (hvs.get hx5124) _ rfl))) (fun γ5125 => ds_ (sq_ (ao_ (qo0 3 [(0, .go (owns 1 0 2)), (2, .go (owns 0 1 1))] [1, 4, 5] [(77, .agg #[.slice p n cap, .slice (some ⟨b5122, o5122, none⟩) m capv]), (79, .int .i64 x5124.dom)] (cD (.tuple #[.agg #[.int .i64 ((rowD (getK Dom.id ds x5124.dom)).id), .int .i64 ((rowD (getK Dom.id ds x5124.dom)).weight), .int .i64 ((rowD (getK Dom.id ds x5124.dom)).cap), .int .i64 ((rowD (getK Dom.id ds x5124.dom)).pool)], .bool ((getK Dom.id ds x5124.dom).isSome)]) Try.call22 (fun w hw => by have := rdom_d p n cap ds (some ⟨b5122, o5122, none⟩) m capv vs x5124.dom w (hds.kept hw.below) hn (by omega) (hvs.kept hw.below) hm (by omega); rw [optD_row] at this; exact this) (mo0 6 [(8, .go (owns 0 0 4))] [1, 4, 5] (fun γ5127 => [(7, .bool ((getK Dom.id ds x5124.dom).isSome))]) (fun γ5127 L => bx (γ5127 0) (#[.int .i64 ((rowD (getK Dom.id ds x5124.dom)).id), .int .i64 ((rowD (getK Dom.id ds x5124.dom)).weight), .int .i64 ((rowD (getK Dom.id ds x5124.dom)).cap), .int .i64 ((rowD (getK Dom.id ds x5124.dom)).pool)]) 32 :: L) (fun γ5127 => on_ (ds_ (sq_ ?_)))))))))
     by_cases q5129 : (x5124.id : Int) < (1 : Int)
     ·
      refine cq [(1, .go (owns 1 0 1)), (2, .yes)] [1, 4] [(116, .bool true)] ([(x5124.id : Int) < (1 : Int)]) rfl (by kernel_rfl) (by kernel_rfl) (by kernel_rfl) (al1 q5129) (ds_ (t_ (sq_ (qa0 [] [] [(2, .bool false)] (ds_ (rt ([]) (.bool false) ?_))))))
      exact fun w' hw => ⟨by rw [bad_vcp hx5124 (.inl (by omega))], hw.below⟩
     ·
      by_cases q5133 : (x5124.id : Int) > (16 : Int)
      ·
       refine cq [(1, .go (owns 1 0 1)), (2, .no), (5, .go (owns 1 0 1)), (6, .yes)] [1, 4] [(116, .bool true)] ([¬ ((x5124.id : Int) < (1 : Int))] ++ ([(x5124.id : Int) > (16 : Int)])) rfl (by kernel_rfl) (by kernel_rfl) (by kernel_rfl) (alA (al1 q5129) (al1 q5133)) (ds_ (t_ (sq_ (qa0 [] [] [(2, .bool false)] (ds_ (rt ([]) (.bool false) ?_))))))
       exact fun w' hw => ⟨by rw [bad_vcp hx5124 (.inr (.inl (by omega)))], hw.below⟩
      ·
       rcases q5137 : (getK Dom.id ds x5124.dom).isSome with _ | _
       ·
        refine cq [(1, .go (owns 1 0 1)), (2, .no), (5, .go (owns 1 0 1)), (6, .no)] [1, 4] [(116, .bool true)] ([¬ ((x5124.id : Int) < (1 : Int))] ++ ([¬ ((x5124.id : Int) > (16 : Int))])) rfl (by kernel_rfl) (by kernel_rfl) (by kernel_rfl) (alA (al1 q5129) (al1 q5133)) (ds_ (t_ (sq_ (qa0 [] [] [(2, .bool false)] (ds_ (rt ([]) (.bool false) ?_))))))
        exact fun w' hw => ⟨by rw [bad_vcp hx5124 (.inr (.inr (.inl q5137)))], hw.below⟩
       ·
        refine at_calm rfl (by kernel_rfl) (by kernel_rfl) ?_
        refine cm 15 [(1, .go (owns 1 0 1)), (2, .no), (5, .go (owns 1 0 1)), (6, .no), (14, .go (owns 1 2 2))] [1, 4, 5] [(95, .bool false), (97, .agg #[.int .u32 x5124.hard, .int .u32 x5124.soft])] ([¬ ((x5124.id : Int) < (1 : Int))] ++ ([¬ ((x5124.id : Int) > (16 : Int))])) (by kernel_rfl) rfl (alA (al1 q5129) (al1 q5133)) ?_
        rcases q5141 : maskB x5124.hard x5124.soft with _ | _
        ·
         refine cK (.bool false) Try.call21 (fun w hw => by have := rmask_d x5124.hard x5124.soft w (hr x5124 (List.mem_of_getElem? hx5124)).1 (hr x5124 (List.mem_of_getElem? hx5124)).2; rw [q5141] at this; exact this) ?_
         refine cm 18 [] [1, 4] [(116, .bool true)] ([]) (by kernel_rfl) rfl al0 ?_
         refine calm_nil' ?_
         refine ds_ (t_ (sq_ (qa0 [] [] [(2, .bool false)] (ds_ (rt ([]) (.bool false) ?_)))))
         exact fun w' hw => ⟨by rw [bad_vcp hx5124 (.inr (.inr (.inr q5141)))], hw.below⟩
        ·
         refine cK (.bool true) Try.call21 (fun w hw => by have := rmask_d x5124.hard x5124.soft w (hr x5124 (List.mem_of_getElem? hx5124)).1 (hr x5124 (List.mem_of_getElem? hx5124)).2; rw [q5141] at this; exact this) ?_
         by_cases q5145 : ((jv : Nat) : Int) > (0 : Int)
         ·
          obtain ⟨x5147, hx5147⟩ := get_some (l := vs) (m := jv - 1) (by omega)
          by_cases q5149 : (x5147.id : Int) ≥ (x5124.id : Int)
          ·
           refine cm 18 [(20, .yes), (23, .go (owns 2 1 1)), (25, .fit), (26, .at b5122 o5122 (jv - 1)), (28, .go (outs b5122 (o5122 + (jv - 1) * 4) [.int .i64 x5147.id])), (30, .go (owns 1 0 1)), (31, .yes)] [1, 4] [(116, .bool true)] ([((jv : Nat) : Int) > (0 : Int)] ++ ([Fit .i64 (((jv : Nat)) - 1)] ++ ([(some ⟨b5122, o5122, none⟩ : Option Addr) = some ⟨b5122, o5122, none⟩, (((jv : Nat)) - 1) = ((jv - 1 : Nat) : Int), jv - 1 < m] ++ (cellsP w b5122 (o5122 + (jv - 1) * 4) [.int .i64 x5147.id] ++ ([(x5147.id : Int) ≥ (x5124.id : Int)]))))) (by kernel_rfl) rfl (alA (al1 q5145) (alA (al1 (fit64 (by omega) (by omega))) (alA (al2 rfl (al2 (by omega) (al1 (by omega)))) (alA (rd_pre (hvs.get hx5147) _ rfl) (al1 q5149))))) ?_
           refine calm_nil' ?_
           refine ds_ (t_ (sq_ (qa0 [] [] [(2, .bool false)] (ds_ (rt ([]) (.bool false) ?_)))))
           exact fun w' hw => ⟨by rw [bad_vrise hx5124 hx5147 (by omega) (by omega)], hw.below⟩
          ·
           refine cm 18 [(20, .yes), (23, .go (owns 2 1 1)), (25, .fit), (26, .at b5122 o5122 (jv - 1)), (28, .go (outs b5122 (o5122 + (jv - 1) * 4) [.int .i64 x5147.id])), (30, .go (owns 1 0 1)), (31, .no)] [1, 4] [(116, .bool false)] ([((jv : Nat) : Int) > (0 : Int)] ++ ([Fit .i64 (((jv : Nat)) - 1)] ++ ([(some ⟨b5122, o5122, none⟩ : Option Addr) = some ⟨b5122, o5122, none⟩, (((jv : Nat)) - 1) = ((jv - 1 : Nat) : Int), jv - 1 < m] ++ (cellsP w b5122 (o5122 + (jv - 1) * 4) [.int .i64 x5147.id] ++ ([¬ ((x5147.id : Int) ≥ (x5124.id : Int))]))))) (by kernel_rfl) rfl (alA (al1 q5145) (alA (al1 (fit64 (by omega) (by omega))) (alA (al2 rfl (al2 (by omega) (al1 (by omega)))) (alA (rd_pre (hvs.get hx5147) _ rfl) (al1 q5149))))) ?_
           refine calm_nil' ?_
           refine ds_ (f_ (at_skip (done_block (ds_ (qa [(1, .fit)] [1] [(4, .int .i64 ((jv + 1 : Nat)))] ([Fit .i64 ((jv + 1 : Nat))]) (al1 (fit64 (by omega) (by omega))) (Done.drop (L' := [bx (γ1 0) (#[.slice p n cap, .slice (some ⟨b5122, o5122, none⟩) m capv]) 25]) ?_ (List.Sublist.cons _ (List.Sublist.cons _ (List.Sublist.cons_cons _ (List.Sublist.refl _))))))))))
           exact dr [1, 4] (jv + 1) ⟨by omega, ris_take_on hRv hx5124 (.inr ⟨x5147, hx5147, by omega⟩), all_on hAv hx5124 ⟨by omega, by omega, q5141, dom_of_some q5137⟩⟩
         ·
          refine cm 18 [(20, .no)] [1, 4] [(116, .bool false)] ([¬ (((jv : Nat) : Int) > (0 : Int))]) (by kernel_rfl) rfl (al1 q5145) ?_
          refine calm_nil' ?_
          refine ds_ (f_ (at_skip (done_block (ds_ (qa [(1, .fit)] [1] [(4, .int .i64 ((jv + 1 : Nat)))] ([Fit .i64 ((jv + 1 : Nat))]) (al1 (fit64 (by omega) (by omega))) (Done.drop (L' := [bx (γ1 0) (#[.slice p n cap, .slice (some ⟨b5122, o5122, none⟩) m capv]) 25]) ?_ (List.Sublist.cons _ (List.Sublist.cons _ (List.Sublist.cons_cons _ (List.Sublist.refl _))))))))))
          exact dr [1, 4] (jv + 1) ⟨by omega, ris_take_on hRv hx5124 (.inl (by omega)), all_on hAv hx5124 ⟨by omega, by omega, q5141, dom_of_some q5137⟩⟩
    ·
     refine qa [(2, .go (owns 0 1 1)), (4, .no)] [1, 4] [(68, .bool false)] ([¬ (((jv : Nat) : Int) < ((m : Nat) : Int))]) (al1 q5119) (ds_ (f_ (at_leave _ rfl (ds_ (sq_ (qa0 [] [] [(2, .bool true)] (ds_ (rt ([]) (.bool true) ?_))))))))
     exact fun w' hw => ⟨by rw [good_all hRd (by omega) hAd hRv (by omega) hAv], hw.below⟩
end Go.Proofs.Ytnoefldpkfpglaa

/-! Domains: what is made, changed, taken away is what must be; plain. -/
namespace Go.Proofs.Ytnoefldpkfpglaa
open Go Go.RowKit

/-- The errors that must be, as the law finds them. -/
def no1 (o : Bool) : Int := if o = true then 5 else 0
def nt1 (o : Bool) : Int := if o = true then 0 else 4
def ar2 (m : Bool) (x : Int) : Int := if m = true then x else 2
def ne3 (o : Bool) (c : Nat) : Int := if o = true then (if 0 < c then 8 else 0) else 4
def fin9 (g : Bool) (x : Int) : Int := if g = true then x else 190
section
variable {ds : List Dom} {vs : List Vcp} {d : Dom} {k : Int}
end
end Go.Proofs.Ytnoefldpkfpglaa

/-! Domains: vCPUs made, taken away, masked are what must be; plain. -/
namespace Go.Proofs.Ytnoefldpkfpglaa
open Go Go.RowKit

theorem gap_spec : ∀ (l : List Vcp) (i : Nat), i ≤ gapV l i ∧ gapV l i ≤ i + l.length ∧ (∀ j, i + j < gapV l i → ∃ x, l[j]? = some x ∧ x.id = ((i + j : Nat) : Int) + 1) ∧ ∀ x, l[gapV l i - i]? = some x → x.id ≠ (gapV l i : Int) + 1
  | [], i => ⟨Nat.le_refl _, Nat.le_refl _, fun j h => by simp only [gapV] at h; omega, fun x h => by simp at h⟩
  | v :: t, i => by
    by_cases e : v.id = (i : Int) + 1
    · have h := gap_spec t (i + 1)
      have g : gapV (v :: t) i = gapV t (i + 1) := by simp [gapV, e]
      rw [g]
      obtain ⟨a, b, c, d⟩ := h
      refine ⟨by omega, by rw [List.length_cons]; omega, fun j hj => ?_, fun x hx => ?_⟩
      · cases j with
        | zero => exact ⟨v, rfl, by rw [e]; simp⟩
        | succ j =>
          obtain ⟨x, hx, he⟩ := c j (by omega)
          exact ⟨x, by simpa using hx, by rw [he]; omega⟩
      · have : gapV t (i + 1) - i = (gapV t (i + 1) - (i + 1)) + 1 := by omega
        rw [this, List.getElem?_cons_succ] at hx
        exact d x hx
    · have g : gapV (v :: t) i = i := by simp [gapV, e]
      rw [g]
      refine ⟨Nat.le_refl _, by omega, fun j hj => by omega, fun x hx => ?_⟩
      rw [Nat.sub_self] at hx
      simp only [List.getElem?_cons_zero, Option.some.injEq] at hx
      rw [← hx]
      exact e
section
variable {ds : List Dom} {vs : List Vcp} {k hh ss : Int} {d : Dom} {v y : Vcp} {n : Nat}
theorem gap_none (h : GoodG ds vs) : getK Vcp.id vs ((gapV vs 0 + 1 : Nat) : Int) = none := by
  obtain ⟨_, b, c, e⟩ := gap_spec vs 0
  refine getK_none.2 fun x hx he => ?_
  obtain ⟨t, ht⟩ := List.getElem?_of_mem hx
  rcases Nat.lt_trichotomy t (gapV vs 0) with hlt | heq | hgt
  · obtain ⟨z, hz, hi⟩ := c t (by omega)
    rw [ht] at hz; cases hz; omega
  · subst heq
    exact e x (by simpa using ht) (by omega)
  · have hl : gapV vs 0 < vs.length := by have := (List.getElem?_eq_some_iff.1 ht).1; omega
    obtain ⟨z, hz⟩ : ∃ z, vs[gapV vs 0]? = some z := ⟨_, List.getElem?_eq_getElem hl⟩
    have h1 := h.vr.at hgt hz ht
    have h2 := e z (by simpa using hz)
    have h3 : (gapV vs 0 : Int) + 1 ≤ z.id := by
      by_cases g0 : gapV vs 0 = 0
      · have := (h.vm z (List.mem_of_getElem? hz)).1; omega
      · obtain ⟨u, hu, hi⟩ := c (gapV vs 0 - 1) (by omega)
        have := h.vr.at (show gapV vs 0 - 1 < gapV vs 0 by omega) hu hz
        omega
    omega
theorem gap_some (hn : 1 ≤ n) (hg : n ≤ gapV vs 0) : ∃ x ∈ vs, x.id = (n : Int) := by
  obtain ⟨_, b, c, e⟩ := gap_spec vs 0
  obtain ⟨x, hx, hi⟩ := c (n - 1) (by omega)
  exact ⟨x, List.mem_of_getElem? hx, by omega⟩
theorem gap_le : gapV vs 0 ≤ vs.length := by have := (gap_spec vs 0).2.1; omega
theorem gap_pos (h : GoodG ds vs) : posK Vcp.id vs ((gapV vs 0 + 1 : Nat) : Int) = gapV vs 0 := by
  obtain ⟨p1, p2, p3⟩ := pos_cut (k := ((gapV vs 0 + 1 : Nat) : Int)) h.vr
  obtain ⟨_, b, c, e⟩ := gap_spec vs 0
  rcases Nat.lt_trichotomy (posK Vcp.id vs ((gapV vs 0 + 1 : Nat) : Int)) (gapV vs 0) with hlt | heq | hgt
  · obtain ⟨x, hx, hi⟩ := c _ (by rw [Nat.zero_add]; exact hlt)
    have : x ∈ vs.drop (posK Vcp.id vs ((gapV vs 0 + 1 : Nat) : Int)) := List.mem_of_getElem? (i := 0) (by rw [List.getElem?_drop, Nat.add_zero]; exact hx)
    have := p2 x this
    omega
  · exact heq
  · have hl : gapV vs 0 < vs.length := by omega
    obtain ⟨z, hz⟩ : ∃ z, vs[gapV vs 0]? = some z := ⟨_, List.getElem?_eq_getElem hl⟩
    have hm : z ∈ vs.take (posK Vcp.id vs ((gapV vs 0 + 1 : Nat) : Int)) := List.mem_of_getElem? (i := gapV vs 0) (by rw [List.getElem?_take, if_pos hgt]; exact hz)
    have h1 := p1 z hm
    have h3 : (gapV vs 0 : Int) + 1 ≤ z.id := by
      by_cases g0 : gapV vs 0 = 0
      · have := (h.vm z (List.mem_of_getElem? hz)).1; omega
      · obtain ⟨u, hu, hi⟩ := c (gapV vs 0 - 1) (by omega)
        have := h.vr.at (show gapV vs 0 - 1 < gapV vs 0 by omega) hu hz
        omega
    omega
theorem freeL_spec (F : Nat) : ∀ (c i : Nat), (∀ n, i ≤ n → n < F → (getK Vcp.id vs (n : Int)).isSome = true) → getK Vcp.id vs (F : Int) = none → i ≤ F → F ≤ i + c → freeL vs c i = F
  | 0, i, _, _, h1, h2 => by simp only [freeL]; omega
  | c + 1, i, hs, hn, h1, h2 => by
    rw [freeL]
    by_cases e : i = F
    · subst e
      rw [hn]
      simp only [Option.isSome_none, Bool.false_eq_true, if_false]
      exact freeL_spec i c i (fun n a b => by omega) hn (Nat.le_refl _) (by omega)
    · rw [if_pos (hs i (Nat.le_refl _) (by omega))]
      exact freeL_spec F c (i + 1) (fun n a b => hs n (by omega) b) hn (by omega) (by omega)
theorem free_gap (h : GoodG ds vs) : freeL vs 16 1 = gapV vs 0 + 1 := by
  refine freeL_spec (gapV vs 0 + 1) 16 1 (fun n h1 h2 => ?_) (gap_none h) (by omega) (by have := gap_le (vs := vs); have := h.vl; omega)
  obtain ⟨x, hx, hi⟩ := gap_some (vs := vs) h1 (by omega)
  rw [h.getv.2 ⟨hx, hi⟩]; rfl
/-- The errors that must be. -/
def fu1 (n c : Nat) : Int := if 16 ≤ n ∨ 8 ≤ c then 6 else 0
def mk2 (m : Bool) (x : Int) : Int := if m = true then x else 170
def th3 (o : Bool) (x : Int) : Int := if o = true then x else 4
def fr4 (x : Int) (f : Int) : Int := if x = 0 then f else 0
theorem fu1_yes {n c : Nat} (h : 16 ≤ n ∨ 8 ≤ c) : fu1 n c = 6 := if_pos h
theorem fu1_no {n c : Nat} (h : ¬ (16 ≤ n ∨ 8 ≤ c)) : fu1 n c = 0 := if_neg h
theorem fr4_yes {x f : Int} (h : x = 0) : fr4 x f = f := if_pos h
theorem fr4_no {x f : Int} (h : ¬ x = 0) : fr4 x f = 0 := if_neg h
/-- Adding: the error that must be. -/
def addE (ds : List Dom) (vs : List Vcp) (k hh ss : Int) : Int := fin9 (guestsB ds vs) (th3 (getK Dom.id ds k).isSome (mk2 (maskB hh ss) (fu1 vs.length (cntV vs k))))
theorem add_num : addN ds vs k hh ss = fr4 (addE ds vs k hh ss) (freeL vs 16 1 : Nat) := by
  unfold addE
  cases g : guestsB ds vs with
  | false => rw [addN_no (addV_bad g) (by decide)]; simp [fin9, fr4]
  | true =>
    have h := guests_iff.1 g
    cases e : getK Dom.id ds k with
    | none => rw [addN_no (addV_none g e) (by decide)]; simp [fin9, fr4, th3]
    | some x =>
      cases m : maskB hh ss with
      | false => rw [addN_no (addV_mask g e m) (by decide)]; simp [fin9, fr4, th3, mk2]
      | true =>
        have hl := h.vl
        have hc : cntV vs k ≤ 8 := by have := (h.dm x (getK_mem e).1).2; rw [(getK_mem e).2] at this; exact this
        by_cases f : vs.length = 16 ∨ cntV vs k = 8
        · rw [addN_no (addV_full g e m f) (by decide), fu1_yes (by omega)]; simp [fin9, fr4, th3, mk2]
        · rw [addN_ok (addV_ok g e m f rfl) rfl, fu1_no (by omega), free_gap h]; simp [fin9, fr4, th3, mk2]
theorem add_is : isB (addV ds vs k hh ss).1 (addV ds vs k hh ss).2.1 (addV ds vs k hh ss).2.2 (madeD ds ⟨0, 0, 0, 0⟩ 0) (madeV vs ⟨fr4 (addE ds vs k hh ss) (freeL vs 16 1 : Nat), k, hh, ss⟩ 0) (addE ds vs k hh ss) = true := by
  unfold addE
  cases g : guestsB ds vs with
  | false => rw [addV_bad g]; simp [isB, fin9]
  | true =>
    have h := guests_iff.1 g
    cases e : getK Dom.id ds k with
    | none => rw [addV_none g e]; simp [isB, fin9, th3]
    | some x =>
      cases m : maskB hh ss with
      | false => rw [addV_mask g e m]; simp [isB, fin9, th3, mk2]
      | true =>
        have hl := h.vl
        have hc : cntV vs k ≤ 8 := by have := (h.dm x (getK_mem e).1).2; rw [(getK_mem e).2] at this; exact this
        by_cases f : vs.length = 16 ∨ cntV vs k = 8
        · rw [addV_full g e m f, fu1_yes (by omega)]; simp [isB, fin9, th3, mk2]
        · have hk : 0 < k := by have := (h.did (getK_mem e).1).1; rw [(getK_mem e).2] at this; omega
          have hg := gap_le (vs := vs)
          rw [addV_ok g e m f rfl, fu1_no (by omega), madeD_same h]
          have e0 : fin9 true (th3 (some x).isSome (mk2 true 0)) = 0 := by simp [fin9, th3, mk2]
          rw [e0, show fr4 0 ((freeL vs 16 1 : Nat) : Int) = ((freeL vs 16 1 : Nat) : Int) from if_pos rfl, free_gap h, madeV_ins h hk (by constructor <;> simp only [] <;> omega) (gap_none h)]
          have e1 : insK Vcp.id vs ⟨((gapV vs 0 + 1 : Nat) : Int), k, hh, ss⟩ = vs.take (gapV vs 0) ++ [⟨((gapV vs 0 + 1 : Nat) : Int), k, hh, ss⟩] ++ vs.drop (gapV vs 0) := by unfold insK; rw [gap_pos h]
          rw [e1]
          simp [isB]
theorem drop_is : isB (dropV ds vs k).1 (dropV ds vs k).2.1 (dropV ds vs k).2.2 (madeD ds ⟨0, 0, 0, 0⟩ 0) (madeV vs ⟨0, 0, 0, 0⟩ k) (fin9 (guestsB ds vs) (th3 (getK Vcp.id vs k).isSome 0)) = true := by
  cases g : guestsB ds vs with
  | false => rw [dropV_bad g]; simp [isB, fin9]
  | true =>
    have h := guests_iff.1 g
    cases e : getK Vcp.id vs k with
    | none => rw [dropV_none g e]; simp [isB, fin9, th3]
    | some x => rw [dropV_ok g e, madeD_same h, madeV_del h e]; simp [isB, fin9, th3, delK]
theorem remask_is : isB (remaskV ds vs k hh ss).1 (remaskV ds vs k hh ss).2.1 (remaskV ds vs k hh ss).2.2 (madeD ds ⟨0, 0, 0, 0⟩ 0) (madeV vs ⟨(rowC (getK Vcp.id vs k)).id, (rowC (getK Vcp.id vs k)).dom, hh, ss⟩ 0) (fin9 (guestsB ds vs) (th3 (getK Vcp.id vs k).isSome (mk2 (maskB hh ss) 0))) = true := by
  cases g : guestsB ds vs with
  | false => rw [remaskV_bad g]; simp [isB, fin9]
  | true =>
    have h := guests_iff.1 g
    cases e : getK Vcp.id vs k with
    | none => rw [remaskV_none g e]; simp [isB, fin9, th3]
    | some x =>
      cases m : maskB hh ss with
      | false => rw [remaskV_mask g e m]; simp [isB, fin9, th3, mk2]
      | true =>
        have hx := h.vm x (getK_mem e).1
        obtain ⟨z, hz, hzd⟩ := hx.2.2.2
        have hd := (h.did hz).1
        have hi := (getK_mem e).2
        have hp := madeV_put (v := ⟨x.id, x.dom, hh, ss⟩) h (by simp only []; omega) ⟨hx.1, hx.2.1⟩ (by simp only []; rw [hi]; exact e)
        rw [remaskV_ok g e m, madeD_same h]
        simp only [rowC, Option.getD_some]
        rw [hp]
        simp [isB, fin9, th3, mk2, putK, hi]
end
end Go.Proofs.Ytnoefldpkfpglaa
