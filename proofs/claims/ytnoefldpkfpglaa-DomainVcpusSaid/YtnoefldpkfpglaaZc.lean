/- Texts of this proof, one behind the other. -/
import Derived.Test.YtnoefldpkfpglaaZb
import Derived.Laws.StructEq
/-! Domains: Destroy, Drop. -/
namespace Go.Proofs.Ytnoefldpkfpglaa
open Go Go.RowKit

set_option maxRecDepth 100000 in
theorem drop_d (p : Option Addr) (n cap : Nat) (ds : List Dom) (q : Option Addr) (m capv : Nat) (vs : List Vcp) (k : Int) (w : World)
 (hds : Sv w p ds) (hn : n = ds.length) (hb : n ≤ 1000)
 (hvs : Sv w q vs) (hm : m = vs.length) (hmb : m ≤ 1000)
 : Calls Try.prog 17 #[.agg #[.slice p n cap, .slice q m capv], .int .i64 k] w fun e w' => ∃ q m capq Y q2 m2 capq2 X, e = .returned (.tuple #[.agg #[.slice q m capq, .slice q2 m2 capq2], .int .i64 (dropV ds vs k).2.2]) ∧ SlO 32 Y q m capq (dropV ds vs k).1 ∧ SlO 43 X q2 m2 capq2 (dropV ds vs k).2.1 ∧ Below w.heap.size w w' ∧ Hs w (Y ++ X) w' := by
 refine enter (Hs.start w) Try.func17 rfl Try.ntmps17 rfl (sq_ (ma0 [] [] (fun γ1 => [(2, .pointer (some ⟨γ1 0, 0, none⟩)), (3, .pointer (some ⟨γ1 1, 0, none⟩)), (4, .pointer (some ⟨γ1 2, 0, none⟩))]) (fun γ1 L => bx (γ1 2) (#[.slice none 0 0, .slice none 0 0]) 25 :: bx (γ1 1) (#[.int .i64 k]) 3 :: bx (γ1 0) (#[.slice p n cap, .slice q m capv]) 25 :: L) (fun γ1 => ds_ (sq_ (ao_ (qo0 2 [(0, .go (owns 2 0 2))] [4] [(6, .agg #[.slice p n cap, .slice q m capv]), (7, .func (.func 55) #[] #[.pointer (some ⟨γ1 1, 0, none⟩)])] (ops_inline (g := 52) (args := #[.agg #[.slice p n cap, .slice q m capv], .func (.func 55) #[] #[.pointer (some ⟨γ1 1, 0, none⟩)]]) (by kernel_rfl) (by kernel_rfl) (by kernel_rfl) (fun args w => Try.call52 args w) Try.func52 rfl Try.ntmps52 rfl (sq_ (ma0 [] [1] (fun γ3 => [(2, .pointer (some ⟨γ3 0, 0, none⟩)), (4, .pointer (some ⟨γ3 1, 0, none⟩))]) (fun γ3 L => bx (γ3 1) (#[.slice none 0 0, .slice none 0 0]) 25 :: bx (γ3 0) (#[.slice p n cap, .slice q m capv]) 25 :: L) (fun γ3 => ds_ (sq_ (sq_ (ao_ (qo0 1 [(0, .go (owns 1 0 2))] [1, 2, 4] [(9, .agg #[.slice p n cap, .slice q m capv])] ?_))))))))))))))
 rcases q5 : guestsB ds vs with _ | _
 ·
  refine cD (.int .i64 190) Try.call10 (fun w hw => by have := gcheck_d p n cap ds q m capv vs w (hds.kept hw.below) hn (by omega) (hvs.kept hw.below) hm (by omega); rw [q5] at this; exact this) (qo0 1 [] [1, 2, 4] [(6, .int .i64 190)] (on_ (ds_ (sq_ (qa0 [] [1, 2, 4, 6] [(12, .bool true)] (ds_ (t_ (sq_ (qa0 [(2, .go (owns 0 0 2))] [4] [(5, .int .i64 190)] (ds_ (bk (owns 0 0 2) (.tuple #[.agg #[.slice none 0 0, .slice none 0 0], .int .i64 190]) (qo0 4 [(5, .go (owns 2 0 2))] [4] [(5, .int .i64 190)] (on_ (ds_ (rt (owns 2 0 2) (.tuple #[.agg #[.slice none 0 0, .slice none 0 0], .int .i64 190]) ?_)))))))))))))))
  exact fun w' hw => by rw [dropV_bad q5]; exact ⟨none, 0, 0, [], none, 0, 0, [], rfl, SlO.nil, SlO.nil, hw.below, hw.sub (List.nil_sublist _)⟩
 ·
  refine cD (.int .i64 0) Try.call10 (fun w hw => by have := gcheck_d p n cap ds q m capv vs w (hds.kept hw.below) hn (by omega) (hvs.kept hw.below) hm (by omega); rw [q5] at this; exact this) (qo0 1 [] [1, 2, 4] [(6, .int .i64 0)] (on_ (ds_ (sq_ (qa0 [] [1, 2, 4, 6] [(12, .bool false)] (ds_ (f_ (at_skip (ds_ (sq_ ?_))))))))))
  refine at_any (by kernel_rfl) ?_
  refine tk (m := 9) [0, 4] [] [1, 2, 4] [(15, .pointer (some ⟨γ3 0, 0, none⟩)), (19, .pointer (some ⟨γ3 0, 1, none⟩))] ([]) #[true, false, false, false, true, false, false, false, false, false, false] al0 ?_
  refine any_cutX (V := (Array Value) × (Array Value) × (Nat) × (Nat) × (Nat → Nat)) (fun ⟨c155, c75, g155, g75, γ195⟩ => c155.size = m * 4 ∧ c75.size = n * 4) 0 #[true, true, true, true, true, true, true, true, true, true, true] (fun ⟨c155, c75, g155, g75, γ195⟩ => [(1, .func (.func 55) #[] #[.pointer (some ⟨γ1 1, 0, none⟩)]), (2, .pointer (some ⟨γ3 0, 0, none⟩)), (4, .pointer (some ⟨γ3 1, 0, none⟩)), (7, .pointer (some ⟨γ195 0, 0, none⟩))]) (fun ⟨c155, c75, g155, g75, γ195⟩ => [bx (γ195 0) (#[.slice (some ⟨g75, 0, none⟩) n n, .slice (some ⟨g155, 0, none⟩) m m]) 25, bx g155 c155 43, bx g75 c75 32, bx (γ3 1) (#[.slice none 0 0, .slice none 0 0]) 25, bx (γ3 0) (#[.slice p n cap, .slice q m capv]) 25, bx (γ1 2) (#[.slice none 0 0, .slice none 0 0]) 25, bx (γ1 1) (#[.int .i64 k]) 3, bx (γ1 0) (#[.slice p n cap, .slice q m capv]) 25]) ?_ (fun hmx18 => ?_)
  rotate_left
  ·
   refine any_cutX (V := (Array Value) × (Array Value) × (Nat) × (Nat) × (Nat → Nat)) (fun ⟨c155, c75, g155, g75, γ195⟩ => c155.size = m * 4 ∧ c75.size = n * 4) 1 #[true, true, true, true, true, true, true, true, true, true, false] (fun ⟨c155, c75, g155, g75, γ195⟩ => [(1, .func (.func 55) #[] #[.pointer (some ⟨γ1 1, 0, none⟩)]), (2, .pointer (some ⟨γ3 0, 0, none⟩)), (4, .pointer (some ⟨γ3 1, 0, none⟩)), (7, .pointer (some ⟨γ195 0, 0, none⟩)), (23, .agg #[.slice (some ⟨g75, 0, none⟩) n n, .slice (some ⟨g155, 0, none⟩) m m])]) (fun ⟨c155, c75, g155, g75, γ195⟩ => [bx (γ195 0) (#[.slice none 0 0, .slice none 0 0]) 25, bx g155 c155 43, bx g75 c75 32, bx (γ3 1) (#[.slice none 0 0, .slice none 0 0]) 25, bx (γ3 0) (#[.slice p n cap, .slice q m capv]) 25, bx (γ1 2) (#[.slice none 0 0, .slice none 0 0]) 25, bx (γ1 1) (#[.int .i64 k]) 3, bx (γ1 0) (#[.slice p n cap, .slice q m capv]) 25]) ?_ (fun hmx17 => ?_)
   ·
    rintro ⟨c155, c75, g155, g75, γ195⟩ ⟨hc155, hc75⟩
    refine a1 10 rfl ?_
    refine mo0 1 [(10, .go (owns 0 0 2))] [1, 2, 4, 7] (fun _ => []) (fun _ L => (L.set 0 (bx (γ195 0) (#[.slice (some ⟨g75, 0, none⟩) n n, .slice (some ⟨g155, 0, none⟩) m m]) 25))) (fun _ => ?_)
    refine od_ ?_
    exact wk (hmx18 (c155, c75, g155, g75, γ195) ⟨hc155, hc75⟩) [1, 2, 4, 7] [[_], [_], [_], [_], [_], [_], [_], [_]] [0, 1, 2, 3, 4, 5, 6, 7] rfl rfl
   refine any_cutX (V := (Array Value) × (Array Value) × (Nat) × (Nat)) (fun ⟨c155, c75, g155, g75⟩ => c155.size = m * 4 ∧ c75.size = n * 4) 2 #[true, true, true, true, true, true, true, true, true, false, false] (fun ⟨c155, c75, g155, g75⟩ => [(1, .func (.func 55) #[] #[.pointer (some ⟨γ1 1, 0, none⟩)]), (2, .pointer (some ⟨γ3 0, 0, none⟩)), (4, .pointer (some ⟨γ3 1, 0, none⟩)), (23, .agg #[.slice (some ⟨g75, 0, none⟩) n n, .slice (some ⟨g155, 0, none⟩) m m])]) (fun ⟨c155, c75, g155, g75⟩ => [bx g155 c155 43, bx g75 c75 32, bx (γ3 1) (#[.slice none 0 0, .slice none 0 0]) 25, bx (γ3 0) (#[.slice p n cap, .slice q m capv]) 25, bx (γ1 2) (#[.slice none 0 0, .slice none 0 0]) 25, bx (γ1 1) (#[.int .i64 k]) 3, bx (γ1 0) (#[.slice p n cap, .slice q m capv]) 25]) ?_ (fun hmx16 => ?_)
   ·
    rintro ⟨c155, c75, g155, g75⟩ ⟨hc155, hc75⟩
    refine a1 9 rfl ?_
    refine mo0 1 [] [1, 2, 4, 23] (fun γ195 => [(7, .pointer (some ⟨γ195 0, 0, none⟩))]) (fun γ195 L => bx (γ195 0) (#[.slice none 0 0, .slice none 0 0]) 25 :: L) (fun γ195 => ?_)
    refine od_ ?_
    exact wk (hmx17 (c155, c75, g155, g75, γ195) ⟨hc155, hc75⟩) [1, 2, 4, 7, 23] [[_], [_], [_], [_], [_], [_], [_], [_]] [0, 1, 2, 3, 4, 5, 6, 7] rfl rfl
   refine any_cutX (V := (Array Value) × (Nat) × (Nat → Nat)) (fun ⟨c155, g155, γ195⟩ => c155.size = m * 4) 3 #[true, true, true, false, true, true, true, true, false, true, false] (fun ⟨c155, g155, γ195⟩ => [(1, .func (.func 55) #[] #[.pointer (some ⟨γ1 1, 0, none⟩)]), (2, .pointer (some ⟨γ3 0, 0, none⟩)), (4, .pointer (some ⟨γ3 1, 0, none⟩)), (7, .pointer (some ⟨γ195 0, 0, none⟩)), (17, .int .i64 ((n : Nat))), (22, .slice (some ⟨g155, 0, none⟩) m m)]) (fun ⟨c155, g155, γ195⟩ => [bx (γ195 0) (#[.slice none 0 0, .slice none 0 0]) 25, bx g155 c155 43, bx (γ3 1) (#[.slice none 0 0, .slice none 0 0]) 25, bx (γ3 0) (#[.slice p n cap, .slice q m capv]) 25, bx (γ1 2) (#[.slice none 0 0, .slice none 0 0]) 25, bx (γ1 1) (#[.int .i64 k]) 3, bx (γ1 0) (#[.slice p n cap, .slice q m capv]) 25]) ?_ (fun hmx15 => ?_)
   ·
    rintro ⟨c155, g155, γ195⟩ hc155
    refine a1 3 rfl ?_
    refine ops_make (T := 32) (ks := 4) (by_ := 32) (n := n) rfl (by kernel_rfl) (by kernel_rfl) (by kernel_rfl) (by kernel_rfl) (by kernel_rfl) (by omega) (by have hmx : maxLen = 9223372036854775807 := rfl; omega) (fun g75 c75 hc75 => ?_)
    refine od_ ?_
    refine tk (m := 1) [8] [] [1, 2, 4, 7] [(23, .agg #[.slice (some ⟨g75, 0, none⟩) n n, .slice (some ⟨g155, 0, none⟩) m m])] ([]) #[true, true, true, true, true, true, true, true, true, true, false] al0 ?_
    exact wk (hmx17 (c155, c75, g155, g75, γ195) ⟨hc155, hc75⟩) [1, 2, 4, 7, 23] [[_], [_], [_], [_], [_], [_], [_], [_]] [1, 2, 0, 3, 4, 5, 6, 7] rfl rfl
   refine any_cutX (V := (Array Value) × (Nat) × (Nat → Nat)) (fun ⟨c75, g75, γ195⟩ => c75.size = n * 4) 3 #[true, true, true, true, true, true, true, false, false, true, false] (fun ⟨c75, g75, γ195⟩ => [(1, .func (.func 55) #[] #[.pointer (some ⟨γ1 1, 0, none⟩)]), (2, .pointer (some ⟨γ3 0, 0, none⟩)), (4, .pointer (some ⟨γ3 1, 0, none⟩)), (7, .pointer (some ⟨γ195 0, 0, none⟩)), (18, .slice (some ⟨g75, 0, none⟩) n n), (21, .int .i64 ((m : Nat)))]) (fun ⟨c75, g75, γ195⟩ => [bx (γ195 0) (#[.slice none 0 0, .slice none 0 0]) 25, bx g75 c75 32, bx (γ3 1) (#[.slice none 0 0, .slice none 0 0]) 25, bx (γ3 0) (#[.slice p n cap, .slice q m capv]) 25, bx (γ1 2) (#[.slice none 0 0, .slice none 0 0]) 25, bx (γ1 1) (#[.int .i64 k]) 3, bx (γ1 0) (#[.slice p n cap, .slice q m capv]) 25]) ?_ (fun hmx14 => ?_)
   ·
    rintro ⟨c75, g75, γ195⟩ hc75
    refine a1 7 rfl ?_
    refine ops_make (T := 43) (ks := 4) (by_ := 24) (n := m) rfl (by kernel_rfl) (by kernel_rfl) (by kernel_rfl) (by kernel_rfl) (by kernel_rfl) (by omega) (by have hmx : maxLen = 9223372036854775807 := rfl; omega) (fun g155 c155 hc155 => ?_)
    refine od_ ?_
    refine tk (m := 1) [8] [] [1, 2, 4, 7] [(23, .agg #[.slice (some ⟨g75, 0, none⟩) n n, .slice (some ⟨g155, 0, none⟩) m m])] ([]) #[true, true, true, true, true, true, true, true, true, true, false] al0 ?_
    exact wk (hmx17 (c155, c75, g155, g75, γ195) ⟨hc155, hc75⟩) [1, 2, 4, 7, 23] [[_], [_], [_], [_], [_], [_], [_], [_]] [1, 0, 2, 3, 4, 5, 6, 7] rfl rfl
   refine any_cutX (V := (Array Value) × (Nat)) (fun ⟨c155, g155⟩ => c155.size = m * 4) 4 #[true, true, true, false, true, true, true, true, false, false, false] (fun ⟨c155, g155⟩ => [(1, .func (.func 55) #[] #[.pointer (some ⟨γ1 1, 0, none⟩)]), (2, .pointer (some ⟨γ3 0, 0, none⟩)), (4, .pointer (some ⟨γ3 1, 0, none⟩)), (17, .int .i64 ((n : Nat))), (22, .slice (some ⟨g155, 0, none⟩) m m)]) (fun ⟨c155, g155⟩ => [bx g155 c155 43, bx (γ3 1) (#[.slice none 0 0, .slice none 0 0]) 25, bx (γ3 0) (#[.slice p n cap, .slice q m capv]) 25, bx (γ1 2) (#[.slice none 0 0, .slice none 0 0]) 25, bx (γ1 1) (#[.int .i64 k]) 3, bx (γ1 0) (#[.slice p n cap, .slice q m capv]) 25]) ?_ (fun hmx13 => ?_)
   ·
    rintro ⟨c155, g155⟩ hc155
    refine any_fork [3, 9] (by kernel_rfl) (by simp) (each_cons _ rfl ?_ (each_cons _ rfl ?_ (each_nil)))
    ·
     refine ops_make (T := 32) (ks := 4) (by_ := 32) (n := n) rfl (by kernel_rfl) (by kernel_rfl) (by kernel_rfl) (by kernel_rfl) (by kernel_rfl) (by omega) (by have hmx : maxLen = 9223372036854775807 := rfl; omega) (fun g75 c75 hc75 => ?_)
     refine od_ ?_
     refine tk (m := 2) [8] [] [1, 2, 4] [(23, .agg #[.slice (some ⟨g75, 0, none⟩) n n, .slice (some ⟨g155, 0, none⟩) m m])] ([]) #[true, true, true, true, true, true, true, true, true, false, false] al0 ?_
     exact wk (hmx16 (c155, c75, g155, g75) ⟨hc155, hc75⟩) [1, 2, 4, 23] [[_], [_], [_], [_], [_], [_], [_]] [1, 0, 2, 3, 4, 5, 6] rfl rfl
    ·
     refine mo0 1 [] [1, 2, 4, 17, 22] (fun γ195 => [(7, .pointer (some ⟨γ195 0, 0, none⟩))]) (fun γ195 L => bx (γ195 0) (#[.slice none 0 0, .slice none 0 0]) 25 :: L) (fun γ195 => ?_)
     refine od_ ?_
     exact wk (hmx15 (c155, g155, γ195) hc155) [1, 2, 4, 7, 17, 22] [[_], [_], [_], [_], [_], [_], [_]] [0, 1, 2, 3, 4, 5, 6] rfl rfl
   refine any_cutX (V := (Array Value) × (Nat)) (fun ⟨c75, g75⟩ => c75.size = n * 4) 4 #[true, true, true, true, true, true, true, false, false, false, false] (fun ⟨c75, g75⟩ => [(1, .func (.func 55) #[] #[.pointer (some ⟨γ1 1, 0, none⟩)]), (2, .pointer (some ⟨γ3 0, 0, none⟩)), (4, .pointer (some ⟨γ3 1, 0, none⟩)), (18, .slice (some ⟨g75, 0, none⟩) n n), (21, .int .i64 ((m : Nat)))]) (fun ⟨c75, g75⟩ => [bx g75 c75 32, bx (γ3 1) (#[.slice none 0 0, .slice none 0 0]) 25, bx (γ3 0) (#[.slice p n cap, .slice q m capv]) 25, bx (γ1 2) (#[.slice none 0 0, .slice none 0 0]) 25, bx (γ1 1) (#[.int .i64 k]) 3, bx (γ1 0) (#[.slice p n cap, .slice q m capv]) 25]) ?_ (fun hmx12 => ?_)
   ·
    rintro ⟨c75, g75⟩ hc75
    refine any_fork [7, 9] (by kernel_rfl) (by simp) (each_cons _ rfl ?_ (each_cons _ rfl ?_ (each_nil)))
    ·
     refine ops_make (T := 43) (ks := 4) (by_ := 24) (n := m) rfl (by kernel_rfl) (by kernel_rfl) (by kernel_rfl) (by kernel_rfl) (by kernel_rfl) (by omega) (by have hmx : maxLen = 9223372036854775807 := rfl; omega) (fun g155 c155 hc155 => ?_)
     refine od_ ?_
     refine tk (m := 2) [8] [] [1, 2, 4] [(23, .agg #[.slice (some ⟨g75, 0, none⟩) n n, .slice (some ⟨g155, 0, none⟩) m m])] ([]) #[true, true, true, true, true, true, true, true, true, false, false] al0 ?_
     exact wk (hmx16 (c155, c75, g155, g75) ⟨hc155, hc75⟩) [1, 2, 4, 23] [[_], [_], [_], [_], [_], [_], [_]] [0, 1, 2, 3, 4, 5, 6] rfl rfl
    ·
     refine mo0 1 [] [1, 2, 4, 18, 21] (fun γ195 => [(7, .pointer (some ⟨γ195 0, 0, none⟩))]) (fun γ195 L => bx (γ195 0) (#[.slice none 0 0, .slice none 0 0]) 25 :: L) (fun γ195 => ?_)
     refine od_ ?_
     exact wk (hmx14 (c75, g75, γ195) hc75) [1, 2, 4, 7, 18, 21] [[_], [_], [_], [_], [_], [_], [_]] [0, 1, 2, 3, 4, 5, 6] rfl rfl
   refine any_cutX (V := (Nat → Nat)) (fun γ195 => True) 4 #[true, true, true, false, true, true, true, false, false, true, false] (fun γ195 => [(1, .func (.func 55) #[] #[.pointer (some ⟨γ1 1, 0, none⟩)]), (2, .pointer (some ⟨γ3 0, 0, none⟩)), (4, .pointer (some ⟨γ3 1, 0, none⟩)), (7, .pointer (some ⟨γ195 0, 0, none⟩)), (17, .int .i64 ((n : Nat))), (21, .int .i64 ((m : Nat)))]) (fun γ195 => [bx (γ195 0) (#[.slice none 0 0, .slice none 0 0]) 25, bx (γ3 1) (#[.slice none 0 0, .slice none 0 0]) 25, bx (γ3 0) (#[.slice p n cap, .slice q m capv]) 25, bx (γ1 2) (#[.slice none 0 0, .slice none 0 0]) 25, bx (γ1 1) (#[.int .i64 k]) 3, bx (γ1 0) (#[.slice p n cap, .slice q m capv]) 25]) ?_ (fun hmx11 => ?_)
   ·
    rintro γ195 _
    refine any_fork [3, 7] (by kernel_rfl) (by simp) (each_cons _ rfl ?_ (each_cons _ rfl ?_ (each_nil)))
    ·
     refine ops_make (T := 32) (ks := 4) (by_ := 32) (n := n) rfl (by kernel_rfl) (by kernel_rfl) (by kernel_rfl) (by kernel_rfl) (by kernel_rfl) (by omega) (by have hmx : maxLen = 9223372036854775807 := rfl; omega) (fun g75 c75 hc75 => ?_)
     refine od_ ?_
     exact wk (hmx14 (c75, g75, γ195) hc75) [1, 2, 4, 7, 18, 21] [[_], [_], [_], [_], [_], [_], [_]] [1, 0, 2, 3, 4, 5, 6] rfl rfl
    ·
     refine ops_make (T := 43) (ks := 4) (by_ := 24) (n := m) rfl (by kernel_rfl) (by kernel_rfl) (by kernel_rfl) (by kernel_rfl) (by kernel_rfl) (by omega) (by have hmx : maxLen = 9223372036854775807 := rfl; omega) (fun g155 c155 hc155 => ?_)
     refine od_ ?_
     exact wk (hmx15 (c155, g155, γ195) hc155) [1, 2, 4, 7, 17, 22] [[_], [_], [_], [_], [_], [_], [_]] [1, 0, 2, 3, 4, 5, 6] rfl rfl
   refine any_cutX (V := (Array Value) × (Nat) × (Nat → Nat)) (fun ⟨c155, g155, γ195⟩ => c155.size = m * 4) 5 #[true, false, false, false, true, true, true, true, false, true, false] (fun ⟨c155, g155, γ195⟩ => [(1, .func (.func 55) #[] #[.pointer (some ⟨γ1 1, 0, none⟩)]), (2, .pointer (some ⟨γ3 0, 0, none⟩)), (4, .pointer (some ⟨γ3 1, 0, none⟩)), (7, .pointer (some ⟨γ195 0, 0, none⟩)), (15, .pointer (some ⟨γ3 0, 0, none⟩)), (22, .slice (some ⟨g155, 0, none⟩) m m)]) (fun ⟨c155, g155, γ195⟩ => [bx (γ195 0) (#[.slice none 0 0, .slice none 0 0]) 25, bx g155 c155 43, bx (γ3 1) (#[.slice none 0 0, .slice none 0 0]) 25, bx (γ3 0) (#[.slice p n cap, .slice q m capv]) 25, bx (γ1 2) (#[.slice none 0 0, .slice none 0 0]) 25, bx (γ1 1) (#[.int .i64 k]) 3, bx (γ1 0) (#[.slice p n cap, .slice q m capv]) 25]) ?_ (fun hmx10 => ?_)
   ·
    rintro ⟨c155, g155, γ195⟩ hc155
    refine a1 1 rfl ?_
    refine qo0 1 [(1, .go (owns 3 0 1))] [1, 2, 4, 7, 22] [(16, .slice p n cap)] ?_
    refine od_ ?_
    refine tk (m := 3) [2] [] [1, 2, 4, 7, 22] [(17, .int .i64 ((n : Nat)))] ([]) #[true, true, true, false, true, true, true, true, false, true, false] al0 ?_
    exact wk (hmx15 (c155, g155, γ195) hc155) [1, 2, 4, 7, 17, 22] [[_], [_], [_], [_], [_], [_], [_]] [0, 1, 2, 3, 4, 5, 6] rfl rfl
   refine any_cutX (V := (Array Value) × (Nat) × (Nat → Nat)) (fun ⟨c75, g75, γ195⟩ => c75.size = n * 4) 5 #[true, true, true, true, true, false, false, false, false, true, false] (fun ⟨c75, g75, γ195⟩ => [(1, .func (.func 55) #[] #[.pointer (some ⟨γ1 1, 0, none⟩)]), (2, .pointer (some ⟨γ3 0, 0, none⟩)), (4, .pointer (some ⟨γ3 1, 0, none⟩)), (7, .pointer (some ⟨γ195 0, 0, none⟩)), (18, .slice (some ⟨g75, 0, none⟩) n n), (19, .pointer (some ⟨γ3 0, 1, none⟩))]) (fun ⟨c75, g75, γ195⟩ => [bx (γ195 0) (#[.slice none 0 0, .slice none 0 0]) 25, bx g75 c75 32, bx (γ3 1) (#[.slice none 0 0, .slice none 0 0]) 25, bx (γ3 0) (#[.slice p n cap, .slice q m capv]) 25, bx (γ1 2) (#[.slice none 0 0, .slice none 0 0]) 25, bx (γ1 1) (#[.int .i64 k]) 3, bx (γ1 0) (#[.slice p n cap, .slice q m capv]) 25]) ?_ (fun hmx9 => ?_)
   ·
    rintro ⟨c75, g75, γ195⟩ hc75
    refine a1 5 rfl ?_
    refine qo0 1 [(5, .go (owns 3 1 1))] [1, 2, 4, 7, 18] [(20, .slice q m capv)] ?_
    refine od_ ?_
    refine tk (m := 3) [6] [] [1, 2, 4, 7, 18] [(21, .int .i64 ((m : Nat)))] ([]) #[true, true, true, true, true, true, true, false, false, true, false] al0 ?_
    exact wk (hmx14 (c75, g75, γ195) hc75) [1, 2, 4, 7, 18, 21] [[_], [_], [_], [_], [_], [_], [_]] [0, 1, 2, 3, 4, 5, 6] rfl rfl
   refine any_cutX (V := Unit) (fun _ => True) 5 #[true, true, true, false, true, true, true, false, false, false, false] (fun _ => [(1, .func (.func 55) #[] #[.pointer (some ⟨γ1 1, 0, none⟩)]), (2, .pointer (some ⟨γ3 0, 0, none⟩)), (4, .pointer (some ⟨γ3 1, 0, none⟩)), (17, .int .i64 ((n : Nat))), (21, .int .i64 ((m : Nat)))]) (fun _ => [bx (γ3 1) (#[.slice none 0 0, .slice none 0 0]) 25, bx (γ3 0) (#[.slice p n cap, .slice q m capv]) 25, bx (γ1 2) (#[.slice none 0 0, .slice none 0 0]) 25, bx (γ1 1) (#[.int .i64 k]) 3, bx (γ1 0) (#[.slice p n cap, .slice q m capv]) 25]) ?_ (fun hmx8 => ?_)
   ·
    rintro _ _
    refine any_fork [3, 7, 9] (by kernel_rfl) (by simp) (each_cons _ rfl ?_ (each_cons _ rfl ?_ (each_cons _ rfl ?_ (each_nil))))
    ·
     refine ops_make (T := 32) (ks := 4) (by_ := 32) (n := n) rfl (by kernel_rfl) (by kernel_rfl) (by kernel_rfl) (by kernel_rfl) (by kernel_rfl) (by omega) (by have hmx : maxLen = 9223372036854775807 := rfl; omega) (fun g75 c75 hc75 => ?_)
     refine od_ ?_
     exact wk (hmx12 (c75, g75) hc75) [1, 2, 4, 18, 21] [[_], [_], [_], [_], [_], [_]] [0, 1, 2, 3, 4, 5] rfl rfl
    ·
     refine ops_make (T := 43) (ks := 4) (by_ := 24) (n := m) rfl (by kernel_rfl) (by kernel_rfl) (by kernel_rfl) (by kernel_rfl) (by kernel_rfl) (by omega) (by have hmx : maxLen = 9223372036854775807 := rfl; omega) (fun g155 c155 hc155 => ?_)
     refine od_ ?_
     exact wk (hmx13 (c155, g155) hc155) [1, 2, 4, 17, 22] [[_], [_], [_], [_], [_], [_]] [0, 1, 2, 3, 4, 5] rfl rfl
    ·
     refine mo0 1 [] [1, 2, 4, 17, 21] (fun γ195 => [(7, .pointer (some ⟨γ195 0, 0, none⟩))]) (fun γ195 L => bx (γ195 0) (#[.slice none 0 0, .slice none 0 0]) 25 :: L) (fun γ195 => ?_)
     refine od_ ?_
     exact wk (hmx11 γ195 trivial) [1, 2, 4, 7, 17, 21] [[_], [_], [_], [_], [_], [_]] [0, 1, 2, 3, 4, 5] rfl rfl
   refine any_cutX (V := (Array Value) × (Nat)) (fun ⟨c155, g155⟩ => c155.size = m * 4) 6 #[true, false, false, false, true, true, true, true, false, false, false] (fun ⟨c155, g155⟩ => [(1, .func (.func 55) #[] #[.pointer (some ⟨γ1 1, 0, none⟩)]), (2, .pointer (some ⟨γ3 0, 0, none⟩)), (4, .pointer (some ⟨γ3 1, 0, none⟩)), (15, .pointer (some ⟨γ3 0, 0, none⟩)), (22, .slice (some ⟨g155, 0, none⟩) m m)]) (fun ⟨c155, g155⟩ => [bx g155 c155 43, bx (γ3 1) (#[.slice none 0 0, .slice none 0 0]) 25, bx (γ3 0) (#[.slice p n cap, .slice q m capv]) 25, bx (γ1 2) (#[.slice none 0 0, .slice none 0 0]) 25, bx (γ1 1) (#[.int .i64 k]) 3, bx (γ1 0) (#[.slice p n cap, .slice q m capv]) 25]) ?_ (fun hmx7 => ?_)
   ·
    rintro ⟨c155, g155⟩ hc155
    refine any_fork [1, 9] (by kernel_rfl) (by simp) (each_cons _ rfl ?_ (each_cons _ rfl ?_ (each_nil)))
    ·
     refine qo0 1 [(1, .go (owns 2 0 1))] [1, 2, 4, 22] [(16, .slice p n cap)] ?_
     refine od_ ?_
     refine tk (m := 4) [2] [] [1, 2, 4, 22] [(17, .int .i64 ((n : Nat)))] ([]) #[true, true, true, false, true, true, true, true, false, false, false] al0 ?_
     exact wk (hmx13 (c155, g155) hc155) [1, 2, 4, 17, 22] [[_], [_], [_], [_], [_], [_]] [0, 1, 2, 3, 4, 5] rfl rfl
    ·
     refine mo0 1 [] [1, 2, 4, 15, 22] (fun γ195 => [(7, .pointer (some ⟨γ195 0, 0, none⟩))]) (fun γ195 L => bx (γ195 0) (#[.slice none 0 0, .slice none 0 0]) 25 :: L) (fun γ195 => ?_)
     refine od_ ?_
     exact wk (hmx10 (c155, g155, γ195) hc155) [1, 2, 4, 7, 15, 22] [[_], [_], [_], [_], [_], [_], [_]] [0, 1, 2, 3, 4, 5, 6] rfl rfl
   refine any_cutX (V := (Array Value) × (Nat)) (fun ⟨c75, g75⟩ => c75.size = n * 4) 6 #[true, true, true, true, true, false, false, false, false, false, false] (fun ⟨c75, g75⟩ => [(1, .func (.func 55) #[] #[.pointer (some ⟨γ1 1, 0, none⟩)]), (2, .pointer (some ⟨γ3 0, 0, none⟩)), (4, .pointer (some ⟨γ3 1, 0, none⟩)), (18, .slice (some ⟨g75, 0, none⟩) n n), (19, .pointer (some ⟨γ3 0, 1, none⟩))]) (fun ⟨c75, g75⟩ => [bx g75 c75 32, bx (γ3 1) (#[.slice none 0 0, .slice none 0 0]) 25, bx (γ3 0) (#[.slice p n cap, .slice q m capv]) 25, bx (γ1 2) (#[.slice none 0 0, .slice none 0 0]) 25, bx (γ1 1) (#[.int .i64 k]) 3, bx (γ1 0) (#[.slice p n cap, .slice q m capv]) 25]) ?_ (fun hmx6 => ?_)
   ·
    rintro ⟨c75, g75⟩ hc75
    refine any_fork [5, 9] (by kernel_rfl) (by simp) (each_cons _ rfl ?_ (each_cons _ rfl ?_ (each_nil)))
    ·
     refine qo0 1 [(5, .go (owns 2 1 1))] [1, 2, 4, 18] [(20, .slice q m capv)] ?_
     refine od_ ?_
     refine tk (m := 4) [6] [] [1, 2, 4, 18] [(21, .int .i64 ((m : Nat)))] ([]) #[true, true, true, true, true, true, true, false, false, false, false] al0 ?_
     exact wk (hmx12 (c75, g75) hc75) [1, 2, 4, 18, 21] [[_], [_], [_], [_], [_], [_]] [0, 1, 2, 3, 4, 5] rfl rfl
    ·
     refine mo0 1 [] [1, 2, 4, 18, 19] (fun γ195 => [(7, .pointer (some ⟨γ195 0, 0, none⟩))]) (fun γ195 L => bx (γ195 0) (#[.slice none 0 0, .slice none 0 0]) 25 :: L) (fun γ195 => ?_)
     refine od_ ?_
     exact wk (hmx9 (c75, g75, γ195) hc75) [1, 2, 4, 7, 18, 19] [[_], [_], [_], [_], [_], [_], [_]] [0, 1, 2, 3, 4, 5, 6] rfl rfl
   refine any_cutX (V := (Nat → Nat)) (fun γ195 => True) 6 #[true, false, false, false, true, true, true, false, false, true, false] (fun γ195 => [(1, .func (.func 55) #[] #[.pointer (some ⟨γ1 1, 0, none⟩)]), (2, .pointer (some ⟨γ3 0, 0, none⟩)), (4, .pointer (some ⟨γ3 1, 0, none⟩)), (7, .pointer (some ⟨γ195 0, 0, none⟩)), (15, .pointer (some ⟨γ3 0, 0, none⟩)), (21, .int .i64 ((m : Nat)))]) (fun γ195 => [bx (γ195 0) (#[.slice none 0 0, .slice none 0 0]) 25, bx (γ3 1) (#[.slice none 0 0, .slice none 0 0]) 25, bx (γ3 0) (#[.slice p n cap, .slice q m capv]) 25, bx (γ1 2) (#[.slice none 0 0, .slice none 0 0]) 25, bx (γ1 1) (#[.int .i64 k]) 3, bx (γ1 0) (#[.slice p n cap, .slice q m capv]) 25]) ?_ (fun hmx5 => ?_)
   ·
    rintro γ195 _
    refine any_fork [1, 7] (by kernel_rfl) (by simp) (each_cons _ rfl ?_ (each_cons _ rfl ?_ (each_nil)))
    ·
     refine qo0 1 [(1, .go (owns 2 0 1))] [1, 2, 4, 7, 21] [(16, .slice p n cap)] ?_
     refine od_ ?_
     refine tk (m := 4) [2] [] [1, 2, 4, 7, 21] [(17, .int .i64 ((n : Nat)))] ([]) #[true, true, true, false, true, true, true, false, false, true, false] al0 ?_
     exact wk (hmx11 γ195 trivial) [1, 2, 4, 7, 17, 21] [[_], [_], [_], [_], [_], [_]] [0, 1, 2, 3, 4, 5] rfl rfl
    ·
     refine ops_make (T := 43) (ks := 4) (by_ := 24) (n := m) rfl (by kernel_rfl) (by kernel_rfl) (by kernel_rfl) (by kernel_rfl) (by kernel_rfl) (by omega) (by have hmx : maxLen = 9223372036854775807 := rfl; omega) (fun g155 c155 hc155 => ?_)
     refine od_ ?_
     exact wk (hmx10 (c155, g155, γ195) hc155) [1, 2, 4, 7, 15, 22] [[_], [_], [_], [_], [_], [_], [_]] [1, 0, 2, 3, 4, 5, 6] rfl rfl
   refine any_cutX (V := (Nat → Nat)) (fun γ195 => True) 6 #[true, true, true, false, true, false, false, false, false, true, false] (fun γ195 => [(1, .func (.func 55) #[] #[.pointer (some ⟨γ1 1, 0, none⟩)]), (2, .pointer (some ⟨γ3 0, 0, none⟩)), (4, .pointer (some ⟨γ3 1, 0, none⟩)), (7, .pointer (some ⟨γ195 0, 0, none⟩)), (17, .int .i64 ((n : Nat))), (19, .pointer (some ⟨γ3 0, 1, none⟩))]) (fun γ195 => [bx (γ195 0) (#[.slice none 0 0, .slice none 0 0]) 25, bx (γ3 1) (#[.slice none 0 0, .slice none 0 0]) 25, bx (γ3 0) (#[.slice p n cap, .slice q m capv]) 25, bx (γ1 2) (#[.slice none 0 0, .slice none 0 0]) 25, bx (γ1 1) (#[.int .i64 k]) 3, bx (γ1 0) (#[.slice p n cap, .slice q m capv]) 25]) ?_ (fun hmx4 => ?_)
   ·
    rintro γ195 _
    refine any_fork [3, 5] (by kernel_rfl) (by simp) (each_cons _ rfl ?_ (each_cons _ rfl ?_ (each_nil)))
    ·
     refine ops_make (T := 32) (ks := 4) (by_ := 32) (n := n) rfl (by kernel_rfl) (by kernel_rfl) (by kernel_rfl) (by kernel_rfl) (by kernel_rfl) (by omega) (by have hmx : maxLen = 9223372036854775807 := rfl; omega) (fun g75 c75 hc75 => ?_)
     refine od_ ?_
     exact wk (hmx9 (c75, g75, γ195) hc75) [1, 2, 4, 7, 18, 19] [[_], [_], [_], [_], [_], [_], [_]] [1, 0, 2, 3, 4, 5, 6] rfl rfl
    ·
     refine qo0 1 [(5, .go (owns 2 1 1))] [1, 2, 4, 7, 17] [(20, .slice q m capv)] ?_
     refine od_ ?_
     refine tk (m := 4) [6] [] [1, 2, 4, 7, 17] [(21, .int .i64 ((m : Nat)))] ([]) #[true, true, true, false, true, true, true, false, false, true, false] al0 ?_
     exact wk (hmx11 γ195 trivial) [1, 2, 4, 7, 17, 21] [[_], [_], [_], [_], [_], [_]] [0, 1, 2, 3, 4, 5] rfl rfl
   refine any_cutX (V := Unit) (fun _ => True) 7 #[true, false, false, false, true, true, true, false, false, false, false] (fun _ => [(1, .func (.func 55) #[] #[.pointer (some ⟨γ1 1, 0, none⟩)]), (2, .pointer (some ⟨γ3 0, 0, none⟩)), (4, .pointer (some ⟨γ3 1, 0, none⟩)), (15, .pointer (some ⟨γ3 0, 0, none⟩)), (21, .int .i64 ((m : Nat)))]) (fun _ => [bx (γ3 1) (#[.slice none 0 0, .slice none 0 0]) 25, bx (γ3 0) (#[.slice p n cap, .slice q m capv]) 25, bx (γ1 2) (#[.slice none 0 0, .slice none 0 0]) 25, bx (γ1 1) (#[.int .i64 k]) 3, bx (γ1 0) (#[.slice p n cap, .slice q m capv]) 25]) ?_ (fun hmx3 => ?_)
   ·
    rintro _ _
    refine any_fork [1, 7, 9] (by kernel_rfl) (by simp) (each_cons _ rfl ?_ (each_cons _ rfl ?_ (each_cons _ rfl ?_ (each_nil))))
    ·
     refine qo0 1 [(1, .go (owns 1 0 1))] [1, 2, 4, 21] [(16, .slice p n cap)] ?_
     refine od_ ?_
     refine tk (m := 5) [2] [] [1, 2, 4, 21] [(17, .int .i64 ((n : Nat)))] ([]) #[true, true, true, false, true, true, true, false, false, false, false] al0 ?_
     exact wk (hmx8 () trivial) [1, 2, 4, 17, 21] [[_], [_], [_], [_], [_]] [0, 1, 2, 3, 4] rfl rfl
    ·
     refine ops_make (T := 43) (ks := 4) (by_ := 24) (n := m) rfl (by kernel_rfl) (by kernel_rfl) (by kernel_rfl) (by kernel_rfl) (by kernel_rfl) (by omega) (by have hmx : maxLen = 9223372036854775807 := rfl; omega) (fun g155 c155 hc155 => ?_)
     refine od_ ?_
     exact wk (hmx7 (c155, g155) hc155) [1, 2, 4, 15, 22] [[_], [_], [_], [_], [_], [_]] [0, 1, 2, 3, 4, 5] rfl rfl
    ·
     refine mo0 1 [] [1, 2, 4, 15, 21] (fun γ195 => [(7, .pointer (some ⟨γ195 0, 0, none⟩))]) (fun γ195 L => bx (γ195 0) (#[.slice none 0 0, .slice none 0 0]) 25 :: L) (fun γ195 => ?_)
     refine od_ ?_
     exact wk (hmx5 γ195 trivial) [1, 2, 4, 7, 15, 21] [[_], [_], [_], [_], [_], [_]] [0, 1, 2, 3, 4, 5] rfl rfl
   refine any_cutX (V := Unit) (fun _ => True) 7 #[true, true, true, false, true, false, false, false, false, false, false] (fun _ => [(1, .func (.func 55) #[] #[.pointer (some ⟨γ1 1, 0, none⟩)]), (2, .pointer (some ⟨γ3 0, 0, none⟩)), (4, .pointer (some ⟨γ3 1, 0, none⟩)), (17, .int .i64 ((n : Nat))), (19, .pointer (some ⟨γ3 0, 1, none⟩))]) (fun _ => [bx (γ3 1) (#[.slice none 0 0, .slice none 0 0]) 25, bx (γ3 0) (#[.slice p n cap, .slice q m capv]) 25, bx (γ1 2) (#[.slice none 0 0, .slice none 0 0]) 25, bx (γ1 1) (#[.int .i64 k]) 3, bx (γ1 0) (#[.slice p n cap, .slice q m capv]) 25]) ?_ (fun hmx2 => ?_)
   ·
    rintro _ _
    refine any_fork [3, 5, 9] (by kernel_rfl) (by simp) (each_cons _ rfl ?_ (each_cons _ rfl ?_ (each_cons _ rfl ?_ (each_nil))))
    ·
     refine ops_make (T := 32) (ks := 4) (by_ := 32) (n := n) rfl (by kernel_rfl) (by kernel_rfl) (by kernel_rfl) (by kernel_rfl) (by kernel_rfl) (by omega) (by have hmx : maxLen = 9223372036854775807 := rfl; omega) (fun g75 c75 hc75 => ?_)
     refine od_ ?_
     exact wk (hmx6 (c75, g75) hc75) [1, 2, 4, 18, 19] [[_], [_], [_], [_], [_], [_]] [0, 1, 2, 3, 4, 5] rfl rfl
    ·
     refine qo0 1 [(5, .go (owns 1 1 1))] [1, 2, 4, 17] [(20, .slice q m capv)] ?_
     refine od_ ?_
     refine tk (m := 5) [6] [] [1, 2, 4, 17] [(21, .int .i64 ((m : Nat)))] ([]) #[true, true, true, false, true, true, true, false, false, false, false] al0 ?_
     exact wk (hmx8 () trivial) [1, 2, 4, 17, 21] [[_], [_], [_], [_], [_]] [0, 1, 2, 3, 4] rfl rfl
    ·
     refine mo0 1 [] [1, 2, 4, 17, 19] (fun γ195 => [(7, .pointer (some ⟨γ195 0, 0, none⟩))]) (fun γ195 L => bx (γ195 0) (#[.slice none 0 0, .slice none 0 0]) 25 :: L) (fun γ195 => ?_)
     refine od_ ?_
     exact wk (hmx4 γ195 trivial) [1, 2, 4, 7, 17, 19] [[_], [_], [_], [_], [_], [_]] [0, 1, 2, 3, 4, 5] rfl rfl
   refine any_cutX (V := (Nat → Nat)) (fun γ195 => True) 8 #[true, false, false, false, true, false, false, false, false, true, false] (fun γ195 => [(1, .func (.func 55) #[] #[.pointer (some ⟨γ1 1, 0, none⟩)]), (2, .pointer (some ⟨γ3 0, 0, none⟩)), (4, .pointer (some ⟨γ3 1, 0, none⟩)), (7, .pointer (some ⟨γ195 0, 0, none⟩)), (15, .pointer (some ⟨γ3 0, 0, none⟩)), (19, .pointer (some ⟨γ3 0, 1, none⟩))]) (fun γ195 => [bx (γ195 0) (#[.slice none 0 0, .slice none 0 0]) 25, bx (γ3 1) (#[.slice none 0 0, .slice none 0 0]) 25, bx (γ3 0) (#[.slice p n cap, .slice q m capv]) 25, bx (γ1 2) (#[.slice none 0 0, .slice none 0 0]) 25, bx (γ1 1) (#[.int .i64 k]) 3, bx (γ1 0) (#[.slice p n cap, .slice q m capv]) 25]) ?_ (fun hmx1 => ?_)
   ·
    rintro γ195 _
    refine any_fork [1, 5] (by kernel_rfl) (by simp) (each_cons _ rfl ?_ (each_cons _ rfl ?_ (each_nil)))
    ·
     refine qo0 1 [(1, .go (owns 2 0 1))] [1, 2, 4, 7, 19] [(16, .slice p n cap)] ?_
     refine od_ ?_
     refine tk (m := 6) [2] [] [1, 2, 4, 7, 19] [(17, .int .i64 ((n : Nat)))] ([]) #[true, true, true, false, true, false, false, false, false, true, false] al0 ?_
     exact wk (hmx4 γ195 trivial) [1, 2, 4, 7, 17, 19] [[_], [_], [_], [_], [_], [_]] [0, 1, 2, 3, 4, 5] rfl rfl
    ·
     refine qo0 1 [(5, .go (owns 2 1 1))] [1, 2, 4, 7, 15] [(20, .slice q m capv)] ?_
     refine od_ ?_
     refine tk (m := 6) [6] [] [1, 2, 4, 7, 15] [(21, .int .i64 ((m : Nat)))] ([]) #[true, false, false, false, true, true, true, false, false, true, false] al0 ?_
     exact wk (hmx5 γ195 trivial) [1, 2, 4, 7, 15, 21] [[_], [_], [_], [_], [_], [_]] [0, 1, 2, 3, 4, 5] rfl rfl
   refine any_fork [1, 5, 9] (by kernel_rfl) (by simp) (each_cons _ rfl ?_ (each_cons _ rfl ?_ (each_cons _ rfl ?_ (each_nil))))
   ·
    refine qo0 1 [(1, .go (owns 1 0 1))] [1, 2, 4, 19] [(16, .slice p n cap)] ?_
    refine od_ ?_
    refine tk (m := 7) [2] [] [1, 2, 4, 19] [(17, .int .i64 ((n : Nat)))] ([]) #[true, true, true, false, true, false, false, false, false, false, false] al0 ?_
    exact wk (hmx2 () trivial) [1, 2, 4, 17, 19] [[_], [_], [_], [_], [_]] [0, 1, 2, 3, 4] rfl rfl
   ·
    refine qo0 1 [(5, .go (owns 1 1 1))] [1, 2, 4, 15] [(20, .slice q m capv)] ?_
    refine od_ ?_
    refine tk (m := 7) [6] [] [1, 2, 4, 15] [(21, .int .i64 ((m : Nat)))] ([]) #[true, false, false, false, true, true, true, false, false, false, false] al0 ?_
    exact wk (hmx3 () trivial) [1, 2, 4, 15, 21] [[_], [_], [_], [_], [_]] [0, 1, 2, 3, 4] rfl rfl
   ·
    refine mo0 1 [] [1, 2, 4, 15, 19] (fun γ195 => [(7, .pointer (some ⟨γ195 0, 0, none⟩))]) (fun γ195 L => bx (γ195 0) (#[.slice none 0 0, .slice none 0 0]) 25 :: L) (fun γ195 => ?_)
    refine od_ ?_
    exact wk (hmx1 γ195 trivial) [1, 2, 4, 7, 15, 19] [[_], [_], [_], [_], [_], [_]] [0, 1, 2, 3, 4, 5] rfl rfl
  rintro ⟨c155, c75, g155, g75, γ195⟩ ⟨hc155, hc75⟩
  refine any_nil (by kernel_rfl) ?_
  refine ds_ (sq_ (ao_ (qo0 4 [(1, .go (owns 0 0 1)), (3, .go (owns 4 0 1))] [1, 2, 4, 7] [(25, .slice (some ⟨g75, 0, none⟩) n n), (27, .slice p n cap)] (ops_copy 2 rfl (by kernel_rfl) (by kernel_rfl) (g := g75) (of := 0) (dn := n) (dc := n) (m := n) (cnt := n) (c := c75) (yv := (.slice p n cap)) (ds.flatMap Enc.enc) (by kernel_rfl) (by kernel_rfl) (T := 32) (ks := 4) (by_ := 32) (by kernel_rfl) (T' := 32) (by kernel_rfl) len_slice (by omega) (fun w hw => by have := first_sv (P := Try.prog) (w := w) (p := p) (m := n) (cap := cap) (cnt := n) (hds.kept hw.below) (by omega); rw [List.take_of_length_le (by omega)] at this; exact this) (by first | (rw [flat_len, Nat.zero_add, hc75, ← hn]; exact Nat.le_refl _) | (rw [flat_len, Nat.zero_add, hc75, ← hn])) (flat_one ds) ?_))))
  have hOw303 := OwnS.filled (l := ds) (n := n) hc75 hn (by have hmx : maxLen = 9223372036854775807 := rfl; omega)
  have hO303 := SlO.ofOwn (T := 32) (g := g75) hOw303 hn
  refine on_ (ds_ (sq_ (ao_ (qo0 4 [(1, .go (owns 0 1 1)), (3, .go (owns 4 1 1))] [1, 4, 7] [(30, .slice (some ⟨g155, 0, none⟩) m m), (32, .slice q m capv)] (ops_copy 1 rfl (by kernel_rfl) (by kernel_rfl) (g := g155) (of := 0) (dn := m) (dc := m) (m := m) (cnt := m) (c := c155) (yv := (.slice q m capv)) (vs.flatMap Enc.enc) (by kernel_rfl) (by kernel_rfl) (T := 43) (ks := 4) (by_ := 24) (by kernel_rfl) (T' := 43) (by kernel_rfl) len_slice (by omega) (fun w hw => by have := first_sv (P := Try.prog) (w := w) (p := q) (m := m) (cap := capv) (cnt := m) (hvs.kept hw.below) (by omega); rw [List.take_of_length_le (by omega)] at this; exact this) (by first | (rw [flat_len, Nat.zero_add, hc155, ← hm]; exact Nat.le_refl _) | (rw [flat_len, Nat.zero_add, hc155, ← hm])) (flat_one vs) ?_)))))
  have hOw306 := OwnS.filled (l := vs) (n := m) hc155 hm (by have hmx : maxLen = 9223372036854775807 := rfl; omega)
  have hO306 := SlO.ofOwn (T := 43) (g := g155) hOw306 hm
  refine on_ (ds_ (sq_ (sq_ (ao_ (qo0 1 [] [4, 7] [(34, .func (.func 55) #[] #[.pointer (some ⟨γ1 1, 0, none⟩)])] (ops_inline (g := 55) (args := #[.pointer (some ⟨γ195 0, 0, none⟩), .pointer (some ⟨γ1 1, 0, none⟩)]) (by kernel_rfl) (by kernel_rfl) (by kernel_rfl) (fun args w => Try.call55 args w) Try.func55 rfl Try.ntmps55 rfl (sq_ (qa0 [] [0, 1] [] (ds_ (sq_ ?_))))))))))
  refine at_calm rfl (by kernel_rfl) (by kernel_rfl) ?_
  refine cm 5 [(3, .go (owns 0 1 1)), (4, .go (owns 6 0 1))] [0] [(10, .slice (some ⟨g155, 0, none⟩) m m), (11, .int .i64 k)] ([]) (by kernel_rfl) rfl al0 ?_
  rcases hg311 : getK Vcp.id vs k with _ | y311
  ·
   have hpl311 := (pos_cut (k := k) (guests_iff.1 q5).vr).2.2
   refine cK (.tuple #[.int .i64 ((posK Vcp.id vs k : Nat)), .bool false]) Try.call56 (fun w hw => by have := placev_d (some ⟨g155, 0, none⟩) m m vs k w (hO306.atN (A := [_]) hw) hm (by omega) (guests_iff.1 q5).vr; rw [hasK_none hg311] at this; exact this) ?_
   refine cm 5 [] [0] [(4, .int .i64 ((posK Vcp.id vs k : Nat))), (5, .bool false)] ([]) (by kernel_rfl) rfl al0 ?_
   refine calm_nil' ?_
   refine ds_ (sq_ (sq_ (qa0 [] [0, 4] [(16, .bool true)] (ds_ (t_ (sq_ (qa0 [] [] [(3, .int .i64 4)] (ds_ (bk ([]) (.int .i64 4) (qo0 1 [] [4, 7] [(8, .int .i64 4)] (on_ (ds_ (sq_ (qa0 [] [4, 7, 8] [(37, .bool true)] (ds_ (t_ (sq_ (qa0 [(2, .go (owns 3 0 2))] [4] [(5, .int .i64 4)] (ds_ (bk (owns 3 0 2) (.tuple #[.agg #[.slice none 0 0, .slice none 0 0], .int .i64 4]) (qo0 4 [(5, .go (owns 5 0 2))] [4] [(5, .int .i64 4)] (on_ (ds_ (rt (owns 5 0 2) (.tuple #[.agg #[.slice none 0 0, .slice none 0 0], .int .i64 4]) ?_))))))))))))))))))))))))
   exact fun w' hw => by rw [dropV_none q5 hg311]; exact ⟨none, 0, 0, [], none, 0, 0, [], rfl, SlO.nil, SlO.nil, hw.below, hw.sub (List.nil_sublist _)⟩
  ·
   have hp_y311 := pos_getK (guests_iff.1 q5).vr hg311
   have hl_y311 := (List.getElem?_eq_some_iff.1 hp_y311).1
   refine cK (.tuple #[.int .i64 ((posK Vcp.id vs k : Nat)), .bool true]) Try.call56 (fun w hw => by have := placev_d (some ⟨g155, 0, none⟩) m m vs k w (hO306.atN (A := [_]) hw) hm (by omega) (guests_iff.1 q5).vr; rw [hasK_some hg311] at this; exact this) ?_
   refine cm 5 [] [0] [(4, .int .i64 ((posK Vcp.id vs k : Nat))), (5, .bool true)] ([]) (by kernel_rfl) rfl al0 ?_
   refine calm_nil' ?_
   refine ds_ (sq_ (sq_ (qa0 [] [0, 4] [(16, .bool false)] (ds_ (f_ (at_skip (ds_ (sq_ (ao_ (qo 8 [(4, .go (owns 0 1 1)), (7, .fit)] [] [(17, .pointer (some ⟨γ195 0, 0, none⟩)), (21, .slice (some ⟨g155, 0, none⟩) m m), (22, .int .i64 ((posK Vcp.id vs k : Nat))), (24, .int .i64 ((posK Vcp.id vs k + 1 : Nat)))] ([Fit .i64 ((posK Vcp.id vs k + 1 : Nat))]) (al1 (fit64 (by omega) (by omega))) (Ops.pick [[bx (γ195 0) (#[.slice (some ⟨g75, 0, none⟩) n n, .slice (some ⟨g155, 0, none⟩) m m]) 25], [bx g155 ((sets c155 0 (vs.flatMap Enc.enc))) 43], [bx g75 ((sets c75 0 (ds.flatMap Enc.enc))) 32], [bx (γ3 1) (#[.slice none 0 0, .slice none 0 0]) 25], [bx (γ3 0) (#[.slice p n cap, .slice q m capv]) 25], [bx (γ1 2) (#[.slice none 0 0, .slice none 0 0]) 25], [bx (γ1 1) (#[.int .i64 k]) 3], [bx (γ1 0) (#[.slice p n cap, .slice q m capv]) 25]] [1, 0, 2, 3, 4, 5, 6, 7] [] ([bx g155 ((sets c155 0 (vs.flatMap Enc.enc))) 43, bx (γ195 0) (#[.slice (some ⟨g75, 0, none⟩) n n, .slice (some ⟨g155, 0, none⟩) m m]) 25, bx g75 ((sets c75 0 (ds.flatMap Enc.enc))) 32, bx (γ3 1) (#[.slice none 0 0, .slice none 0 0]) 25, bx (γ3 0) (#[.slice p n cap, .slice q m capv]) 25, bx (γ1 2) (#[.slice none 0 0, .slice none 0 0]) 25, bx (γ1 1) (#[.int .i64 k]) 3, bx (γ1 0) (#[.slice p n cap, .slice q m capv]) 25]) (by kernel_rfl) rfl rfl (cP (fun v L' => ∃ q_ c_ Y_, v = .slice q_ ((posK Vcp.id vs k) + (m - (posK Vcp.id vs k + 1))) c_ ∧ L' = [bx (γ195 0) (#[.slice (some ⟨g75, 0, none⟩) n n, .slice (some ⟨g155, 0, none⟩) m m]) 25, bx g75 ((sets c75 0 (ds.flatMap Enc.enc))) 32, bx (γ3 1) (#[.slice none 0 0, .slice none 0 0]) 25, bx (γ3 0) (#[.slice p n cap, .slice q m capv]) 25, bx (γ1 2) (#[.slice none 0 0, .slice none 0 0]) 25, bx (γ1 1) (#[.int .i64 k]) 3, bx (γ1 0) (#[.slice p n cap, .slice q m capv]) 25] ++ (Y_ ++ []) ∧ SlO 43 Y_ q_ ((posK Vcp.id vs k) + (m - (posK Vcp.id vs k + 1))) c_ (vs.take (posK Vcp.id vs k) ++ vs.drop (posK Vcp.id vs k + 1))) Try.call57 (fun w hw => (deleteV_d _ ([bx (γ195 0) (#[.slice (some ⟨g75, 0, none⟩) n n, .slice (some ⟨g155, 0, none⟩) m m]) 25, bx g75 ((sets c75 0 (ds.flatMap Enc.enc))) 32, bx (γ3 1) (#[.slice none 0 0, .slice none 0 0]) 25, bx (γ3 0) (#[.slice p n cap, .slice q m capv]) 25, bx (γ1 2) (#[.slice none 0 0, .slice none 0 0]) 25, bx (γ1 1) (#[.int .i64 k]) 3, bx (γ1 0) (#[.slice p n cap, .slice q m capv]) 25] ++ []) [bx g155 ((sets c155 0 (vs.flatMap Enc.enc))) 43] (some ⟨g155, 0, none⟩) m m vs (posK Vcp.id vs k) (posK Vcp.id vs k + 1) w hw hO306 (by omega) (by omega) (by omega)).mono fun e w' ⟨q_, c_, Y_, he, hO, hY⟩ => ⟨_, _, he, ⟨q_, c_, Y_, rfl, rfl, hO⟩, hY.push⟩) ?_))))))))))))
   rintro v322 L322 ⟨q322, cq322, Y322, rfl, rfl, hO322⟩
   refine mo0 3 [(11, .go (owns 0 1 1))] [] (fun _ => []) (fun _ L => (L.set 0 (bx (γ195 0) (#[.slice (some ⟨g75, 0, none⟩) n n, .slice q322 ((posK Vcp.id vs k) + (m - (posK Vcp.id vs k + 1))) cq322]) 25))) (fun _ => on_ (ds_ (sq_ (qa0 [] [] [(3, .int .i64 0)] (ds_ (bk ([]) (.int .i64 0) (qo0 1 [] [4, 7] [(8, .int .i64 0)] (on_ (ds_ (sq_ (qa0 [] [4, 7, 8] [(37, .bool false)] (ds_ (f_ (at_skip (ds_ (sq_ (ma0 [(0, .go (owns 0 0 2)), (1, .go (owns 2 0 2))] [4] (fun _ => [(5, .int .i64 0)]) (fun _ L => (L.set 2 (bx (γ3 1) (#[.slice (some ⟨g75, 0, none⟩) n n, .slice q322 ((posK Vcp.id vs k) + (m - (posK Vcp.id vs k + 1))) cq322]) 25))) (fun _ => ds_ (bk (owns 2 0 2) (.tuple #[.agg #[.slice (some ⟨g75, 0, none⟩) n n, .slice q322 ((posK Vcp.id vs k) + (m - (posK Vcp.id vs k + 1))) cq322], .int .i64 0]) (mo0 4 [(5, .go (owns 4 0 2))] [4] (fun _ => [(5, .int .i64 0)]) (fun _ L => (L.set 4 (bx (γ1 2) (#[.slice (some ⟨g75, 0, none⟩) n n, .slice q322 ((posK Vcp.id vs k) + (m - (posK Vcp.id vs k + 1))) cq322]) 25))) (fun _ => on_ (ds_ (rt (owns 4 0 2) (.tuple #[.agg #[.slice (some ⟨g75, 0, none⟩) n n, .slice q322 ((posK Vcp.id vs k) + (m - (posK Vcp.id vs k + 1))) cq322], .int .i64 0]) ?_)))))))))))))))))))))))
   exact fun w' hw => by rw [dropV_ok q5 hg311]; exact ⟨_, _, _, _, _, _, _, _, rfl, hO303, hO322, hw.below, two_tails (Hs.pick [[bx (γ195 0) (#[.slice (some ⟨g75, 0, none⟩) n n, .slice q322 ((posK Vcp.id vs k) + (m - (posK Vcp.id vs k + 1))) cq322]) 25], [bx g75 ((sets c75 0 (ds.flatMap Enc.enc))) 32], [bx (γ3 1) (#[.slice (some ⟨g75, 0, none⟩) n n, .slice q322 ((posK Vcp.id vs k) + (m - (posK Vcp.id vs k + 1))) cq322]) 25], [bx (γ3 0) (#[.slice p n cap, .slice q m capv]) 25], [bx (γ1 2) (#[.slice (some ⟨g75, 0, none⟩) n n, .slice q322 ((posK Vcp.id vs k) + (m - (posK Vcp.id vs k + 1))) cq322]) 25], [bx (γ1 1) (#[.int .i64 k]) 3], [bx (γ1 0) (#[.slice p n cap, .slice q m capv]) 25], Y322] [1, 7] [0, 2, 3, 4, 5, 6] (by kernel_rfl) hw)⟩
end Go.Proofs.Ytnoefldpkfpglaa

/-! Domains: what the reference tells; plain. -/
namespace Go.Proofs.Ytnoefldpkfpglaa
open Go Go.RowKit

section
variable {α : Type} {f : α → Int} {l : List α} {x y : α} {k : Int} {j : Nat}
theorem getK_on (hI : getK f (l.drop j) k = getK f l k) (hx : l[j]? = some x) (e : ¬ f x = k) : getK f (l.drop (j + 1)) k = getK f l k := by
  rw [← hI, ← List.getElem_cons_drop (List.getElem?_eq_some_iff.1 hx).1, (List.getElem?_eq_some_iff.1 hx).2]
  simp [getK, e]
theorem getK_at (hI : getK f (l.drop j) k = getK f l k) (hx : l[j]? = some x) (e : f x = k) : getK f l k = some x := by
  rw [← hI, ← List.getElem_cons_drop (List.getElem?_eq_some_iff.1 hx).1, (List.getElem?_eq_some_iff.1 hx).2]
  simp [getK, e]
theorem getK_end (hI : getK f (l.drop j) k = getK f l k) (h : l.length ≤ j) : getK f l k = none := by
  rw [← hI, List.drop_of_length_le h]; rfl
theorem ris_take0 : Ris f (l.take 0) := by rw [List.take_zero]; exact List.Pairwise.nil
theorem ris_take_on (h : Ris f (l.take j)) (hx : l[j]? = some x) (hp : j = 0 ∨ ∃ y, l[j - 1]? = some y ∧ f y < f x) : Ris f (l.take (j + 1)) := by
  rw [List.take_add_one, hx]
  refine List.pairwise_append.2 ⟨h, by simp, fun a ha b hb => ?_⟩
  simp only [Option.toList_some, List.mem_singleton] at hb
  subst hb
  rcases hp with rfl | ⟨y, hy, hlt⟩
  · simp at ha
  · obtain ⟨i, hi⟩ := List.getElem?_of_mem ha
    rw [List.getElem?_take] at hi
    split at hi
    · rename_i hij
      by_cases e : i = j - 1
      · subst e; rw [hy] at hi; cases hi; exact hlt
      · have h1 : (l.take j)[i]? = some a := by rw [List.getElem?_take, if_pos hij]; exact hi
        have h2 : (l.take j)[j - 1]? = some y := by rw [List.getElem?_take, if_pos (by omega)]; exact hy
        have := h.at (i := i) (j := j - 1) (by omega) h1 h2
        omega
    · cases hi
end
/-- What a look answers, as a row and a Bool. -/
def rowD (o : Option Dom) : Dom := o.getD ⟨0, 0, 0, 0⟩
def rowC (o : Option Vcp) : Vcp := o.getD ⟨0, 0, 0, 0⟩
theorem optD_row (o : Option Dom) : optD o = .tuple #[.agg #[.int .i64 (rowD o).id, .int .i64 (rowD o).weight, .int .i64 (rowD o).cap, .int .i64 (rowD o).pool], .bool o.isSome] := by cases o <;> rfl
theorem optC_row (o : Option Vcp) : optC o = .tuple #[.agg #[.int .i64 (rowC o).id, .int .i64 (rowC o).dom, .int .u32 (rowC o).hard, .int .u32 (rowC o).soft], .bool o.isSome] := by cases o <;> rfl
/-- Words that are words. -/
def Wrd (vs : List Vcp) : Prop := ∀ v ∈ vs, (0 ≤ v.hard ∧ v.hard < 4294967296) ∧ 0 ≤ v.soft ∧ v.soft < 4294967296
section
variable {ds : List Dom} {vs : List Vcp} {k h s : Int} {d : Dom} {v : Vcp} {j : Nat}
theorem maskB_wrd (h0 : 0 ≤ h ∧ h < 4294967296) (s0 : 0 ≤ s ∧ s < 4294967296) : maskB h s = (decide (h < 256) && decide (s < 256) && decide (0 < h)) := by
  unfold maskB
  rw [decide_eq_decide.2 (clr_iff h0.1 h0.2), decide_eq_decide.2 (clr_iff s0.1 s0.2)]
  congr 1
  by_cases e : h = 0
  · subst e; rfl
  · rw [decide_eq_false e, decide_eq_true (by omega : 0 < h)]; rfl
/-- Not all may be. -/
theorem bad_dl (h : 8 < ds.length) : guestsB ds vs = false := by
  cases g : guestsB ds vs with
  | false => rfl
  | true => have := (guests_iff.1 g).dl; omega
theorem bad_vl (h : 16 < vs.length) : guestsB ds vs = false := by
  cases g : guestsB ds vs with
  | false => rfl
  | true => have := (guests_iff.1 g).vl; omega
theorem bad_dom (hx : ds[j]? = some d) (h : mayB d = false ∨ 8 < cntV vs d.id) : guestsB ds vs = false := by
  cases g : guestsB ds vs with
  | false => rfl
  | true =>
    have := (guests_iff.1 g).dm d (List.mem_of_getElem? hx)
    rcases h with h | h
    · rw [this.1] at h; cases h
    · omega
theorem bad_drise {e : Dom} {i : Nat} (hx : ds[j]? = some d) (hy : ds[i]? = some e) (hij : i < j) (h : d.id ≤ e.id) : guestsB ds vs = false := by
  cases g : guestsB ds vs with
  | false => rfl
  | true => have := (guests_iff.1 g).dr.at hij hy hx; omega
theorem bad_vrise {e : Vcp} {i : Nat} (hx : vs[j]? = some v) (hy : vs[i]? = some e) (hij : i < j) (h : v.id ≤ e.id) : guestsB ds vs = false := by
  cases g : guestsB ds vs with
  | false => rfl
  | true => have := (guests_iff.1 g).vr.at hij hy hx; omega
theorem bad_vcp (hx : vs[j]? = some v) (h : v.id < 1 ∨ 16 < v.id ∨ (getK Dom.id ds v.dom).isSome = false ∨ maskB v.hard v.soft = false) : guestsB ds vs = false := by
  cases g : guestsB ds vs with
  | false => rfl
  | true =>
    obtain ⟨a, b, c, d, hd, e⟩ := (guests_iff.1 g).vm v (List.mem_of_getElem? hx)
    rcases h with h | h | h | h
    · omega
    · omega
    · rw [(getK_iff (guests_iff.1 g).dr).2 ⟨hd, e⟩] at h; cases h
    · rw [c] at h; cases h
theorem good_all (h1 : Ris Dom.id (ds.take j)) (hj : ds.length ≤ j) (h2 : ∀ x ∈ ds.take j, mayB x = true ∧ cntV vs x.id ≤ 8) {i : Nat} (h3 : Ris Vcp.id (vs.take i)) (hi : vs.length ≤ i) (h4 : ∀ x ∈ vs.take i, 1 ≤ x.id ∧ x.id ≤ 16 ∧ maskB x.hard x.soft = true ∧ ∃ d ∈ ds, d.id = x.dom) : guestsB ds vs = true := by
  rw [List.take_of_length_le hj] at h1 h2
  rw [List.take_of_length_le hi] at h3 h4
  exact guests_iff.2 ⟨h1, h3, h2, h4⟩
theorem all_on {α : Type} {l : List α} {x : α} {p : α → Prop} (h : ∀ y ∈ l.take j, p y) (hx : l[j]? = some x) (e : p x) : ∀ y ∈ l.take (j + 1), p y := by
  intro y hy
  rw [List.take_add_one, hx] at hy
  simp only [Option.toList_some, List.mem_append, List.mem_singleton] at hy
  rcases hy with hy | rfl
  · exact h y hy
  · exact e
theorem all_take0 {α : Type} {l : List α} {p : α → Prop} : ∀ y ∈ l.take 0, p y := by simp
theorem dom_of_some (e : (getK Dom.id ds k).isSome = true) : ∃ d ∈ ds, d.id = k := by
  cases g : getK Dom.id ds k with
  | none => rw [g] at e; cases e
  | some d => exact ⟨d, (getK_mem g).1, (getK_mem g).2⟩
end
end Go.Proofs.Ytnoefldpkfpglaa

/-! Domains: the same ones. -/
namespace Go.Proofs.Ytnoefldpkfpglaa
open Go Go.RowKit
theorem dom_eqRun (op : BinOp) (hop : op = .eql ∨ op = .neq) (x y : Operand) (a b : Dom) (r : Bool) (hr : r = (if op = .eql then decide (a = b) else !decide (a = b))) : EqRun Try.prog op 32 x y (.agg #[.int .i64 a.id, .int .i64 a.weight, .int .i64 a.cap, .int .i64 a.pool]) (.agg #[.int .i64 b.id, .int .i64 b.weight, .int .i64 b.cap, .int .i64 b.pool]) r := by
 intro w
 subst hr
 have hS : Try.prog.underlying 32 = some (.struct (Try.prog.fieldsOf 32)) := by kernel_rfl
 have hp : Try.prog.stoodInHeld 32 = false := by kernel_rfl
 have hg : Try.prog.eqGuardType Try.prog.depth 32 = false := by kernel_rfl
 have key : (Op.equal 32 (.agg #[.int .i64 a.id, .int .i64 a.weight, .int .i64 a.cap, .int .i64 a.pool]) (.agg #[.int .i64 b.id, .int .i64 b.weight, .int .i64 b.cap, .int .i64 b.pool])).run Try.prog w = .ok (decide (a = b)) w := by
  unfold Op.equal
  rw [show Op.maxDepth = 9999 + 1 from rfl, run_equalIn_struct w 9999 32 _ _ hS hp]
  simp only [Program.fieldsOf, Try.underlying32]
  go_simp
  obtain ⟨a0, a1, a2, a3⟩ := a
  obtain ⟨b0, b1, b2, b3⟩ := b
  simp only [Dom.mk.injEq]
  by_cases h0 : a0 = b0 <;> by_cases h1 : a1 = b1 <;> by_cases h2 : a2 = b2 <;> by_cases h3 : a3 = b3 <;> simp [h0, h1, h2, h3]
 have guard : (eqGuard op 32 x y (.agg #[.int .i64 a.id, .int .i64 a.weight, .int .i64 a.cap, .int .i64 a.pool]) (.agg #[.int .i64 b.id, .int .i64 b.weight, .int .i64 b.cap, .int .i64 b.pool])).run Try.prog w = .ok () w := by
  unfold eqGuard
  rcases hop with rfl | rfl <;> simp [hg]
 rw [Sem.run_bind, guard]
 simp only [Result.andThen_ok]
 rcases hop with rfl | rfl <;> simp [binOp, Sem.run_bind, key]
theorem dom_ne_t {x y : Operand} {a b : Dom} (h : a = b) : EqRun Try.prog .neq 32 x y (.agg #[.int .i64 a.id, .int .i64 a.weight, .int .i64 a.cap, .int .i64 a.pool]) (.agg #[.int .i64 b.id, .int .i64 b.weight, .int .i64 b.cap, .int .i64 b.pool]) false := dom_eqRun _ (.inr rfl) x y a b _ (by simp [h])
theorem dom_ne_f {x y : Operand} {a b : Dom} (h : ¬ a = b) : EqRun Try.prog .neq 32 x y (.agg #[.int .i64 a.id, .int .i64 a.weight, .int .i64 a.cap, .int .i64 a.pool]) (.agg #[.int .i64 b.id, .int .i64 b.weight, .int .i64 b.cap, .int .i64 b.pool]) true := dom_eqRun _ (.inr rfl) x y a b _ (by simp [h])
theorem vcp_eqRun (op : BinOp) (hop : op = .eql ∨ op = .neq) (x y : Operand) (a b : Vcp) (r : Bool) (hr : r = (if op = .eql then decide (a = b) else !decide (a = b))) : EqRun Try.prog op 43 x y (.agg #[.int .i64 a.id, .int .i64 a.dom, .int .u32 a.hard, .int .u32 a.soft]) (.agg #[.int .i64 b.id, .int .i64 b.dom, .int .u32 b.hard, .int .u32 b.soft]) r := by
 intro w
 subst hr
 have hS : Try.prog.underlying 43 = some (.struct (Try.prog.fieldsOf 43)) := by kernel_rfl
 have hp : Try.prog.stoodInHeld 43 = false := by kernel_rfl
 have hg : Try.prog.eqGuardType Try.prog.depth 43 = false := by kernel_rfl
 have key : (Op.equal 43 (.agg #[.int .i64 a.id, .int .i64 a.dom, .int .u32 a.hard, .int .u32 a.soft]) (.agg #[.int .i64 b.id, .int .i64 b.dom, .int .u32 b.hard, .int .u32 b.soft])).run Try.prog w = .ok (decide (a = b)) w := by
  unfold Op.equal
  rw [show Op.maxDepth = 9999 + 1 from rfl, run_equalIn_struct w 9999 43 _ _ hS hp]
  simp only [Program.fieldsOf, Try.underlying43]
  go_simp
  obtain ⟨a0, a1, a2, a3⟩ := a
  obtain ⟨b0, b1, b2, b3⟩ := b
  simp only [Vcp.mk.injEq]
  by_cases h0 : a0 = b0 <;> by_cases h1 : a1 = b1 <;> by_cases h2 : a2 = b2 <;> by_cases h3 : a3 = b3 <;> simp [h0, h1, h2, h3]
 have guard : (eqGuard op 43 x y (.agg #[.int .i64 a.id, .int .i64 a.dom, .int .u32 a.hard, .int .u32 a.soft]) (.agg #[.int .i64 b.id, .int .i64 b.dom, .int .u32 b.hard, .int .u32 b.soft])).run Try.prog w = .ok () w := by
  unfold eqGuard
  rcases hop with rfl | rfl <;> simp [hg]
 rw [Sem.run_bind, guard]
 simp only [Result.andThen_ok]
 rcases hop with rfl | rfl <;> simp [binOp, Sem.run_bind, key]
theorem vcp_ne_t {x y : Operand} {a b : Vcp} (h : a = b) : EqRun Try.prog .neq 43 x y (.agg #[.int .i64 a.id, .int .i64 a.dom, .int .u32 a.hard, .int .u32 a.soft]) (.agg #[.int .i64 b.id, .int .i64 b.dom, .int .u32 b.hard, .int .u32 b.soft]) false := vcp_eqRun _ (.inr rfl) x y a b _ (by simp [h])
theorem vcp_ne_f {x y : Operand} {a b : Vcp} (h : ¬ a = b) : EqRun Try.prog .neq 43 x y (.agg #[.int .i64 a.id, .int .i64 a.dom, .int .u32 a.hard, .int .u32 a.soft]) (.agg #[.int .i64 b.id, .int .i64 b.dom, .int .u32 b.hard, .int .u32 b.soft]) true := vcp_eqRun _ (.inr rfl) x y a b _ (by simp [h])

end Go.Proofs.Ytnoefldpkfpglaa

/-! Domains: the reference. -/
namespace Go.Proofs.Ytnoefldpkfpglaa
open Go Go.RowKit

set_option maxRecDepth 100000 in
theorem rmay_d (d : Dom) (w : World)
 : Calls Try.prog 32 #[.agg #[.int .i64 d.id, .int .i64 d.weight, .int .i64 d.cap, .int .i64 d.pool]] w fun e w' => e = .returned (.bool (mayB d)) ∧ Below w.heap.size w w' := by
 refine enter (Hs.start w) Try.func32 rfl Try.ntmps32 rfl (sq_ (ma0 [] [] (fun γ1 => [(1, .pointer (some ⟨γ1 0, 0, none⟩))]) (fun γ1 L => bx (γ1 0) (#[.int .i64 d.id, .int .i64 d.weight, .int .i64 d.cap, .int .i64 d.pool]) 32 :: L) (fun γ1 => ds_ (sq_ ?_))))
 by_cases q3 : (d.id : Int) ≥ (1 : Int)
 ·
  by_cases q5 : (d.id : Int) ≤ (8 : Int)
  ·
   by_cases q7 : (d.weight : Int) ≥ (1 : Int)
   ·
    by_cases q9 : (d.weight : Int) ≤ (65535 : Int)
    ·
     by_cases q11 : (d.cap : Int) ≥ (0 : Int)
     ·
      by_cases q13 : (d.cap : Int) ≤ (800 : Int)
      ·
       by_cases q15 : (d.pool : Int) ≥ (0 : Int)
       ·
        by_cases q17 : (d.pool : Int) ≤ (3 : Int)
        ·
         refine qa [(1, .go (owns 0 0 1)), (2, .yes), (5, .go (owns 0 0 1)), (6, .yes), (10, .go (owns 0 1 1)), (11, .yes), (15, .go (owns 0 1 1)), (16, .yes), (20, .go (owns 0 2 1)), (21, .yes), (25, .go (owns 0 2 1)), (26, .yes), (30, .go (owns 0 3 1)), (31, .yes), (35, .go (owns 0 3 1)), (36, .yes)] [] [(2, .bool true)] ([(d.id : Int) ≥ (1 : Int)] ++ ([(d.id : Int) ≤ (8 : Int)] ++ ([(d.weight : Int) ≥ (1 : Int)] ++ ([(d.weight : Int) ≤ (65535 : Int)] ++ ([(d.cap : Int) ≥ (0 : Int)] ++ ([(d.cap : Int) ≤ (800 : Int)] ++ ([(d.pool : Int) ≥ (0 : Int)] ++ ([(d.pool : Int) ≤ (3 : Int)])))))))) (alA (al1 q3) (alA (al1 q5) (alA (al1 q7) (alA (al1 q9) (alA (al1 q11) (alA (al1 q13) (alA (al1 q15) (al1 q17)))))))) (ds_ (rt ([]) (.bool true) ?_))
         exact fun w' hw => ⟨by rw [show mayB d = true from by simp only [mayB, decide_eq_true_eq]; omega], hw.below⟩
        ·
         refine qa [(1, .go (owns 0 0 1)), (2, .yes), (5, .go (owns 0 0 1)), (6, .yes), (10, .go (owns 0 1 1)), (11, .yes), (15, .go (owns 0 1 1)), (16, .yes), (20, .go (owns 0 2 1)), (21, .yes), (25, .go (owns 0 2 1)), (26, .yes), (30, .go (owns 0 3 1)), (31, .yes), (35, .go (owns 0 3 1)), (36, .no)] [] [(2, .bool false)] ([(d.id : Int) ≥ (1 : Int)] ++ ([(d.id : Int) ≤ (8 : Int)] ++ ([(d.weight : Int) ≥ (1 : Int)] ++ ([(d.weight : Int) ≤ (65535 : Int)] ++ ([(d.cap : Int) ≥ (0 : Int)] ++ ([(d.cap : Int) ≤ (800 : Int)] ++ ([(d.pool : Int) ≥ (0 : Int)] ++ ([¬ ((d.pool : Int) ≤ (3 : Int))])))))))) (alA (al1 q3) (alA (al1 q5) (alA (al1 q7) (alA (al1 q9) (alA (al1 q11) (alA (al1 q13) (alA (al1 q15) (al1 q17)))))))) (ds_ (rt ([]) (.bool false) ?_))
         exact fun w' hw => ⟨by rw [show mayB d = false from by simp only [mayB, decide_eq_false_iff_not]; omega], hw.below⟩
       ·
        refine qa [(1, .go (owns 0 0 1)), (2, .yes), (5, .go (owns 0 0 1)), (6, .yes), (10, .go (owns 0 1 1)), (11, .yes), (15, .go (owns 0 1 1)), (16, .yes), (20, .go (owns 0 2 1)), (21, .yes), (25, .go (owns 0 2 1)), (26, .yes), (30, .go (owns 0 3 1)), (31, .no)] [] [(2, .bool false)] ([(d.id : Int) ≥ (1 : Int)] ++ ([(d.id : Int) ≤ (8 : Int)] ++ ([(d.weight : Int) ≥ (1 : Int)] ++ ([(d.weight : Int) ≤ (65535 : Int)] ++ ([(d.cap : Int) ≥ (0 : Int)] ++ ([(d.cap : Int) ≤ (800 : Int)] ++ ([¬ ((d.pool : Int) ≥ (0 : Int))]))))))) (alA (al1 q3) (alA (al1 q5) (alA (al1 q7) (alA (al1 q9) (alA (al1 q11) (alA (al1 q13) (al1 q15))))))) (ds_ (rt ([]) (.bool false) ?_))
        exact fun w' hw => ⟨by rw [show mayB d = false from by simp only [mayB, decide_eq_false_iff_not]; omega], hw.below⟩
      ·
       refine qa [(1, .go (owns 0 0 1)), (2, .yes), (5, .go (owns 0 0 1)), (6, .yes), (10, .go (owns 0 1 1)), (11, .yes), (15, .go (owns 0 1 1)), (16, .yes), (20, .go (owns 0 2 1)), (21, .yes), (25, .go (owns 0 2 1)), (26, .no)] [] [(2, .bool false)] ([(d.id : Int) ≥ (1 : Int)] ++ ([(d.id : Int) ≤ (8 : Int)] ++ ([(d.weight : Int) ≥ (1 : Int)] ++ ([(d.weight : Int) ≤ (65535 : Int)] ++ ([(d.cap : Int) ≥ (0 : Int)] ++ ([¬ ((d.cap : Int) ≤ (800 : Int))])))))) (alA (al1 q3) (alA (al1 q5) (alA (al1 q7) (alA (al1 q9) (alA (al1 q11) (al1 q13)))))) (ds_ (rt ([]) (.bool false) ?_))
       exact fun w' hw => ⟨by rw [show mayB d = false from by simp only [mayB, decide_eq_false_iff_not]; omega], hw.below⟩
     ·
      refine qa [(1, .go (owns 0 0 1)), (2, .yes), (5, .go (owns 0 0 1)), (6, .yes), (10, .go (owns 0 1 1)), (11, .yes), (15, .go (owns 0 1 1)), (16, .yes), (20, .go (owns 0 2 1)), (21, .no)] [] [(2, .bool false)] ([(d.id : Int) ≥ (1 : Int)] ++ ([(d.id : Int) ≤ (8 : Int)] ++ ([(d.weight : Int) ≥ (1 : Int)] ++ ([(d.weight : Int) ≤ (65535 : Int)] ++ ([¬ ((d.cap : Int) ≥ (0 : Int))]))))) (alA (al1 q3) (alA (al1 q5) (alA (al1 q7) (alA (al1 q9) (al1 q11))))) (ds_ (rt ([]) (.bool false) ?_))
      exact fun w' hw => ⟨by rw [show mayB d = false from by simp only [mayB, decide_eq_false_iff_not]; omega], hw.below⟩
    ·
     refine qa [(1, .go (owns 0 0 1)), (2, .yes), (5, .go (owns 0 0 1)), (6, .yes), (10, .go (owns 0 1 1)), (11, .yes), (15, .go (owns 0 1 1)), (16, .no)] [] [(2, .bool false)] ([(d.id : Int) ≥ (1 : Int)] ++ ([(d.id : Int) ≤ (8 : Int)] ++ ([(d.weight : Int) ≥ (1 : Int)] ++ ([¬ ((d.weight : Int) ≤ (65535 : Int))])))) (alA (al1 q3) (alA (al1 q5) (alA (al1 q7) (al1 q9)))) (ds_ (rt ([]) (.bool false) ?_))
     exact fun w' hw => ⟨by rw [show mayB d = false from by simp only [mayB, decide_eq_false_iff_not]; omega], hw.below⟩
   ·
    refine qa [(1, .go (owns 0 0 1)), (2, .yes), (5, .go (owns 0 0 1)), (6, .yes), (10, .go (owns 0 1 1)), (11, .no)] [] [(2, .bool false)] ([(d.id : Int) ≥ (1 : Int)] ++ ([(d.id : Int) ≤ (8 : Int)] ++ ([¬ ((d.weight : Int) ≥ (1 : Int))]))) (alA (al1 q3) (alA (al1 q5) (al1 q7))) (ds_ (rt ([]) (.bool false) ?_))
    exact fun w' hw => ⟨by rw [show mayB d = false from by simp only [mayB, decide_eq_false_iff_not]; omega], hw.below⟩
  ·
   refine qa [(1, .go (owns 0 0 1)), (2, .yes), (5, .go (owns 0 0 1)), (6, .no)] [] [(2, .bool false)] ([(d.id : Int) ≥ (1 : Int)] ++ ([¬ ((d.id : Int) ≤ (8 : Int))])) (alA (al1 q3) (al1 q5)) (ds_ (rt ([]) (.bool false) ?_))
   exact fun w' hw => ⟨by rw [show mayB d = false from by simp only [mayB, decide_eq_false_iff_not]; omega], hw.below⟩
 ·
  refine qa [(1, .go (owns 0 0 1)), (2, .no)] [] [(2, .bool false)] ([¬ ((d.id : Int) ≥ (1 : Int))]) (al1 q3) (ds_ (rt ([]) (.bool false) ?_))
  exact fun w' hw => ⟨by rw [show mayB d = false from by simp only [mayB, decide_eq_false_iff_not]; omega], hw.below⟩

set_option maxRecDepth 100000 in
theorem rset_d (s : Int) (w : World)
 : Calls Try.prog 59 #[.int .u32 s] w fun e w' => e = .returned (.bool (decide (s < 256))) ∧ Below w.heap.size w w' := by
 refine enter (Hs.start w) Try.func59 rfl Try.ntmps59 rfl (sq_ (qa0 [] [0] [] (ds_ (sq_ ?_))))
 by_cases q3 : (s : Int) < (256 : Int)
 ·
  refine qa [(1, .yes)] [] [(2, .bool true)] ([(s : Int) < (256 : Int)]) (al1 q3) (ds_ (rt ([]) (.bool true) ?_))
  exact fun w' hw => ⟨by rw [show decide (s < 256) = true from by simp only [decide_eq_true_eq]; omega], hw.below⟩
 ·
  refine qa [(1, .no)] [] [(2, .bool false)] ([¬ ((s : Int) < (256 : Int))]) (al1 q3) (ds_ (rt ([]) (.bool false) ?_))
  exact fun w' hw => ⟨by rw [show decide (s < 256) = false from by simp only [decide_eq_false_iff_not]; omega], hw.below⟩

set_option maxRecDepth 100000 in
theorem rmask_d (h s : Int) (w : World)
 (h0 : 0 ≤ h ∧ h < 4294967296) (s0 : 0 ≤ s ∧ s < 4294967296)
 : Calls Try.prog 21 #[.agg #[.int .u32 h, .int .u32 s]] w fun e w' => e = .returned (.bool (maskB h s)) ∧ Below w.heap.size w w' := by
 refine enter (Hs.start w) Try.func21 rfl Try.ntmps21 rfl (sq_ (ma0 [] [] (fun γ1 => [(1, .pointer (some ⟨γ1 0, 0, none⟩))]) (fun γ1 L => bx (γ1 0) (#[.int .u32 h, .int .u32 s]) 41 :: L) (fun γ1 => ds_ (sq_ (ao_ (qo0 2 [(1, .go (owns 0 0 1))] [1] [(4, .int .u32 h)] ?_))))))
 rcases q3 : decide (h < 256) with _ | _
 ·
  refine cD (.bool false) Try.call59 (fun w hw => by have := rset_d h w; rw [q3] at this; exact this) (qo0 11 [] [] [(2, .bool false)] (on_ (ds_ (rt ([]) (.bool false) ?_))))
  exact fun w' hw => ⟨by rw [maskB_wrd h0 s0]; simp only [q3]; try simp; try omega, hw.below⟩
 ·
  refine cD (.bool true) Try.call59 (fun w hw => by have := rset_d h w; rw [q3] at this; exact this) (qo0 3 [(5, .go (owns 0 1 1))] [1] [(6, .bool true), (8, .int .u32 s)] ?_)
  rcases q6 : decide (s < 256) with _ | _
  ·
   refine cD (.bool false) Try.call59 (fun w hw => by have := rset_d s w; rw [q6] at this; exact this) (qo0 7 [] [] [(2, .bool false)] (on_ (ds_ (rt ([]) (.bool false) ?_))))
   exact fun w' hw => ⟨by rw [maskB_wrd h0 s0]; simp only [q3, q6]; try simp; try omega, hw.below⟩
  ·
   refine cD (.bool true) Try.call59 (fun w hw => by have := rset_d s w; rw [q6] at this; exact this) ?_
   by_cases q9 : (h : Int) > (0 : Int)
   ·
    refine qo 7 [(10, .go (owns 0 0 1)), (11, .yes)] [] [(2, .bool true)] ([(h : Int) > (0 : Int)]) (al1 q9) (on_ (ds_ (rt ([]) (.bool true) ?_)))
    exact fun w' hw => ⟨by rw [maskB_wrd h0 s0]; simp only [q3, q6]; try simp; try omega, hw.below⟩
   ·
    refine qo 7 [(10, .go (owns 0 0 1)), (11, .no)] [] [(2, .bool false)] ([¬ ((h : Int) > (0 : Int))]) (al1 q9) (on_ (ds_ (rt ([]) (.bool false) ?_)))
    exact fun w' hw => ⟨by rw [maskB_wrd h0 s0]; simp only [q3, q6]; try simp; try omega, hw.below⟩

set_option maxRecDepth 100000 in
theorem rdom_d (p : Option Addr) (n cap : Nat) (ds : List Dom) (q : Option Addr) (m capv : Nat) (vs : List Vcp) (k : Int) (w : World)
 (hds : Sv w p ds) (hn : n = ds.length) (hb : n ≤ 1000)
 (hvs : Sv w q vs) (hm : m = vs.length) (hmb : m ≤ 1000)
 : Calls Try.prog 22 #[.agg #[.slice p n cap, .slice q m capv], .int .i64 k] w fun e w' => e = .returned (optD (getK Dom.id ds k)) ∧ Below w.heap.size w w' := by
 refine enter (Hs.start w) Try.func22 rfl Try.ntmps22 rfl (sq_ (ma0 [] [1] (fun γ1 => [(2, .pointer (some ⟨γ1 0, 0, none⟩)), (4, .pointer (some ⟨γ1 1, 0, none⟩))]) (fun γ1 L => bx (γ1 1) (#[.int .i64 0, .int .i64 0, .int .i64 0, .int .i64 0]) 32 :: bx (γ1 0) (#[.slice p n cap, .slice q m capv]) 25 :: L) (fun γ1 => ds_ (sq_ (sq_ (qa0 [] [1, 2, 4] [(6, .int .i64 0)] (ds_ (at_block (at_loop (α := Nat) [1, 2, 4, 6] (fun j => [(1, .int .i64 k), (2, .pointer (some ⟨γ1 0, 0, none⟩)), (4, .pointer (some ⟨γ1 1, 0, none⟩)), (6, .int .i64 ((j : Nat)))]) (fun j => [bx (γ1 1) (#[.int .i64 0, .int .i64 0, .int .i64 0, .int .i64 0]) 32, bx (γ1 0) (#[.slice p n cap, .slice q m capv]) 25]) (fun j => j ≤ n ∧ getK Dom.id (ds.drop j) k = getK Dom.id ds k) (fun j => n - j) 0 (by kernel_rfl) rfl ⟨Nat.zero_le _, by rw [List.drop_zero]⟩ ?_)))))))))
 rintro j
 rintro ⟨hj, hI⟩
 refine sq_ (sq_ ?_)
 by_cases q4 : ((j : Nat) : Int) < ((n : Nat) : Int)
 ·
  refine qa [(2, .go (owns 1 0 1)), (4, .yes)] [1, 2, 4, 6] [(11, .bool true)] ([((j : Nat) : Int) < ((n : Nat) : Int)]) (al1 q4) (ds_ (t_ (at_skip (ds_ (sq_ (at_block (sq_ ?_)))))))
  obtain ⟨b7, o7, rfl⟩ := hds.pos (i := j) (by omega)
  obtain ⟨x9, hx9⟩ := get_some (l := ds) (m := j) (by omega)
  by_cases q11 : (x9.id : Int) = (k : Int)
  ·
   refine qa [(1, .go (owns 1 0 1)), (3, .at b7 o7 j), (5, .go (outs b7 (o7 + j * 4) [.int .i64 x9.id])), (7, .yes)] [1, 2, 4, 6] [(21, .bool true)] ([(some ⟨b7, o7, none⟩ : Option Addr) = some ⟨b7, o7, none⟩, ((j : Nat)) = ((j : Nat) : Int), j < n] ++ (cellsP w b7 (o7 + j * 4) [.int .i64 x9.id] ++ ([(x9.id : Int) = (k : Int)]))) (alA (al2 rfl (al2 rfl (al1 (by omega)))) (alA (rd_pre (hds.get hx9) _ rfl) (al1 q11))) (ds_ (t_ (sq_ (ma [(1, .go (owns 1 0 1)), (3, .at b7 o7 j), (4, .go (outs b7 (o7 + j * 4) [.int .i64 x9.id, .int .i64 x9.weight, .int .i64 x9.cap, .int .i64 x9.pool])), (5, .go (owns 0 0 4))] [4] (fun _ => [(5, .bool true)]) (fun _ L => (L.set 0 (bx (γ1 1) (#[.int .i64 x9.id, .int .i64 x9.weight, .int .i64 x9.cap, .int .i64 x9.pool]) 32))) (fun _ => [(some ⟨b7, o7, none⟩ : Option Addr) = some ⟨b7, o7, none⟩, ((j : Nat)) = ((j : Nat) : Int), j < n] ++ (cellsP w b7 (o7 + j * 4) [.int .i64 x9.id, .int .i64 x9.weight, .int .i64 x9.cap, .int .i64 x9.pool])) (fun _ => (alA (al2 rfl (al2 rfl (al1 (by omega)))) (rd_pre (hds.get hx9) _ rfl))) (fun _ => ds_ (rt (owns 0 0 4) (.tuple #[.agg #[.int .i64 x9.id, .int .i64 x9.weight, .int .i64 x9.cap, .int .i64 x9.pool], .bool true]) ?_))))))
   exact fun w' hw => ⟨by rw [getK_at hI hx9 (by omega)]; rfl, hw.below⟩
  ·
   refine qa [(1, .go (owns 1 0 1)), (3, .at b7 o7 j), (5, .go (outs b7 (o7 + j * 4) [.int .i64 x9.id])), (7, .no)] [1, 2, 4, 6] [(21, .bool false)] ([(some ⟨b7, o7, none⟩ : Option Addr) = some ⟨b7, o7, none⟩, ((j : Nat)) = ((j : Nat) : Int), j < n] ++ (cellsP w b7 (o7 + j * 4) [.int .i64 x9.id] ++ ([¬ ((x9.id : Int) = (k : Int))]))) (alA (al2 rfl (al2 rfl (al1 (by omega)))) (alA (rd_pre (hds.get hx9) _ rfl) (al1 q11))) (ds_ (f_ (at_skip (done_block (ds_ (qa [(1, .fit)] [1, 2, 4] [(6, .int .i64 ((j + 1 : Nat)))] ([Fit .i64 ((j + 1 : Nat))]) (al1 (fit64 (by omega) (by omega))) ?_))))))
   exact dr [1, 2, 4, 6] (j + 1) ⟨by omega, getK_on hI hx9 (by omega)⟩
 ·
  refine qa [(2, .go (owns 1 0 1)), (4, .no)] [1, 2, 4, 6] [(11, .bool false)] ([¬ (((j : Nat) : Int) < ((n : Nat) : Int))]) (al1 q4) (ds_ (f_ (at_leave _ rfl (ds_ (sq_ (qa0 [(1, .go (owns 0 0 4))] [4] [(5, .bool false)] (ds_ (rt (owns 0 0 4) (.tuple #[.agg #[.int .i64 0, .int .i64 0, .int .i64 0, .int .i64 0], .bool false]) ?_))))))))
  exact fun w' hw => ⟨by rw [getK_end hI (by omega)]; rfl, hw.below⟩

set_option maxRecDepth 100000 in
theorem rvcp_d (p : Option Addr) (n cap : Nat) (ds : List Dom) (q : Option Addr) (m capv : Nat) (vs : List Vcp) (k : Int) (w : World)
 (hds : Sv w p ds) (hn : n = ds.length) (hb : n ≤ 1000)
 (hvs : Sv w q vs) (hm : m = vs.length) (hmb : m ≤ 1000)
 : Calls Try.prog 23 #[.agg #[.slice p n cap, .slice q m capv], .int .i64 k] w fun e w' => e = .returned (optC (getK Vcp.id vs k)) ∧ Below w.heap.size w w' := by
 refine enter (Hs.start w) Try.func23 rfl Try.ntmps23 rfl (sq_ (ma0 [] [1] (fun γ1 => [(2, .pointer (some ⟨γ1 0, 0, none⟩)), (4, .pointer (some ⟨γ1 1, 0, none⟩))]) (fun γ1 L => bx (γ1 1) (#[.int .i64 0, .int .i64 0, .int .u32 0, .int .u32 0]) 43 :: bx (γ1 0) (#[.slice p n cap, .slice q m capv]) 25 :: L) (fun γ1 => ds_ (sq_ (sq_ (qa0 [] [1, 2, 4] [(6, .int .i64 0)] (ds_ (at_block (at_loop (α := Nat) [1, 2, 4, 6] (fun j => [(1, .int .i64 k), (2, .pointer (some ⟨γ1 0, 0, none⟩)), (4, .pointer (some ⟨γ1 1, 0, none⟩)), (6, .int .i64 ((j : Nat)))]) (fun j => [bx (γ1 1) (#[.int .i64 0, .int .i64 0, .int .u32 0, .int .u32 0]) 43, bx (γ1 0) (#[.slice p n cap, .slice q m capv]) 25]) (fun j => j ≤ m ∧ getK Vcp.id (vs.drop j) k = getK Vcp.id vs k) (fun j => m - j) 0 (by kernel_rfl) rfl ⟨Nat.zero_le _, by rw [List.drop_zero]⟩ ?_)))))))))
 rintro j
 rintro ⟨hj, hI⟩
 refine sq_ (sq_ ?_)
 by_cases q4 : ((j : Nat) : Int) < ((m : Nat) : Int)
 ·
  refine qa [(2, .go (owns 1 1 1)), (4, .yes)] [1, 2, 4, 6] [(11, .bool true)] ([((j : Nat) : Int) < ((m : Nat) : Int)]) (al1 q4) (ds_ (t_ (at_skip (ds_ (sq_ (at_block (sq_ ?_)))))))
  obtain ⟨b7, o7, rfl⟩ := hvs.pos (i := j) (by omega)
  obtain ⟨x9, hx9⟩ := get_some (l := vs) (m := j) (by omega)
  by_cases q11 : (x9.id : Int) = (k : Int)
  ·
   refine qa [(1, .go (owns 1 1 1)), (3, .at b7 o7 j), (5, .go (outs b7 (o7 + j * 4) [.int .i64 x9.id])), (7, .yes)] [1, 2, 4, 6] [(21, .bool true)] ([(some ⟨b7, o7, none⟩ : Option Addr) = some ⟨b7, o7, none⟩, ((j : Nat)) = ((j : Nat) : Int), j < m] ++ (cellsP w b7 (o7 + j * 4) [.int .i64 x9.id] ++ ([(x9.id : Int) = (k : Int)]))) (alA (al2 rfl (al2 rfl (al1 (by omega)))) (alA (rd_pre (hvs.get hx9) _ rfl) (al1 q11))) (ds_ (t_ (sq_ (ma [(1, .go (owns 1 1 1)), (3, .at b7 o7 j), (4, .go (outs b7 (o7 + j * 4) [.int .i64 x9.id, .int .i64 x9.dom, .int .u32 x9.hard, .int .u32 x9.soft])), (5, .go (owns 0 0 4))] [4] (fun _ => [(5, .bool true)]) (fun _ L => (L.set 0 (bx (γ1 1) (#[.int .i64 x9.id, .int .i64 x9.dom, .int .u32 x9.hard, .int .u32 x9.soft]) 43))) (fun _ => [(some ⟨b7, o7, none⟩ : Option Addr) = some ⟨b7, o7, none⟩, ((j : Nat)) = ((j : Nat) : Int), j < m] ++ (cellsP w b7 (o7 + j * 4) [.int .i64 x9.id, .int .i64 x9.dom, .int .u32 x9.hard, .int .u32 x9.soft])) (fun _ => (alA (al2 rfl (al2 rfl (al1 (by omega)))) (rd_pre (hvs.get hx9) _ rfl))) (fun _ => ds_ (rt (owns 0 0 4) (.tuple #[.agg #[.int .i64 x9.id, .int .i64 x9.dom, .int .u32 x9.hard, .int .u32 x9.soft], .bool true]) ?_))))))
   exact fun w' hw => ⟨by rw [getK_at hI hx9 (by omega)]; rfl, hw.below⟩
  ·
   refine qa [(1, .go (owns 1 1 1)), (3, .at b7 o7 j), (5, .go (outs b7 (o7 + j * 4) [.int .i64 x9.id])), (7, .no)] [1, 2, 4, 6] [(21, .bool false)] ([(some ⟨b7, o7, none⟩ : Option Addr) = some ⟨b7, o7, none⟩, ((j : Nat)) = ((j : Nat) : Int), j < m] ++ (cellsP w b7 (o7 + j * 4) [.int .i64 x9.id] ++ ([¬ ((x9.id : Int) = (k : Int))]))) (alA (al2 rfl (al2 rfl (al1 (by omega)))) (alA (rd_pre (hvs.get hx9) _ rfl) (al1 q11))) (ds_ (f_ (at_skip (done_block (ds_ (qa [(1, .fit)] [1, 2, 4] [(6, .int .i64 ((j + 1 : Nat)))] ([Fit .i64 ((j + 1 : Nat))]) (al1 (fit64 (by omega) (by omega))) ?_))))))
   exact dr [1, 2, 4, 6] (j + 1) ⟨by omega, getK_on hI hx9 (by omega)⟩
 ·
  refine qa [(2, .go (owns 1 1 1)), (4, .no)] [1, 2, 4, 6] [(11, .bool false)] ([¬ (((j : Nat) : Int) < ((m : Nat) : Int))]) (al1 q4) (ds_ (f_ (at_leave _ rfl (ds_ (sq_ (qa0 [(1, .go (owns 0 0 4))] [4] [(5, .bool false)] (ds_ (rt (owns 0 0 4) (.tuple #[.agg #[.int .i64 0, .int .i64 0, .int .u32 0, .int .u32 0], .bool false]) ?_))))))))
  exact fun w' hw => ⟨by rw [getK_end hI (by omega)]; rfl, hw.below⟩

set_option maxRecDepth 100000 in
theorem rof_d (p : Option Addr) (n cap : Nat) (ds : List Dom) (q : Option Addr) (m capv : Nat) (vs : List Vcp) (k : Int) (w : World)
 (hds : Sv w p ds) (hn : n = ds.length) (hb : n ≤ 1000)
 (hvs : Sv w q vs) (hm : m = vs.length) (hmb : m ≤ 1000)
 : Calls Try.prog 20 #[.agg #[.slice p n cap, .slice q m capv], .int .i64 k] w fun e w' => ∃ q capq Y, e = .returned (.slice q (cntV vs k) capq) ∧ SlO 3 Y q (cntV vs k) capq (ofV vs k) ∧ Below w.heap.size w w' ∧ Hs w Y w' := by
 refine enter (Hs.start w) Try.func20 rfl Try.ntmps20 rfl (sq_ (ma0 [] [1] (fun γ1 => [(2, .pointer (some ⟨γ1 0, 0, none⟩))]) (fun γ1 L => bx (γ1 0) (#[.slice p n cap, .slice q m capv]) 25 :: L) (fun γ1 => ds_ (sq_ (qa0 [] [1, 2] [(5, .slice none 0 0)] (ds_ (sq_ (sq_ (qa0 [] [1, 2, 5] [(6, .int .i64 0)] (ds_ (at_block (at_loop (α := Nat × List Ob × Option Addr × Nat × Nat) [1, 2, 5, 6] (fun ⟨j, Yo, po, nu, co⟩ => [(1, .int .i64 k), (2, .pointer (some ⟨γ1 0, 0, none⟩)), (5, .slice po nu co), (6, .int .i64 ((j : Nat)))]) (fun ⟨j, Yo, po, nu, co⟩ => bx (γ1 0) (#[.slice p n cap, .slice q m capv]) 25 :: (Yo ++ [])) (fun ⟨j, Yo, po, nu, co⟩ => j ≤ m ∧ nu ≤ j ∧ SlO 3 Yo po nu co ((vs.take j).flatMap (ofF k))) (fun ⟨j, Yo, po, nu, co⟩ => m - j) (0, [], none, 0, 0) (by kernel_rfl) rfl ⟨Nat.zero_le _, Nat.le_refl _, by rw [List.take_zero]; exact SlO.nil⟩ ?_))))))))))))
 rintro ⟨j, Yo, po, nu, co⟩
 rintro ⟨hj, hnu, hO⟩
 refine sq_ (sq_ ?_)
 by_cases q5 : ((j : Nat) : Int) < ((m : Nat) : Int)
 ·
  refine qa [(2, .go (owns 0 1 1)), (4, .yes)] [1, 2, 5, 6] [(11, .bool true)] ([((j : Nat) : Int) < ((m : Nat) : Int)]) (al1 q5) (ds_ (t_ (at_skip (ds_ (sq_ (at_block (sq_ ?_)))))))
  obtain ⟨b8, o8, rfl⟩ := hvs.pos (i := j) (by omega)
  obtain ⟨x10, hx10⟩ := get_some (l := vs) (m := j) (by omega)
  by_cases q12 : (x10.dom : Int) = (k : Int)
  ·
   refine qa [(1, .go (owns 0 1 1)), (3, .at b8 o8 j), (5, .go (outs b8 (o8 + j * 4 + 1) [.int .i64 x10.dom])), (7, .yes)] [1, 2, 5, 6] [(21, .bool true)] ([(some ⟨b8, o8, none⟩ : Option Addr) = some ⟨b8, o8, none⟩, ((j : Nat)) = ((j : Nat) : Int), j < m] ++ (cellsP w b8 (o8 + j * 4 + 1) [.int .i64 x10.dom] ++ ([(x10.dom : Int) = (k : Int)]))) (alA (al2 rfl (al2 rfl (al1 (by omega)))) (alA (rd_part (hvs.get hx10) 1 _ rfl) (al1 q12))) (ds_ (t_ (ao_ (mo 8 [(2, .go (owns 0 1 1)), (4, .at b8 o8 j), (6, .go (outs b8 (o8 + j * 4) [.int .i64 x10.id]))] [1, 2, 6] (fun γ14 => [(22, .slice po nu co), (29, .slice (some ⟨γ14 0, 0, none⟩) 1 1)]) (fun γ14 L => bx (γ14 0) (#[.int .i64 x10.id]) 3 :: L) (fun γ14 => [(some ⟨b8, o8, none⟩ : Option Addr) = some ⟨b8, o8, none⟩, ((j : Nat)) = ((j : Nat) : Int), j < m] ++ (cellsP w b8 (o8 + j * 4) [.int .i64 x10.id])) (fun γ14 => (alA (al2 rfl (al2 rfl (al1 (by omega)))) (rd_pre (hvs.get hx10) _ rfl))) (fun γ14 => ops_append (α := Int) [bx (γ14 0) (#[.int .i64 x10.id]) 3, bx (γ1 0) (#[.slice p n cap, .slice (some ⟨b8, o8, none⟩) m capv]) 25] Yo ([]) (.refl _) rfl (by kernel_rfl) (by kernel_rfl) (p := po) (n := nu) (cap := co) (m := 1) (yv := .slice (some ⟨γ14 0, 0, none⟩) 1 1) (by kernel_rfl) (by kernel_rfl) (T := 3) (by_ := 8) (by kernel_rfl) (((vs.take j).flatMap (ofF k))) ([x10.id]) hO (fun w hw => src_svn Try.underlying33 (sv_row (hw.row 0 rfl) (by rfl)) (by rfl)) (by rfl) (by have hmx : maxLen = 9223372036854775807 := rfl; omega) (by have hmx : maxLen = 9223372036854775807 := rfl; omega) (fun Y15 p15 cap15 hO15 => qo0 1 [] [1, 2, 6] [(5, .slice p15 (nu + 1) cap15)] (on_ (done_block (ds_ (qa [(1, .fit)] [1, 2, 5] [(6, .int .i64 ((j + 1 : Nat)))] ([Fit .i64 ((j + 1 : Nat))]) (al1 (fit64 (by omega) (by omega))) (Done.drop (L' := bx (γ1 0) (#[.slice p n cap, .slice (some ⟨b8, o8, none⟩) m capv]) 25 :: (Y15 ++ [])) ?_ (List.Sublist.cons _ (List.Sublist.cons_cons _ (List.Sublist.refl _))))))))))))))
   exact dr [1, 2, 5, 6] (j + 1, Y15, p15, (nu + 1), cap15) ⟨by omega, by omega, by rw [gath_on hx10 (ofF_yes q12)]; exact hO15⟩
  ·
   refine qa [(1, .go (owns 0 1 1)), (3, .at b8 o8 j), (5, .go (outs b8 (o8 + j * 4 + 1) [.int .i64 x10.dom])), (7, .no)] [1, 2, 5, 6] [(21, .bool false)] ([(some ⟨b8, o8, none⟩ : Option Addr) = some ⟨b8, o8, none⟩, ((j : Nat)) = ((j : Nat) : Int), j < m] ++ (cellsP w b8 (o8 + j * 4 + 1) [.int .i64 x10.dom] ++ ([¬ ((x10.dom : Int) = (k : Int))]))) (alA (al2 rfl (al2 rfl (al1 (by omega)))) (alA (rd_part (hvs.get hx10) 1 _ rfl) (al1 q12))) (ds_ (f_ (at_skip (done_block (ds_ (qa [(1, .fit)] [1, 2, 5] [(6, .int .i64 ((j + 1 : Nat)))] ([Fit .i64 ((j + 1 : Nat))]) (al1 (fit64 (by omega) (by omega))) ?_))))))
   exact dr [1, 2, 5, 6] (j + 1, Yo, po, nu, co) ⟨by omega, by omega, by rw [gath_on hx10 (ofF_no q12), List.append_nil]; exact hO⟩
 ·
  refine qa [(2, .go (owns 0 1 1)), (4, .no)] [1, 2, 5, 6] [(11, .bool false)] ([¬ (((j : Nat) : Int) < ((m : Nat) : Int))]) (al1 q5) (ds_ (f_ (at_leave _ rfl (ds_ (sq_ (qa0 [] [] [(4, .slice po nu co)] (ds_ (rt ([]) (.slice po nu co) ?_))))))))
  exact fun w' hw => by rw [List.take_of_length_le (by omega)] at hO; have e := hO.len.trans ofV_len; subst e; exact ⟨_, _, _, rfl, hO, hw.below, ((hw.tailN 1).sub (List.sublist_append_left Yo ([])))⟩

set_option maxRecDepth 100000 in
theorem over_d (p : Option Addr) (n cap : Nat) (ds : List Dom) (q : Option Addr) (m capv : Nat) (vs : List Vcp) (w : World)
 : Calls Try.prog 9 #[.agg #[.slice p n cap, .slice q m capv]] w fun e w' => e = .returned (.bool (decide (100 < n ∨ 100 < m))) ∧ Below w.heap.size w w' := by
 refine enter (Hs.start w) Try.func9 rfl Try.ntmps9 rfl (sq_ (ma0 [] [] (fun γ1 => [(1, .pointer (some ⟨γ1 0, 0, none⟩))]) (fun γ1 L => bx (γ1 0) (#[.slice p n cap, .slice q m capv]) 25 :: L) (fun γ1 => ds_ (sq_ ?_))))
 by_cases q3 : ((n : Nat) : Int) > (100 : Int)
 ·
  refine qa [(1, .go (owns 0 0 1)), (3, .yes)] [] [(2, .bool true)] ([((n : Nat) : Int) > (100 : Int)]) (al1 q3) (ds_ (rt ([]) (.bool true) ?_))
  exact fun w' hw => ⟨by rw [show decide (100 < n ∨ 100 < m) = true from by simp only [decide_eq_true_eq]; omega], hw.below⟩
 ·
  by_cases q6 : ((m : Nat) : Int) > (100 : Int)
  ·
   refine qa [(1, .go (owns 0 0 1)), (3, .no), (6, .go (owns 0 1 1)), (8, .yes)] [] [(2, .bool true)] ([¬ (((n : Nat) : Int) > (100 : Int))] ++ ([((m : Nat) : Int) > (100 : Int)])) (alA (al1 q3) (al1 q6)) (ds_ (rt ([]) (.bool true) ?_))
   exact fun w' hw => ⟨by rw [show decide (100 < n ∨ 100 < m) = true from by simp only [decide_eq_true_eq]; omega], hw.below⟩
  ·
   refine qa [(1, .go (owns 0 0 1)), (3, .no), (6, .go (owns 0 1 1)), (8, .no)] [] [(2, .bool false)] ([¬ (((n : Nat) : Int) > (100 : Int))] ++ ([¬ (((m : Nat) : Int) > (100 : Int))])) (alA (al1 q3) (al1 q6)) (ds_ (rt ([]) (.bool false) ?_))
   exact fun w' hw => ⟨by rw [show decide (100 < n ∨ 100 < m) = false from by simp only [decide_eq_false_iff_not]; omega], hw.below⟩
end Go.Proofs.Ytnoefldpkfpglaa

/-! Domains: guests made anew by their numbers; plain. -/
namespace Go.Proofs.Ytnoefldpkfpglaa
open Go Go.RowKit

section
variable {α : Type} {f : α → Int} {g : Int → Option α} {c : Nat} {x : α}
/-- The rows of the numbers 1 .. c. -/
def mkK (g : Int → Option α) (c : Nat) : List α := (List.range c).flatMap fun i => (g ((i + 1 : Nat) : Int)).toList
theorem mk_on : mkK g (c + 1) = mkK g c ++ (g ((c + 1 : Nat) : Int)).toList := by
  unfold mkK
  rw [List.range_succ, List.flatMap_append]; simp
theorem mem_mk (hg : ∀ n y, g n = some y → f y = n) : x ∈ mkK g c ↔ 1 ≤ f x ∧ f x ≤ c ∧ g (f x) = some x := by
  unfold mkK
  rw [List.mem_flatMap]
  constructor
  · rintro ⟨i, hi, hx⟩
    rw [List.mem_range] at hi
    have e : g ((i + 1 : Nat) : Int) = some x := by simpa using hx
    have := hg _ _ e
    rw [this]
    exact ⟨by omega, by omega, e⟩
  · rintro ⟨h1, h2, h3⟩
    refine ⟨(f x).toNat - 1, List.mem_range.2 (by omega), ?_⟩
    rw [show (((f x).toNat - 1 + 1 : Nat) : Int) = f x by omega, h3]; simp
theorem ris_mk (hg : ∀ n y, g n = some y → f y = n) : ∀ c : Nat, Ris f (mkK g c)
  | 0 => by unfold mkK; simp [Ris]
  | c + 1 => by
    rw [mk_on]
    refine List.pairwise_append.2 ⟨ris_mk hg c, ?_, fun a ha b hb => ?_⟩
    · cases g ((c + 1 : Nat) : Int) <;> simp
    · have h1 := ((mem_mk hg).1 ha).2.1
      have h2 : g ((c + 1 : Nat) : Int) = some b := by simpa using hb
      have := hg _ _ h2
      omega
/-- Rows that are the same by what they hold. -/
theorem mk_is {l : List α} (hg : ∀ n y, g n = some y → f y = n) (hl : Ris f l) (h : ∀ x, x ∈ l ↔ 1 ≤ f x ∧ f x ≤ c ∧ g (f x) = some x) : mkK g c = l :=
  ris_ext (ris_mk hg c) hl fun x => (mem_mk hg).trans (h x).symm
end
/-- The reference's rows: what stands in the number's place. -/
def gD (ds : List Dom) (d : Dom) (no : Int) (n : Int) : Option Dom := if n = no then none else if n = d.id then some d else getK Dom.id ds n
def gV (vs : List Vcp) (v : Vcp) (no : Int) (n : Int) : Option Vcp := if n = no then none else if 0 < v.dom ∧ n = v.id then some v else getK Vcp.id vs n
def madeD (ds : List Dom) (d : Dom) (no : Int) : List Dom := mkK (gD ds d no) 8
def madeV (vs : List Vcp) (v : Vcp) (no : Int) : List Vcp := mkK (gV vs v no) 16
section
variable {ds : List Dom} {vs : List Vcp} {k no n : Int} {d x : Dom} {v y : Vcp} {j : Nat}
theorem gD_key (n : Int) (z : Dom) (h : gD ds d no n = some z) : z.id = n := by
  unfold gD at h
  split at h
  · cases h
  · split at h
    · cases h; omega
    · exact (getK_mem h).2
theorem gV_key (n : Int) (z : Vcp) (h : gV vs v no n = some z) : z.id = n := by
  unfold gV at h
  split at h
  · cases h
  · split at h
    · cases h; omega
    · exact (getK_mem h).2
theorem gD_out (h : n = no) : (gD ds d no n).toList = [] := by unfold gD; rw [if_pos h]; rfl
theorem gD_own (h : ¬ n = no) (e : n = d.id) : (gD ds d no n).toList = [⟨d.id, d.weight, d.cap, d.pool⟩] := by unfold gD; rw [if_neg h, if_pos e]; rfl
theorem gD_none (e : ¬ n = d.id) (g : (getK Dom.id ds n).isSome = false) : (gD ds d no n).toList = [] := by
  unfold gD
  by_cases h0 : n = no
  · rw [if_pos h0]; rfl
  · rw [if_neg h0, if_neg e]
    cases h : getK Dom.id ds n with
    | none => rfl
    | some z => rw [h] at g; cases g
theorem gD_row (h : ¬ n = no) (e : ¬ n = d.id) (g : (getK Dom.id ds n).isSome = true) : (gD ds d no n).toList = [⟨(rowD (getK Dom.id ds n)).id, (rowD (getK Dom.id ds n)).weight, (rowD (getK Dom.id ds n)).cap, (rowD (getK Dom.id ds n)).pool⟩] := by
  unfold gD
  rw [if_neg h, if_neg e]
  cases h : getK Dom.id ds n with
  | none => rw [h] at g; cases g
  | some z => rfl
theorem gV_out (h : n = no) : (gV vs v no n).toList = [] := by unfold gV; rw [if_pos h]; rfl
theorem gV_own (h : ¬ n = no) (p : 0 < v.dom) (e : n = v.id) : (gV vs v no n).toList = [⟨v.id, v.dom, v.hard, v.soft⟩] := by unfold gV; rw [if_neg h, if_pos ⟨p, e⟩]; rfl
theorem gV_none (e : ¬ (0 < v.dom ∧ n = v.id)) (g : (getK Vcp.id vs n).isSome = false) : (gV vs v no n).toList = [] := by
  unfold gV
  by_cases h0 : n = no
  · rw [if_pos h0]; rfl
  · rw [if_neg h0, if_neg e]
    cases h : getK Vcp.id vs n with
    | none => rfl
    | some z => rw [h] at g; cases g
theorem gV_row (h : ¬ n = no) (e : ¬ (0 < v.dom ∧ n = v.id)) (g : (getK Vcp.id vs n).isSome = true) : (gV vs v no n).toList = [⟨(rowC (getK Vcp.id vs n)).id, (rowC (getK Vcp.id vs n)).dom, (rowC (getK Vcp.id vs n)).hard, (rowC (getK Vcp.id vs n)).soft⟩] := by
  unfold gV
  rw [if_neg h, if_neg e]
  cases h : getK Vcp.id vs n with
  | none => rw [h] at g; cases g
  | some z => rfl
theorem madeD_len : (madeD ds d no).length ≤ 8 := by
  have := risK_len (f := Dom.id) (madeD ds d no) 1 8 (ris_mk gD_key 8) (fun x hx => by have := (mem_mk gD_key).1 hx; omega) (by omega)
  omega
theorem madeV_len : (madeV vs v no).length ≤ 16 := by
  have := risK_len (f := Vcp.id) (madeV vs v no) 1 16 (ris_mk gV_key 16) (fun x hx => by have := (mem_mk gV_key).1 hx; omega) (by omega)
  omega
/-- What the numbers of guests that may be are. -/
theorem GoodG.did (h : GoodG ds vs) (hx : x ∈ ds) : 1 ≤ x.id ∧ x.id ≤ 8 := by
  have := (h.dm x hx).1
  unfold mayB at this
  simp only [decide_eq_true_eq] at this
  omega
theorem GoodG.getd (h : GoodG ds vs) : getK Dom.id ds k = some x ↔ x ∈ ds ∧ x.id = k := getK_iff h.dr
theorem GoodG.getv (h : GoodG ds vs) : getK Vcp.id vs k = some y ↔ y ∈ vs ∧ y.id = k := getK_iff h.vr
/-- Nothing put in, nothing taken out. -/
theorem madeD_same (h : GoodG ds vs) : madeD ds ⟨0, 0, 0, 0⟩ 0 = ds := mk_is gD_key h.dr fun x => by
  constructor
  · intro hx
    have hd := h.did hx
    refine ⟨hd.1, by omega, ?_⟩
    unfold gD
    rw [if_neg (by omega), if_neg (by simp; omega)]
    exact h.getd.2 ⟨hx, rfl⟩
  · rintro ⟨h1, _, h3⟩
    unfold gD at h3
    rw [if_neg (by omega), if_neg (by simp; omega)] at h3
    exact (h.getd.1 h3).1
/-- A vCPU taken out. -/
theorem madeV_del (h : GoodG ds vs) (e : getK Vcp.id vs k = some y) : madeV vs ⟨0, 0, 0, 0⟩ k = delK Vcp.id vs k := mk_is gV_key (ris_delK h.vr e) fun z => by
  rw [mem_delK h.vr e]
  constructor
  · rintro ⟨hx, hne⟩
    have hv := h.vm z hx
    refine ⟨hv.1, by have := hv.2.1; omega, ?_⟩
    unfold gV
    rw [if_neg hne, if_neg (by simp)]
    exact h.getv.2 ⟨hx, rfl⟩
  · rintro ⟨h1, _, h3⟩
    unfold gV at h3
    split at h3
    · cases h3
    · rename_i hne
      rw [if_neg (by simp)] at h3
      exact ⟨(h.getv.1 h3).1, hne⟩
/-- A vCPU put in another's place. -/
theorem madeV_put (h : GoodG ds vs) (p : 0 < v.dom) (hi : 1 ≤ v.id ∧ v.id ≤ 16) (e : getK Vcp.id vs v.id = some y) : madeV vs v 0 = putK Vcp.id vs v := mk_is gV_key (ris_putK h.vr e) fun z => by
  rw [mem_putK h.vr e]
  constructor
  · rintro (rfl | ⟨hx, hne⟩)
    · exact ⟨hi.1, by omega, by unfold gV; rw [if_neg (by omega), if_pos ⟨p, rfl⟩]⟩
    · have hv := h.vm z hx
      refine ⟨hv.1, by have := hv.2.1; omega, ?_⟩
      unfold gV
      rw [if_neg (by omega), if_neg (fun q => hne q.2)]
      exact h.getv.2 ⟨hx, rfl⟩
  · rintro ⟨h1, _, h3⟩
    unfold gV at h3
    rw [if_neg (by omega)] at h3
    split at h3
    · exact .inl (Option.some.inj h3).symm
    · rename_i hne; exact .inr ⟨(h.getv.1 h3).1, fun q => hne ⟨p, q⟩⟩
/-- A vCPU put in where there is none. -/
theorem madeV_ins (h : GoodG ds vs) (p : 0 < v.dom) (hi : 1 ≤ v.id ∧ v.id ≤ 16) (e : getK Vcp.id vs v.id = none) : madeV vs v 0 = insK Vcp.id vs v := mk_is gV_key (ris_insK h.vr e) fun z => by
  rw [mem_insK]
  constructor
  · rintro (rfl | hx)
    · exact ⟨hi.1, by omega, by unfold gV; rw [if_neg (by omega), if_pos ⟨p, rfl⟩]⟩
    · have hv := h.vm z hx
      refine ⟨hv.1, by have := hv.2.1; omega, ?_⟩
      unfold gV
      rw [if_neg (by omega), if_neg (fun q => getK_none.1 e z hx q.2)]
      exact h.getv.2 ⟨hx, rfl⟩
  · rintro ⟨h1, _, h3⟩
    unfold gV at h3
    rw [if_neg (by omega)] at h3
    split at h3
    · exact .inl (Option.some.inj h3).symm
    · exact .inr (h.getv.1 h3).1
end
/-- Is that what must be? -/
def isB (ds : List Dom) (vs : List Vcp) (e : Int) (ds2 : List Dom) (vs2 : List Vcp) (no : Int) : Bool :=
  if no ≠ 0 then decide (e = no) && decide (ds.length = 0) && decide (vs.length = 0) else decide (e = 0) && (decide (ds = ds2) && decide (vs = vs2))
/-- The reference's search for the least number. -/
def freeL (vs : List Vcp) : Nat → Nat → Nat
  | 0, i => i
  | c + 1, i => freeL vs c (if (getK Vcp.id vs ((i : Nat) : Int)).isSome = true then i + 1 else i)
theorem freeL_yes {vs : List Vcp} {j i : Nat} (hI : freeL vs (16 - j) i = freeL vs 16 1) (hj : j < 16) (g : (getK Vcp.id vs ((i : Nat) : Int)).isSome = true) : freeL vs (16 - (j + 1)) (i + 1) = freeL vs 16 1 := by
  rw [← hI, show 16 - j = (16 - (j + 1)) + 1 by omega, freeL, if_pos g]
theorem freeL_no {vs : List Vcp} {j i : Nat} (hI : freeL vs (16 - j) i = freeL vs 16 1) (hj : j < 16) (g : (getK Vcp.id vs ((i : Nat) : Int)).isSome = false) : freeL vs (16 - (j + 1)) i = freeL vs 16 1 := by
  rw [← hI, show 16 - j = (16 - (j + 1)) + 1 by omega, freeL, g]; simp
theorem freeL_end {vs : List Vcp} {j i : Nat} (hI : freeL vs (16 - j) i = freeL vs 16 1) (hj : 16 ≤ j) : freeL vs 16 1 = i := by
  rw [← hI, show 16 - j = 0 by omega]; rfl
end Go.Proofs.Ytnoefldpkfpglaa

/-! Domains: guests made anew. -/
namespace Go.Proofs.Ytnoefldpkfpglaa
open Go Go.RowKit

set_option maxRecDepth 100000 in
theorem made_d (p : Option Addr) (n cap : Nat) (ds : List Dom) (q : Option Addr) (m capv : Nat) (vs : List Vcp) (d : Dom) (v : Vcp) (no nv : Int) (w : World)
 (hds : Sv w p ds) (hn : n = ds.length) (hb : n ≤ 1000)
 (hvs : Sv w q vs) (hm : m = vs.length) (hmb : m ≤ 1000)
 : Calls Try.prog 60 #[.agg #[.slice p n cap, .slice q m capv], .agg #[.int .i64 d.id, .int .i64 d.weight, .int .i64 d.cap, .int .i64 d.pool], .agg #[.int .i64 v.id, .int .i64 v.dom, .int .u32 v.hard, .int .u32 v.soft], .int .i64 no, .int .i64 nv] w fun e w' => ∃ q c Y q2 c2 X, e = .returned (.agg #[.slice q (madeD ds d no).length c, .slice q2 (madeV vs v nv).length c2]) ∧ SlO 32 Y q (madeD ds d no).length c (madeD ds d no) ∧ SlO 43 X q2 (madeV vs v nv).length c2 (madeV vs v nv) ∧ Below w.heap.size w w' ∧ Hs w (Y ++ X) w' := by
 refine enter (Hs.start w) Try.func60 rfl Try.ntmps60 rfl (sq_ (ma0 [] [3, 4] (fun γ1 => [(5, .pointer (some ⟨γ1 0, 0, none⟩)), (6, .pointer (some ⟨γ1 1, 0, none⟩)), (7, .pointer (some ⟨γ1 2, 0, none⟩)), (10, .pointer (some ⟨γ1 3, 0, none⟩))]) (fun γ1 L => bx (γ1 3) (#[.slice none 0 0, .slice none 0 0]) 25 :: bx (γ1 2) (#[.int .i64 v.id, .int .i64 v.dom, .int .u32 v.hard, .int .u32 v.soft]) 43 :: bx (γ1 1) (#[.int .i64 d.id, .int .i64 d.weight, .int .i64 d.cap, .int .i64 d.pool]) 32 :: bx (γ1 0) (#[.slice p n cap, .slice q m capv]) 25 :: L) (fun γ1 => ds_ (sq_ (ma0 [] [3, 4, 5, 6, 7, 10] (fun γ2 => [(11, .pointer (some ⟨γ2 0, 0, none⟩))]) (fun γ2 L => bx (γ2 0) (#[.slice none 0 0, .slice none 0 0]) 25 :: L) (fun γ2 => ds_ (sq_ (sq_ (qa0 [] [3, 4, 5, 6, 7, 10, 11] [(12, .int .i64 1)] (ds_ (at_block (at_loop (α := Nat × List Ob × Option Addr × Nat × Nat) [3, 4, 5, 6, 7, 10, 11, 12] (fun ⟨ja, Yoa, poa, nua, coa⟩ => [(3, .int .i64 no), (4, .int .i64 nv), (5, .pointer (some ⟨γ1 0, 0, none⟩)), (6, .pointer (some ⟨γ1 1, 0, none⟩)), (7, .pointer (some ⟨γ1 2, 0, none⟩)), (10, .pointer (some ⟨γ1 3, 0, none⟩)), (11, .pointer (some ⟨γ2 0, 0, none⟩)), (12, .int .i64 ((ja + 1 : Nat)))]) (fun ⟨ja, Yoa, poa, nua, coa⟩ => bx (γ2 0) (#[.slice poa nua coa, .slice none 0 0]) 25 :: bx (γ1 3) (#[.slice none 0 0, .slice none 0 0]) 25 :: bx (γ1 2) (#[.int .i64 v.id, .int .i64 v.dom, .int .u32 v.hard, .int .u32 v.soft]) 43 :: bx (γ1 1) (#[.int .i64 d.id, .int .i64 d.weight, .int .i64 d.cap, .int .i64 d.pool]) 32 :: bx (γ1 0) (#[.slice p n cap, .slice q m capv]) 25 :: (Yoa ++ [])) (fun ⟨ja, Yoa, poa, nua, coa⟩ => ja ≤ 8 ∧ nua ≤ ja ∧ SlO 32 Yoa poa nua coa (mkK (gD ds d no) ja)) (fun ⟨ja, Yoa, poa, nua, coa⟩ => 8 - ja) (0, [], none, 0, 0) (by kernel_rfl) rfl ⟨Nat.zero_le _, Nat.le_refl _, SlO.nil⟩ ?_))))))))))))
 rintro ⟨ja, Yoa, poa, nua, coa⟩
 rintro ⟨hja, hnnua, hOa⟩
 refine sq_ (sq_ ?_)
 by_cases q5 : ((ja + 1 : Nat) : Int) ≤ (8 : Int)
 ·
  refine qa [(1, .yes)] [3, 4, 5, 6, 7, 10, 11, 12] [(19, .bool true)] ([((ja + 1 : Nat) : Int) ≤ (8 : Int)]) (al1 q5) (ds_ (t_ (at_skip (ds_ (sq_ (at_block (sq_ (ao_ (qo0 2 [(0, .go (owns 4 0 2))] [3, 4, 5, 6, 7, 10, 11, 12] [(23, .agg #[.slice p n cap, .slice q m capv]), (24, .int .i64 ((ja + 1 : Nat)))] (cD (.tuple #[.agg #[.int .i64 ((rowD (getK Dom.id ds ((ja + 1 : Nat)))).id), .int .i64 ((rowD (getK Dom.id ds ((ja + 1 : Nat)))).weight), .int .i64 ((rowD (getK Dom.id ds ((ja + 1 : Nat)))).cap), .int .i64 ((rowD (getK Dom.id ds ((ja + 1 : Nat)))).pool)], .bool ((getK Dom.id ds ((ja + 1 : Nat))).isSome)]) Try.call22 (fun w hw => by have := rdom_d p n cap ds q m capv vs ((ja + 1 : Nat)) w (hds.kept hw.below) hn (by omega) (hvs.kept hw.below) hm (by omega); rw [optD_row] at this; exact this) (mo0 6 [(7, .go (owns 0 0 4))] [3, 4, 5, 6, 7, 10, 11, 12] (fun γ8 => [(13, .pointer (some ⟨γ8 0, 0, none⟩)), (14, .bool ((getK Dom.id ds ((ja + 1 : Nat))).isSome))]) (fun γ8 L => bx (γ8 0) (#[.int .i64 ((rowD (getK Dom.id ds ((ja + 1 : Nat)))).id), .int .i64 ((rowD (getK Dom.id ds ((ja + 1 : Nat)))).weight), .int .i64 ((rowD (getK Dom.id ds ((ja + 1 : Nat)))).cap), .int .i64 ((rowD (getK Dom.id ds ((ja + 1 : Nat)))).pool)]) 32 :: L) (fun γ8 => on_ (ds_ (sq_ (sq_ ?_)))))))))))))))
  by_cases q10 : ((ja + 1 : Nat) : Int) = (d.id : Int)
  ·
   refine qa [(2, .go (owns 4 0 1)), (3, .yes)] [3, 4, 5, 6, 7, 10, 11, 12, 13, 14] [(31, .bool true)] ([((ja + 1 : Nat) : Int) = (d.id : Int)]) (al1 q10) (ds_ (t_ (ma0 [(0, .go (owns 4 0 4)), (1, .go (owns 0 0 4))] [3, 4, 5, 6, 7, 10, 11, 12, 13] (fun _ => [(14, .bool true)]) (fun _ L => (L.set 0 (bx (γ8 0) (#[.int .i64 d.id, .int .i64 d.weight, .int .i64 d.cap, .int .i64 d.pool]) 32))) (fun _ => ds_ (sq_ ?_)))))
   by_cases q14 : ((ja + 1 : Nat) : Int) ≠ (no : Int)
   ·
    refine qa [(4, .yes)] [3, 4, 5, 6, 7, 10, 11, 12, 13] [(38, .bool true)] ([((ja + 1 : Nat) : Int) ≠ (no : Int)]) (al1 q14) (ds_ (t_ (ao_ (mo0 4 [(1, .go (owns 1 0 1)), (2, .go (owns 0 0 4))] [3, 4, 5, 6, 7, 10, 11, 12] (fun γ16 => [(40, .slice poa nua coa), (42, .slice (some ⟨γ16 0, 0, none⟩) 1 1)]) (fun γ16 L => bx (γ16 0) (#[.int .i64 d.id, .int .i64 d.weight, .int .i64 d.cap, .int .i64 d.pool]) 32 :: L) (fun γ16 => ops_append (α := Dom) [bx (γ16 0) (#[.int .i64 d.id, .int .i64 d.weight, .int .i64 d.cap, .int .i64 d.pool]) 32, bx (γ8 0) (#[.int .i64 d.id, .int .i64 d.weight, .int .i64 d.cap, .int .i64 d.pool]) 32, bx (γ2 0) (#[.slice poa nua coa, .slice none 0 0]) 25, bx (γ1 3) (#[.slice none 0 0, .slice none 0 0]) 25, bx (γ1 2) (#[.int .i64 v.id, .int .i64 v.dom, .int .u32 v.hard, .int .u32 v.soft]) 43, bx (γ1 1) (#[.int .i64 d.id, .int .i64 d.weight, .int .i64 d.cap, .int .i64 d.pool]) 32, bx (γ1 0) (#[.slice p n cap, .slice q m capv]) 25] Yoa ([]) (.refl _) rfl (by kernel_rfl) (by kernel_rfl) (p := poa) (n := nua) (cap := coa) (m := 1) (yv := .slice (some ⟨γ16 0, 0, none⟩) 1 1) (by kernel_rfl) (by kernel_rfl) (T := 32) (by_ := 32) (by kernel_rfl) ((mkK (gD ds d no) ja)) ([⟨d.id, d.weight, d.cap, d.pool⟩]) hOa (fun w hw => src_svn Try.underlying22 (sv_row (hw.row 0 rfl) (by rfl)) (by rfl)) (by rfl) (by have hmx : maxLen = 9223372036854775807 := rfl; omega) (by have hmx : maxLen = 9223372036854775807 := rfl; omega) (fun Y17 p17 cap17 hO17 => mo0 2 [(6, .go (owns 2 0 1))] [3, 4, 5, 6, 7, 10, 11, 12] (fun _ => []) (fun _ L => (L.set 2 (bx (γ2 0) (#[.slice p17 (nua + 1) cap17, .slice none 0 0]) 25))) (fun _ => on_ (done_block (ds_ (qa [(1, .fit)] [3, 4, 5, 6, 7, 10, 11] [(12, .int .i64 ((ja + 1 + 1 : Nat)))] ([Fit .i64 ((ja + 1 + 1 : Nat))]) (al1 (fit64 (by omega) (by omega))) (Done.pick [[bx (γ16 0) (#[.int .i64 d.id, .int .i64 d.weight, .int .i64 d.cap, .int .i64 d.pool]) 32], [bx (γ8 0) (#[.int .i64 d.id, .int .i64 d.weight, .int .i64 d.cap, .int .i64 d.pool]) 32], [bx (γ2 0) (#[.slice p17 (nua + 1) cap17, .slice none 0 0]) 25], [bx (γ1 3) (#[.slice none 0 0, .slice none 0 0]) 25], [bx (γ1 2) (#[.int .i64 v.id, .int .i64 v.dom, .int .u32 v.hard, .int .u32 v.soft]) 43], [bx (γ1 1) (#[.int .i64 d.id, .int .i64 d.weight, .int .i64 d.cap, .int .i64 d.pool]) 32], [bx (γ1 0) (#[.slice p n cap, .slice q m capv]) 25], Y17] [2, 3, 4, 5, 6, 7] [0, 1] (bx (γ2 0) (#[.slice p17 (nua + 1) cap17, .slice none 0 0]) 25 :: bx (γ1 3) (#[.slice none 0 0, .slice none 0 0]) 25 :: bx (γ1 2) (#[.int .i64 v.id, .int .i64 v.dom, .int .u32 v.hard, .int .u32 v.soft]) 43 :: bx (γ1 1) (#[.int .i64 d.id, .int .i64 d.weight, .int .i64 d.cap, .int .i64 d.pool]) 32 :: bx (γ1 0) (#[.slice p n cap, .slice q m capv]) 25 :: (Y17 ++ [])) (by kernel_rfl) rfl rfl ?_)))))))))))
    exact dr [3, 4, 5, 6, 7, 10, 11, 12] (ja + 1, Y17, p17, (nua + 1), cap17) ⟨by omega, by omega, by rw [mk_on, gD_own (n := ((ja + 1 : Nat) : Int)) (by omega) q10]; exact hO17⟩
   ·
    refine qa [(4, .no)] [3, 4, 5, 6, 7, 10, 11, 12, 13] [(38, .bool false)] ([¬ (((ja + 1 : Nat) : Int) ≠ (no : Int))]) (al1 q14) (ds_ (f_ (at_skip (done_block (ds_ (qa [(1, .fit)] [3, 4, 5, 6, 7, 10, 11] [(12, .int .i64 ((ja + 1 + 1 : Nat)))] ([Fit .i64 ((ja + 1 + 1 : Nat))]) (al1 (fit64 (by omega) (by omega))) (Done.pick [[bx (γ8 0) (#[.int .i64 d.id, .int .i64 d.weight, .int .i64 d.cap, .int .i64 d.pool]) 32], [bx (γ2 0) (#[.slice poa nua coa, .slice none 0 0]) 25], [bx (γ1 3) (#[.slice none 0 0, .slice none 0 0]) 25], [bx (γ1 2) (#[.int .i64 v.id, .int .i64 v.dom, .int .u32 v.hard, .int .u32 v.soft]) 43], [bx (γ1 1) (#[.int .i64 d.id, .int .i64 d.weight, .int .i64 d.cap, .int .i64 d.pool]) 32], [bx (γ1 0) (#[.slice p n cap, .slice q m capv]) 25], Yoa] [1, 2, 3, 4, 5, 6] [0] (bx (γ2 0) (#[.slice poa nua coa, .slice none 0 0]) 25 :: bx (γ1 3) (#[.slice none 0 0, .slice none 0 0]) 25 :: bx (γ1 2) (#[.int .i64 v.id, .int .i64 v.dom, .int .u32 v.hard, .int .u32 v.soft]) 43 :: bx (γ1 1) (#[.int .i64 d.id, .int .i64 d.weight, .int .i64 d.cap, .int .i64 d.pool]) 32 :: bx (γ1 0) (#[.slice p n cap, .slice q m capv]) 25 :: (Yoa ++ [])) (by kernel_rfl) rfl rfl ?_)))))))
    exact dr [3, 4, 5, 6, 7, 10, 11, 12] (ja + 1, Yoa, poa, nua, coa) ⟨by omega, by omega, by rw [mk_on, gD_out (n := ((ja + 1 : Nat) : Int)) (by omega), List.append_nil]; exact hOa⟩
  ·
   refine qa [(2, .go (owns 4 0 1)), (3, .no)] [3, 4, 5, 6, 7, 10, 11, 12, 13, 14] [(31, .bool false)] ([¬ (((ja + 1 : Nat) : Int) = (d.id : Int))]) (al1 q10) (ds_ (f_ (at_skip (ds_ (sq_ ?_)))))
   rcases q24 : (getK Dom.id ds ((ja + 1 : Nat))).isSome with _ | _
   ·
    refine qa0 [] [3, 4, 5, 6, 7, 10, 11, 12, 13] [(38, .bool false)] (ds_ (f_ (at_skip (done_block (ds_ (qa [(1, .fit)] [3, 4, 5, 6, 7, 10, 11] [(12, .int .i64 ((ja + 1 + 1 : Nat)))] ([Fit .i64 ((ja + 1 + 1 : Nat))]) (al1 (fit64 (by omega) (by omega))) (Done.pick [[bx (γ8 0) (#[.int .i64 ((rowD (getK Dom.id ds ((ja + 1 : Nat)))).id), .int .i64 ((rowD (getK Dom.id ds ((ja + 1 : Nat)))).weight), .int .i64 ((rowD (getK Dom.id ds ((ja + 1 : Nat)))).cap), .int .i64 ((rowD (getK Dom.id ds ((ja + 1 : Nat)))).pool)]) 32], [bx (γ2 0) (#[.slice poa nua coa, .slice none 0 0]) 25], [bx (γ1 3) (#[.slice none 0 0, .slice none 0 0]) 25], [bx (γ1 2) (#[.int .i64 v.id, .int .i64 v.dom, .int .u32 v.hard, .int .u32 v.soft]) 43], [bx (γ1 1) (#[.int .i64 d.id, .int .i64 d.weight, .int .i64 d.cap, .int .i64 d.pool]) 32], [bx (γ1 0) (#[.slice p n cap, .slice q m capv]) 25], Yoa] [1, 2, 3, 4, 5, 6] [0] (bx (γ2 0) (#[.slice poa nua coa, .slice none 0 0]) 25 :: bx (γ1 3) (#[.slice none 0 0, .slice none 0 0]) 25 :: bx (γ1 2) (#[.int .i64 v.id, .int .i64 v.dom, .int .u32 v.hard, .int .u32 v.soft]) 43 :: bx (γ1 1) (#[.int .i64 d.id, .int .i64 d.weight, .int .i64 d.cap, .int .i64 d.pool]) 32 :: bx (γ1 0) (#[.slice p n cap, .slice q m capv]) 25 :: (Yoa ++ [])) (by kernel_rfl) rfl rfl ?_)))))))
    exact dr [3, 4, 5, 6, 7, 10, 11, 12] (ja + 1, Yoa, poa, nua, coa) ⟨by omega, by omega, by rw [mk_on, gD_none (n := ((ja + 1 : Nat) : Int)) q10 q24, List.append_nil]; exact hOa⟩
   ·
    by_cases q28 : ((ja + 1 : Nat) : Int) ≠ (no : Int)
    ·
     refine qa [(4, .yes)] [3, 4, 5, 6, 7, 10, 11, 12, 13] [(38, .bool true)] ([((ja + 1 : Nat) : Int) ≠ (no : Int)]) (al1 q28) (ds_ (t_ (ao_ (mo0 4 [(1, .go (owns 1 0 1)), (2, .go (owns 0 0 4))] [3, 4, 5, 6, 7, 10, 11, 12] (fun γ30 => [(40, .slice poa nua coa), (42, .slice (some ⟨γ30 0, 0, none⟩) 1 1)]) (fun γ30 L => bx (γ30 0) (#[.int .i64 ((rowD (getK Dom.id ds ((ja + 1 : Nat)))).id), .int .i64 ((rowD (getK Dom.id ds ((ja + 1 : Nat)))).weight), .int .i64 ((rowD (getK Dom.id ds ((ja + 1 : Nat)))).cap), .int .i64 ((rowD (getK Dom.id ds ((ja + 1 : Nat)))).pool)]) 32 :: L) (fun γ30 => ops_append (α := Dom) [bx (γ30 0) (#[.int .i64 ((rowD (getK Dom.id ds ((ja + 1 : Nat)))).id), .int .i64 ((rowD (getK Dom.id ds ((ja + 1 : Nat)))).weight), .int .i64 ((rowD (getK Dom.id ds ((ja + 1 : Nat)))).cap), .int .i64 ((rowD (getK Dom.id ds ((ja + 1 : Nat)))).pool)]) 32, bx (γ8 0) (#[.int .i64 ((rowD (getK Dom.id ds ((ja + 1 : Nat)))).id), .int .i64 ((rowD (getK Dom.id ds ((ja + 1 : Nat)))).weight), .int .i64 ((rowD (getK Dom.id ds ((ja + 1 : Nat)))).cap), .int .i64 ((rowD (getK Dom.id ds ((ja + 1 : Nat)))).pool)]) 32, bx (γ2 0) (#[.slice poa nua coa, .slice none 0 0]) 25, bx (γ1 3) (#[.slice none 0 0, .slice none 0 0]) 25, bx (γ1 2) (#[.int .i64 v.id, .int .i64 v.dom, .int .u32 v.hard, .int .u32 v.soft]) 43, bx (γ1 1) (#[.int .i64 d.id, .int .i64 d.weight, .int .i64 d.cap, .int .i64 d.pool]) 32, bx (γ1 0) (#[.slice p n cap, .slice q m capv]) 25] Yoa ([]) (.refl _) rfl (by kernel_rfl) (by kernel_rfl) (p := poa) (n := nua) (cap := coa) (m := 1) (yv := .slice (some ⟨γ30 0, 0, none⟩) 1 1) (by kernel_rfl) (by kernel_rfl) (T := 32) (by_ := 32) (by kernel_rfl) ((mkK (gD ds d no) ja)) ([⟨(rowD (getK Dom.id ds ((ja + 1 : Nat)))).id, (rowD (getK Dom.id ds ((ja + 1 : Nat)))).weight, (rowD (getK Dom.id ds ((ja + 1 : Nat)))).cap, (rowD (getK Dom.id ds ((ja + 1 : Nat)))).pool⟩]) hOa (fun w hw => src_svn Try.underlying22 (sv_row (hw.row 0 rfl) (by rfl)) (by rfl)) (by rfl) (by have hmx : maxLen = 9223372036854775807 := rfl; omega) (by have hmx : maxLen = 9223372036854775807 := rfl; omega) (fun Y31 p31 cap31 hO31 => mo0 2 [(6, .go (owns 2 0 1))] [3, 4, 5, 6, 7, 10, 11, 12] (fun _ => []) (fun _ L => (L.set 2 (bx (γ2 0) (#[.slice p31 (nua + 1) cap31, .slice none 0 0]) 25))) (fun _ => on_ (done_block (ds_ (qa [(1, .fit)] [3, 4, 5, 6, 7, 10, 11] [(12, .int .i64 ((ja + 1 + 1 : Nat)))] ([Fit .i64 ((ja + 1 + 1 : Nat))]) (al1 (fit64 (by omega) (by omega))) (Done.pick [[bx (γ30 0) (#[.int .i64 ((rowD (getK Dom.id ds ((ja + 1 : Nat)))).id), .int .i64 ((rowD (getK Dom.id ds ((ja + 1 : Nat)))).weight), .int .i64 ((rowD (getK Dom.id ds ((ja + 1 : Nat)))).cap), .int .i64 ((rowD (getK Dom.id ds ((ja + 1 : Nat)))).pool)]) 32], [bx (γ8 0) (#[.int .i64 ((rowD (getK Dom.id ds ((ja + 1 : Nat)))).id), .int .i64 ((rowD (getK Dom.id ds ((ja + 1 : Nat)))).weight), .int .i64 ((rowD (getK Dom.id ds ((ja + 1 : Nat)))).cap), .int .i64 ((rowD (getK Dom.id ds ((ja + 1 : Nat)))).pool)]) 32], [bx (γ2 0) (#[.slice p31 (nua + 1) cap31, .slice none 0 0]) 25], [bx (γ1 3) (#[.slice none 0 0, .slice none 0 0]) 25], [bx (γ1 2) (#[.int .i64 v.id, .int .i64 v.dom, .int .u32 v.hard, .int .u32 v.soft]) 43], [bx (γ1 1) (#[.int .i64 d.id, .int .i64 d.weight, .int .i64 d.cap, .int .i64 d.pool]) 32], [bx (γ1 0) (#[.slice p n cap, .slice q m capv]) 25], Y31] [2, 3, 4, 5, 6, 7] [0, 1] (bx (γ2 0) (#[.slice p31 (nua + 1) cap31, .slice none 0 0]) 25 :: bx (γ1 3) (#[.slice none 0 0, .slice none 0 0]) 25 :: bx (γ1 2) (#[.int .i64 v.id, .int .i64 v.dom, .int .u32 v.hard, .int .u32 v.soft]) 43 :: bx (γ1 1) (#[.int .i64 d.id, .int .i64 d.weight, .int .i64 d.cap, .int .i64 d.pool]) 32 :: bx (γ1 0) (#[.slice p n cap, .slice q m capv]) 25 :: (Y31 ++ [])) (by kernel_rfl) rfl rfl ?_)))))))))))
     exact dr [3, 4, 5, 6, 7, 10, 11, 12] (ja + 1, Y31, p31, (nua + 1), cap31) ⟨by omega, by omega, by rw [mk_on, gD_row (n := ((ja + 1 : Nat) : Int)) (by omega) q10 q24]; exact hO31⟩
    ·
     refine qa [(4, .no)] [3, 4, 5, 6, 7, 10, 11, 12, 13] [(38, .bool false)] ([¬ (((ja + 1 : Nat) : Int) ≠ (no : Int))]) (al1 q28) (ds_ (f_ (at_skip (done_block (ds_ (qa [(1, .fit)] [3, 4, 5, 6, 7, 10, 11] [(12, .int .i64 ((ja + 1 + 1 : Nat)))] ([Fit .i64 ((ja + 1 + 1 : Nat))]) (al1 (fit64 (by omega) (by omega))) (Done.pick [[bx (γ8 0) (#[.int .i64 ((rowD (getK Dom.id ds ((ja + 1 : Nat)))).id), .int .i64 ((rowD (getK Dom.id ds ((ja + 1 : Nat)))).weight), .int .i64 ((rowD (getK Dom.id ds ((ja + 1 : Nat)))).cap), .int .i64 ((rowD (getK Dom.id ds ((ja + 1 : Nat)))).pool)]) 32], [bx (γ2 0) (#[.slice poa nua coa, .slice none 0 0]) 25], [bx (γ1 3) (#[.slice none 0 0, .slice none 0 0]) 25], [bx (γ1 2) (#[.int .i64 v.id, .int .i64 v.dom, .int .u32 v.hard, .int .u32 v.soft]) 43], [bx (γ1 1) (#[.int .i64 d.id, .int .i64 d.weight, .int .i64 d.cap, .int .i64 d.pool]) 32], [bx (γ1 0) (#[.slice p n cap, .slice q m capv]) 25], Yoa] [1, 2, 3, 4, 5, 6] [0] (bx (γ2 0) (#[.slice poa nua coa, .slice none 0 0]) 25 :: bx (γ1 3) (#[.slice none 0 0, .slice none 0 0]) 25 :: bx (γ1 2) (#[.int .i64 v.id, .int .i64 v.dom, .int .u32 v.hard, .int .u32 v.soft]) 43 :: bx (γ1 1) (#[.int .i64 d.id, .int .i64 d.weight, .int .i64 d.cap, .int .i64 d.pool]) 32 :: bx (γ1 0) (#[.slice p n cap, .slice q m capv]) 25 :: (Yoa ++ [])) (by kernel_rfl) rfl rfl ?_)))))))
     exact dr [3, 4, 5, 6, 7, 10, 11, 12] (ja + 1, Yoa, poa, nua, coa) ⟨by omega, by omega, by rw [mk_on, gD_out (n := ((ja + 1 : Nat) : Int)) (by omega), List.append_nil]; exact hOa⟩
 ·
  refine qa [(1, .no)] [3, 4, 5, 6, 7, 10, 11, 12] [(19, .bool false)] ([¬ (((ja + 1 : Nat) : Int) ≤ (8 : Int))]) (al1 q5) (ds_ (f_ (at_leave _ rfl (ds_ (sq_ (sq_ (qa0 [] [4, 5, 7, 10, 11] [(15, .int .i64 1)] (ds_ (at_block (at_loop (α := Nat × List Ob × Option Addr × Nat × Nat) [4, 5, 7, 10, 11, 15] (fun ⟨jb, Yob, pob, nub, cob⟩ => [(4, .int .i64 nv), (5, .pointer (some ⟨γ1 0, 0, none⟩)), (7, .pointer (some ⟨γ1 2, 0, none⟩)), (10, .pointer (some ⟨γ1 3, 0, none⟩)), (11, .pointer (some ⟨γ2 0, 0, none⟩)), (15, .int .i64 ((jb + 1 : Nat)))]) (fun ⟨jb, Yob, pob, nub, cob⟩ => bx (γ2 0) (#[.slice poa nua coa, .slice pob nub cob]) 25 :: bx (γ1 3) (#[.slice none 0 0, .slice none 0 0]) 25 :: bx (γ1 2) (#[.int .i64 v.id, .int .i64 v.dom, .int .u32 v.hard, .int .u32 v.soft]) 43 :: bx (γ1 1) (#[.int .i64 d.id, .int .i64 d.weight, .int .i64 d.cap, .int .i64 d.pool]) 32 :: bx (γ1 0) (#[.slice p n cap, .slice q m capv]) 25 :: (Yob ++ (Yoa ++ []))) (fun ⟨jb, Yob, pob, nub, cob⟩ => jb ≤ 16 ∧ nub ≤ jb ∧ SlO 43 Yob pob nub cob (mkK (gV vs v nv) jb)) (fun ⟨jb, Yob, pob, nub, cob⟩ => 16 - jb) (0, [], none, 0, 0) (by kernel_rfl) rfl ⟨Nat.zero_le _, Nat.le_refl _, SlO.nil⟩ ?_))))))))))
  rintro ⟨jb, Yob, pob, nub, cob⟩
  rintro ⟨hjb, hnnub, hOb⟩
  refine sq_ (sq_ ?_)
  by_cases q39 : ((jb + 1 : Nat) : Int) ≤ (16 : Int)
  ·
   refine qa [(1, .yes)] [4, 5, 7, 10, 11, 15] [(46, .bool true)] ([((jb + 1 : Nat) : Int) ≤ (16 : Int)]) (al1 q39) (ds_ (t_ (at_skip (ds_ (sq_ (at_block (sq_ (ao_ (qo0 2 [(0, .go (owns 4 0 2))] [4, 5, 7, 10, 11, 15] [(50, .agg #[.slice p n cap, .slice q m capv]), (51, .int .i64 ((jb + 1 : Nat)))] (cD (.tuple #[.agg #[.int .i64 ((rowC (getK Vcp.id vs ((jb + 1 : Nat)))).id), .int .i64 ((rowC (getK Vcp.id vs ((jb + 1 : Nat)))).dom), .int .u32 ((rowC (getK Vcp.id vs ((jb + 1 : Nat)))).hard), .int .u32 ((rowC (getK Vcp.id vs ((jb + 1 : Nat)))).soft)], .bool ((getK Vcp.id vs ((jb + 1 : Nat))).isSome)]) Try.call23 (fun w hw => by have := rvcp_d p n cap ds q m capv vs ((jb + 1 : Nat)) w (hds.kept hw.below) hn (by omega) (hvs.kept hw.below) hm (by omega); rw [optC_row] at this; exact this) (mo0 6 [(7, .go (owns 0 0 4))] [4, 5, 7, 10, 11, 15] (fun γ42 => [(16, .pointer (some ⟨γ42 0, 0, none⟩)), (17, .bool ((getK Vcp.id vs ((jb + 1 : Nat))).isSome))]) (fun γ42 L => bx (γ42 0) (#[.int .i64 ((rowC (getK Vcp.id vs ((jb + 1 : Nat)))).id), .int .i64 ((rowC (getK Vcp.id vs ((jb + 1 : Nat)))).dom), .int .u32 ((rowC (getK Vcp.id vs ((jb + 1 : Nat)))).hard), .int .u32 ((rowC (getK Vcp.id vs ((jb + 1 : Nat)))).soft)]) 43 :: L) (fun γ42 => on_ (ds_ (sq_ (sq_ ?_)))))))))))))))
   by_cases q44 : (v.dom : Int) > (0 : Int)
   ·
    by_cases q46 : ((jb + 1 : Nat) : Int) = (v.id : Int)
    ·
     refine qa [(1, .go (owns 3 1 1)), (2, .yes), (6, .go (owns 3 0 1)), (7, .yes)] [4, 5, 7, 10, 11, 15, 16, 17] [(63, .bool true)] ([(v.dom : Int) > (0 : Int)] ++ ([((jb + 1 : Nat) : Int) = (v.id : Int)])) (alA (al1 q44) (al1 q46)) (ds_ (t_ (ma0 [(0, .go (owns 3 0 4)), (1, .go (owns 0 0 4))] [4, 5, 7, 10, 11, 15, 16] (fun _ => [(17, .bool true)]) (fun _ L => (L.set 0 (bx (γ42 0) (#[.int .i64 v.id, .int .i64 v.dom, .int .u32 v.hard, .int .u32 v.soft]) 43))) (fun _ => ds_ (sq_ ?_)))))
     by_cases q50 : ((jb + 1 : Nat) : Int) ≠ (nv : Int)
     ·
      refine qa [(4, .yes)] [4, 5, 7, 10, 11, 15, 16] [(70, .bool true)] ([((jb + 1 : Nat) : Int) ≠ (nv : Int)]) (al1 q50) (ds_ (t_ (ao_ (mo0 4 [(1, .go (owns 1 1 1)), (2, .go (owns 0 0 4))] [4, 5, 7, 10, 11, 15] (fun γ52 => [(72, .slice pob nub cob), (74, .slice (some ⟨γ52 0, 0, none⟩) 1 1)]) (fun γ52 L => bx (γ52 0) (#[.int .i64 v.id, .int .i64 v.dom, .int .u32 v.hard, .int .u32 v.soft]) 43 :: L) (fun γ52 => ops_append (α := Vcp) [bx (γ52 0) (#[.int .i64 v.id, .int .i64 v.dom, .int .u32 v.hard, .int .u32 v.soft]) 43, bx (γ42 0) (#[.int .i64 v.id, .int .i64 v.dom, .int .u32 v.hard, .int .u32 v.soft]) 43, bx (γ2 0) (#[.slice poa nua coa, .slice pob nub cob]) 25, bx (γ1 3) (#[.slice none 0 0, .slice none 0 0]) 25, bx (γ1 2) (#[.int .i64 v.id, .int .i64 v.dom, .int .u32 v.hard, .int .u32 v.soft]) 43, bx (γ1 1) (#[.int .i64 d.id, .int .i64 d.weight, .int .i64 d.cap, .int .i64 d.pool]) 32, bx (γ1 0) (#[.slice p n cap, .slice q m capv]) 25] Yob ((Yoa ++ [])) (.refl _) rfl (by kernel_rfl) (by kernel_rfl) (p := pob) (n := nub) (cap := cob) (m := 1) (yv := .slice (some ⟨γ52 0, 0, none⟩) 1 1) (by kernel_rfl) (by kernel_rfl) (T := 43) (by_ := 24) (by kernel_rfl) ((mkK (gV vs v nv) jb)) ([⟨v.id, v.dom, v.hard, v.soft⟩]) hOb (fun w hw => src_svn Try.underlying23 (sv_row (hw.row 0 rfl) (by rfl)) (by rfl)) (by rfl) (by have hmx : maxLen = 9223372036854775807 := rfl; omega) (by have hmx : maxLen = 9223372036854775807 := rfl; omega) (fun Y53 p53 cap53 hO53 => mo0 2 [(6, .go (owns 2 1 1))] [4, 5, 7, 10, 11, 15] (fun _ => []) (fun _ L => (L.set 2 (bx (γ2 0) (#[.slice poa nua coa, .slice p53 (nub + 1) cap53]) 25))) (fun _ => on_ (done_block (ds_ (qa [(1, .fit)] [4, 5, 7, 10, 11] [(15, .int .i64 ((jb + 1 + 1 : Nat)))] ([Fit .i64 ((jb + 1 + 1 : Nat))]) (al1 (fit64 (by omega) (by omega))) (Done.pick [[bx (γ52 0) (#[.int .i64 v.id, .int .i64 v.dom, .int .u32 v.hard, .int .u32 v.soft]) 43], [bx (γ42 0) (#[.int .i64 v.id, .int .i64 v.dom, .int .u32 v.hard, .int .u32 v.soft]) 43], [bx (γ2 0) (#[.slice poa nua coa, .slice p53 (nub + 1) cap53]) 25], [bx (γ1 3) (#[.slice none 0 0, .slice none 0 0]) 25], [bx (γ1 2) (#[.int .i64 v.id, .int .i64 v.dom, .int .u32 v.hard, .int .u32 v.soft]) 43], [bx (γ1 1) (#[.int .i64 d.id, .int .i64 d.weight, .int .i64 d.cap, .int .i64 d.pool]) 32], [bx (γ1 0) (#[.slice p n cap, .slice q m capv]) 25], Y53, Yoa] [2, 3, 4, 5, 6, 7, 8] [0, 1] (bx (γ2 0) (#[.slice poa nua coa, .slice p53 (nub + 1) cap53]) 25 :: bx (γ1 3) (#[.slice none 0 0, .slice none 0 0]) 25 :: bx (γ1 2) (#[.int .i64 v.id, .int .i64 v.dom, .int .u32 v.hard, .int .u32 v.soft]) 43 :: bx (γ1 1) (#[.int .i64 d.id, .int .i64 d.weight, .int .i64 d.cap, .int .i64 d.pool]) 32 :: bx (γ1 0) (#[.slice p n cap, .slice q m capv]) 25 :: (Y53 ++ (Yoa ++ []))) (by kernel_rfl) rfl rfl ?_)))))))))))
      exact dr [4, 5, 7, 10, 11, 15] (jb + 1, Y53, p53, (nub + 1), cap53) ⟨by omega, by omega, by rw [mk_on, gV_own (n := ((jb + 1 : Nat) : Int)) (by omega) (by omega) q46]; exact hO53⟩
     ·
      refine qa [(4, .no)] [4, 5, 7, 10, 11, 15, 16] [(70, .bool false)] ([¬ (((jb + 1 : Nat) : Int) ≠ (nv : Int))]) (al1 q50) (ds_ (f_ (at_skip (done_block (ds_ (qa [(1, .fit)] [4, 5, 7, 10, 11] [(15, .int .i64 ((jb + 1 + 1 : Nat)))] ([Fit .i64 ((jb + 1 + 1 : Nat))]) (al1 (fit64 (by omega) (by omega))) (Done.pick [[bx (γ42 0) (#[.int .i64 v.id, .int .i64 v.dom, .int .u32 v.hard, .int .u32 v.soft]) 43], [bx (γ2 0) (#[.slice poa nua coa, .slice pob nub cob]) 25], [bx (γ1 3) (#[.slice none 0 0, .slice none 0 0]) 25], [bx (γ1 2) (#[.int .i64 v.id, .int .i64 v.dom, .int .u32 v.hard, .int .u32 v.soft]) 43], [bx (γ1 1) (#[.int .i64 d.id, .int .i64 d.weight, .int .i64 d.cap, .int .i64 d.pool]) 32], [bx (γ1 0) (#[.slice p n cap, .slice q m capv]) 25], Yob, Yoa] [1, 2, 3, 4, 5, 6, 7] [0] (bx (γ2 0) (#[.slice poa nua coa, .slice pob nub cob]) 25 :: bx (γ1 3) (#[.slice none 0 0, .slice none 0 0]) 25 :: bx (γ1 2) (#[.int .i64 v.id, .int .i64 v.dom, .int .u32 v.hard, .int .u32 v.soft]) 43 :: bx (γ1 1) (#[.int .i64 d.id, .int .i64 d.weight, .int .i64 d.cap, .int .i64 d.pool]) 32 :: bx (γ1 0) (#[.slice p n cap, .slice q m capv]) 25 :: (Yob ++ (Yoa ++ []))) (by kernel_rfl) rfl rfl ?_)))))))
      exact dr [4, 5, 7, 10, 11, 15] (jb + 1, Yob, pob, nub, cob) ⟨by omega, by omega, by rw [mk_on, gV_out (n := ((jb + 1 : Nat) : Int)) (by omega), List.append_nil]; exact hOb⟩
    ·
     refine qa [(1, .go (owns 3 1 1)), (2, .yes), (6, .go (owns 3 0 1)), (7, .no)] [4, 5, 7, 10, 11, 15, 16, 17] [(63, .bool false)] ([(v.dom : Int) > (0 : Int)] ++ ([¬ (((jb + 1 : Nat) : Int) = (v.id : Int))])) (alA (al1 q44) (al1 q46)) (ds_ (f_ (at_skip (ds_ (sq_ ?_)))))
     rcases q60 : (getK Vcp.id vs ((jb + 1 : Nat))).isSome with _ | _
     ·
      refine qa0 [] [4, 5, 7, 10, 11, 15, 16] [(70, .bool false)] (ds_ (f_ (at_skip (done_block (ds_ (qa [(1, .fit)] [4, 5, 7, 10, 11] [(15, .int .i64 ((jb + 1 + 1 : Nat)))] ([Fit .i64 ((jb + 1 + 1 : Nat))]) (al1 (fit64 (by omega) (by omega))) (Done.pick [[bx (γ42 0) (#[.int .i64 ((rowC (getK Vcp.id vs ((jb + 1 : Nat)))).id), .int .i64 ((rowC (getK Vcp.id vs ((jb + 1 : Nat)))).dom), .int .u32 ((rowC (getK Vcp.id vs ((jb + 1 : Nat)))).hard), .int .u32 ((rowC (getK Vcp.id vs ((jb + 1 : Nat)))).soft)]) 43], [bx (γ2 0) (#[.slice poa nua coa, .slice pob nub cob]) 25], [bx (γ1 3) (#[.slice none 0 0, .slice none 0 0]) 25], [bx (γ1 2) (#[.int .i64 v.id, .int .i64 v.dom, .int .u32 v.hard, .int .u32 v.soft]) 43], [bx (γ1 1) (#[.int .i64 d.id, .int .i64 d.weight, .int .i64 d.cap, .int .i64 d.pool]) 32], [bx (γ1 0) (#[.slice p n cap, .slice q m capv]) 25], Yob, Yoa] [1, 2, 3, 4, 5, 6, 7] [0] (bx (γ2 0) (#[.slice poa nua coa, .slice pob nub cob]) 25 :: bx (γ1 3) (#[.slice none 0 0, .slice none 0 0]) 25 :: bx (γ1 2) (#[.int .i64 v.id, .int .i64 v.dom, .int .u32 v.hard, .int .u32 v.soft]) 43 :: bx (γ1 1) (#[.int .i64 d.id, .int .i64 d.weight, .int .i64 d.cap, .int .i64 d.pool]) 32 :: bx (γ1 0) (#[.slice p n cap, .slice q m capv]) 25 :: (Yob ++ (Yoa ++ []))) (by kernel_rfl) rfl rfl ?_)))))))
      exact dr [4, 5, 7, 10, 11, 15] (jb + 1, Yob, pob, nub, cob) ⟨by omega, by omega, by rw [mk_on, gV_none (n := ((jb + 1 : Nat) : Int)) (by omega) q60, List.append_nil]; exact hOb⟩
     ·
      by_cases q64 : ((jb + 1 : Nat) : Int) ≠ (nv : Int)
      ·
       refine qa [(4, .yes)] [4, 5, 7, 10, 11, 15, 16] [(70, .bool true)] ([((jb + 1 : Nat) : Int) ≠ (nv : Int)]) (al1 q64) (ds_ (t_ (ao_ (mo0 4 [(1, .go (owns 1 1 1)), (2, .go (owns 0 0 4))] [4, 5, 7, 10, 11, 15] (fun γ66 => [(72, .slice pob nub cob), (74, .slice (some ⟨γ66 0, 0, none⟩) 1 1)]) (fun γ66 L => bx (γ66 0) (#[.int .i64 ((rowC (getK Vcp.id vs ((jb + 1 : Nat)))).id), .int .i64 ((rowC (getK Vcp.id vs ((jb + 1 : Nat)))).dom), .int .u32 ((rowC (getK Vcp.id vs ((jb + 1 : Nat)))).hard), .int .u32 ((rowC (getK Vcp.id vs ((jb + 1 : Nat)))).soft)]) 43 :: L) (fun γ66 => ops_append (α := Vcp) [bx (γ66 0) (#[.int .i64 ((rowC (getK Vcp.id vs ((jb + 1 : Nat)))).id), .int .i64 ((rowC (getK Vcp.id vs ((jb + 1 : Nat)))).dom), .int .u32 ((rowC (getK Vcp.id vs ((jb + 1 : Nat)))).hard), .int .u32 ((rowC (getK Vcp.id vs ((jb + 1 : Nat)))).soft)]) 43, bx (γ42 0) (#[.int .i64 ((rowC (getK Vcp.id vs ((jb + 1 : Nat)))).id), .int .i64 ((rowC (getK Vcp.id vs ((jb + 1 : Nat)))).dom), .int .u32 ((rowC (getK Vcp.id vs ((jb + 1 : Nat)))).hard), .int .u32 ((rowC (getK Vcp.id vs ((jb + 1 : Nat)))).soft)]) 43, bx (γ2 0) (#[.slice poa nua coa, .slice pob nub cob]) 25, bx (γ1 3) (#[.slice none 0 0, .slice none 0 0]) 25, bx (γ1 2) (#[.int .i64 v.id, .int .i64 v.dom, .int .u32 v.hard, .int .u32 v.soft]) 43, bx (γ1 1) (#[.int .i64 d.id, .int .i64 d.weight, .int .i64 d.cap, .int .i64 d.pool]) 32, bx (γ1 0) (#[.slice p n cap, .slice q m capv]) 25] Yob ((Yoa ++ [])) (.refl _) rfl (by kernel_rfl) (by kernel_rfl) (p := pob) (n := nub) (cap := cob) (m := 1) (yv := .slice (some ⟨γ66 0, 0, none⟩) 1 1) (by kernel_rfl) (by kernel_rfl) (T := 43) (by_ := 24) (by kernel_rfl) ((mkK (gV vs v nv) jb)) ([⟨(rowC (getK Vcp.id vs ((jb + 1 : Nat)))).id, (rowC (getK Vcp.id vs ((jb + 1 : Nat)))).dom, (rowC (getK Vcp.id vs ((jb + 1 : Nat)))).hard, (rowC (getK Vcp.id vs ((jb + 1 : Nat)))).soft⟩]) hOb (fun w hw => src_svn Try.underlying23 (sv_row (hw.row 0 rfl) (by rfl)) (by rfl)) (by rfl) (by have hmx : maxLen = 9223372036854775807 := rfl; omega) (by have hmx : maxLen = 9223372036854775807 := rfl; omega) (fun Y67 p67 cap67 hO67 => mo0 2 [(6, .go (owns 2 1 1))] [4, 5, 7, 10, 11, 15] (fun _ => []) (fun _ L => (L.set 2 (bx (γ2 0) (#[.slice poa nua coa, .slice p67 (nub + 1) cap67]) 25))) (fun _ => on_ (done_block (ds_ (qa [(1, .fit)] [4, 5, 7, 10, 11] [(15, .int .i64 ((jb + 1 + 1 : Nat)))] ([Fit .i64 ((jb + 1 + 1 : Nat))]) (al1 (fit64 (by omega) (by omega))) (Done.pick [[bx (γ66 0) (#[.int .i64 ((rowC (getK Vcp.id vs ((jb + 1 : Nat)))).id), .int .i64 ((rowC (getK Vcp.id vs ((jb + 1 : Nat)))).dom), .int .u32 ((rowC (getK Vcp.id vs ((jb + 1 : Nat)))).hard), .int .u32 ((rowC (getK Vcp.id vs ((jb + 1 : Nat)))).soft)]) 43], [bx (γ42 0) (#[.int .i64 ((rowC (getK Vcp.id vs ((jb + 1 : Nat)))).id), .int .i64 ((rowC (getK Vcp.id vs ((jb + 1 : Nat)))).dom), .int .u32 ((rowC (getK Vcp.id vs ((jb + 1 : Nat)))).hard), .int .u32 ((rowC (getK Vcp.id vs ((jb + 1 : Nat)))).soft)]) 43], [bx (γ2 0) (#[.slice poa nua coa, .slice p67 (nub + 1) cap67]) 25], [bx (γ1 3) (#[.slice none 0 0, .slice none 0 0]) 25], [bx (γ1 2) (#[.int .i64 v.id, .int .i64 v.dom, .int .u32 v.hard, .int .u32 v.soft]) 43], [bx (γ1 1) (#[.int .i64 d.id, .int .i64 d.weight, .int .i64 d.cap, .int .i64 d.pool]) 32], [bx (γ1 0) (#[.slice p n cap, .slice q m capv]) 25], Y67, Yoa] [2, 3, 4, 5, 6, 7, 8] [0, 1] (bx (γ2 0) (#[.slice poa nua coa, .slice p67 (nub + 1) cap67]) 25 :: bx (γ1 3) (#[.slice none 0 0, .slice none 0 0]) 25 :: bx (γ1 2) (#[.int .i64 v.id, .int .i64 v.dom, .int .u32 v.hard, .int .u32 v.soft]) 43 :: bx (γ1 1) (#[.int .i64 d.id, .int .i64 d.weight, .int .i64 d.cap, .int .i64 d.pool]) 32 :: bx (γ1 0) (#[.slice p n cap, .slice q m capv]) 25 :: (Y67 ++ (Yoa ++ []))) (by kernel_rfl) rfl rfl ?_)))))))))))
       exact dr [4, 5, 7, 10, 11, 15] (jb + 1, Y67, p67, (nub + 1), cap67) ⟨by omega, by omega, by rw [mk_on, gV_row (n := ((jb + 1 : Nat) : Int)) (by omega) (by omega) q60]; exact hO67⟩
      ·
       refine qa [(4, .no)] [4, 5, 7, 10, 11, 15, 16] [(70, .bool false)] ([¬ (((jb + 1 : Nat) : Int) ≠ (nv : Int))]) (al1 q64) (ds_ (f_ (at_skip (done_block (ds_ (qa [(1, .fit)] [4, 5, 7, 10, 11] [(15, .int .i64 ((jb + 1 + 1 : Nat)))] ([Fit .i64 ((jb + 1 + 1 : Nat))]) (al1 (fit64 (by omega) (by omega))) (Done.pick [[bx (γ42 0) (#[.int .i64 ((rowC (getK Vcp.id vs ((jb + 1 : Nat)))).id), .int .i64 ((rowC (getK Vcp.id vs ((jb + 1 : Nat)))).dom), .int .u32 ((rowC (getK Vcp.id vs ((jb + 1 : Nat)))).hard), .int .u32 ((rowC (getK Vcp.id vs ((jb + 1 : Nat)))).soft)]) 43], [bx (γ2 0) (#[.slice poa nua coa, .slice pob nub cob]) 25], [bx (γ1 3) (#[.slice none 0 0, .slice none 0 0]) 25], [bx (γ1 2) (#[.int .i64 v.id, .int .i64 v.dom, .int .u32 v.hard, .int .u32 v.soft]) 43], [bx (γ1 1) (#[.int .i64 d.id, .int .i64 d.weight, .int .i64 d.cap, .int .i64 d.pool]) 32], [bx (γ1 0) (#[.slice p n cap, .slice q m capv]) 25], Yob, Yoa] [1, 2, 3, 4, 5, 6, 7] [0] (bx (γ2 0) (#[.slice poa nua coa, .slice pob nub cob]) 25 :: bx (γ1 3) (#[.slice none 0 0, .slice none 0 0]) 25 :: bx (γ1 2) (#[.int .i64 v.id, .int .i64 v.dom, .int .u32 v.hard, .int .u32 v.soft]) 43 :: bx (γ1 1) (#[.int .i64 d.id, .int .i64 d.weight, .int .i64 d.cap, .int .i64 d.pool]) 32 :: bx (γ1 0) (#[.slice p n cap, .slice q m capv]) 25 :: (Yob ++ (Yoa ++ []))) (by kernel_rfl) rfl rfl ?_)))))))
       exact dr [4, 5, 7, 10, 11, 15] (jb + 1, Yob, pob, nub, cob) ⟨by omega, by omega, by rw [mk_on, gV_out (n := ((jb + 1 : Nat) : Int)) (by omega), List.append_nil]; exact hOb⟩
   ·
    refine qa [(1, .go (owns 3 1 1)), (2, .no)] [4, 5, 7, 10, 11, 15, 16, 17] [(63, .bool false)] ([¬ ((v.dom : Int) > (0 : Int))]) (al1 q44) (ds_ (f_ (at_skip (ds_ (sq_ ?_)))))
    rcases q74 : (getK Vcp.id vs ((jb + 1 : Nat))).isSome with _ | _
    ·
     refine qa0 [] [4, 5, 7, 10, 11, 15, 16] [(70, .bool false)] (ds_ (f_ (at_skip (done_block (ds_ (qa [(1, .fit)] [4, 5, 7, 10, 11] [(15, .int .i64 ((jb + 1 + 1 : Nat)))] ([Fit .i64 ((jb + 1 + 1 : Nat))]) (al1 (fit64 (by omega) (by omega))) (Done.pick [[bx (γ42 0) (#[.int .i64 ((rowC (getK Vcp.id vs ((jb + 1 : Nat)))).id), .int .i64 ((rowC (getK Vcp.id vs ((jb + 1 : Nat)))).dom), .int .u32 ((rowC (getK Vcp.id vs ((jb + 1 : Nat)))).hard), .int .u32 ((rowC (getK Vcp.id vs ((jb + 1 : Nat)))).soft)]) 43], [bx (γ2 0) (#[.slice poa nua coa, .slice pob nub cob]) 25], [bx (γ1 3) (#[.slice none 0 0, .slice none 0 0]) 25], [bx (γ1 2) (#[.int .i64 v.id, .int .i64 v.dom, .int .u32 v.hard, .int .u32 v.soft]) 43], [bx (γ1 1) (#[.int .i64 d.id, .int .i64 d.weight, .int .i64 d.cap, .int .i64 d.pool]) 32], [bx (γ1 0) (#[.slice p n cap, .slice q m capv]) 25], Yob, Yoa] [1, 2, 3, 4, 5, 6, 7] [0] (bx (γ2 0) (#[.slice poa nua coa, .slice pob nub cob]) 25 :: bx (γ1 3) (#[.slice none 0 0, .slice none 0 0]) 25 :: bx (γ1 2) (#[.int .i64 v.id, .int .i64 v.dom, .int .u32 v.hard, .int .u32 v.soft]) 43 :: bx (γ1 1) (#[.int .i64 d.id, .int .i64 d.weight, .int .i64 d.cap, .int .i64 d.pool]) 32 :: bx (γ1 0) (#[.slice p n cap, .slice q m capv]) 25 :: (Yob ++ (Yoa ++ []))) (by kernel_rfl) rfl rfl ?_)))))))
     exact dr [4, 5, 7, 10, 11, 15] (jb + 1, Yob, pob, nub, cob) ⟨by omega, by omega, by rw [mk_on, gV_none (n := ((jb + 1 : Nat) : Int)) (by omega) q74, List.append_nil]; exact hOb⟩
    ·
     by_cases q78 : ((jb + 1 : Nat) : Int) ≠ (nv : Int)
     ·
      refine qa [(4, .yes)] [4, 5, 7, 10, 11, 15, 16] [(70, .bool true)] ([((jb + 1 : Nat) : Int) ≠ (nv : Int)]) (al1 q78) (ds_ (t_ (ao_ (mo0 4 [(1, .go (owns 1 1 1)), (2, .go (owns 0 0 4))] [4, 5, 7, 10, 11, 15] (fun γ80 => [(72, .slice pob nub cob), (74, .slice (some ⟨γ80 0, 0, none⟩) 1 1)]) (fun γ80 L => bx (γ80 0) (#[.int .i64 ((rowC (getK Vcp.id vs ((jb + 1 : Nat)))).id), .int .i64 ((rowC (getK Vcp.id vs ((jb + 1 : Nat)))).dom), .int .u32 ((rowC (getK Vcp.id vs ((jb + 1 : Nat)))).hard), .int .u32 ((rowC (getK Vcp.id vs ((jb + 1 : Nat)))).soft)]) 43 :: L) (fun γ80 => ops_append (α := Vcp) [bx (γ80 0) (#[.int .i64 ((rowC (getK Vcp.id vs ((jb + 1 : Nat)))).id), .int .i64 ((rowC (getK Vcp.id vs ((jb + 1 : Nat)))).dom), .int .u32 ((rowC (getK Vcp.id vs ((jb + 1 : Nat)))).hard), .int .u32 ((rowC (getK Vcp.id vs ((jb + 1 : Nat)))).soft)]) 43, bx (γ42 0) (#[.int .i64 ((rowC (getK Vcp.id vs ((jb + 1 : Nat)))).id), .int .i64 ((rowC (getK Vcp.id vs ((jb + 1 : Nat)))).dom), .int .u32 ((rowC (getK Vcp.id vs ((jb + 1 : Nat)))).hard), .int .u32 ((rowC (getK Vcp.id vs ((jb + 1 : Nat)))).soft)]) 43, bx (γ2 0) (#[.slice poa nua coa, .slice pob nub cob]) 25, bx (γ1 3) (#[.slice none 0 0, .slice none 0 0]) 25, bx (γ1 2) (#[.int .i64 v.id, .int .i64 v.dom, .int .u32 v.hard, .int .u32 v.soft]) 43, bx (γ1 1) (#[.int .i64 d.id, .int .i64 d.weight, .int .i64 d.cap, .int .i64 d.pool]) 32, bx (γ1 0) (#[.slice p n cap, .slice q m capv]) 25] Yob ((Yoa ++ [])) (.refl _) rfl (by kernel_rfl) (by kernel_rfl) (p := pob) (n := nub) (cap := cob) (m := 1) (yv := .slice (some ⟨γ80 0, 0, none⟩) 1 1) (by kernel_rfl) (by kernel_rfl) (T := 43) (by_ := 24) (by kernel_rfl) ((mkK (gV vs v nv) jb)) ([⟨(rowC (getK Vcp.id vs ((jb + 1 : Nat)))).id, (rowC (getK Vcp.id vs ((jb + 1 : Nat)))).dom, (rowC (getK Vcp.id vs ((jb + 1 : Nat)))).hard, (rowC (getK Vcp.id vs ((jb + 1 : Nat)))).soft⟩]) hOb (fun w hw => src_svn Try.underlying23 (sv_row (hw.row 0 rfl) (by rfl)) (by rfl)) (by rfl) (by have hmx : maxLen = 9223372036854775807 := rfl; omega) (by have hmx : maxLen = 9223372036854775807 := rfl; omega) (fun Y81 p81 cap81 hO81 => mo0 2 [(6, .go (owns 2 1 1))] [4, 5, 7, 10, 11, 15] (fun _ => []) (fun _ L => (L.set 2 (bx (γ2 0) (#[.slice poa nua coa, .slice p81 (nub + 1) cap81]) 25))) (fun _ => on_ (done_block (ds_ (qa [(1, .fit)] [4, 5, 7, 10, 11] [(15, .int .i64 ((jb + 1 + 1 : Nat)))] ([Fit .i64 ((jb + 1 + 1 : Nat))]) (al1 (fit64 (by omega) (by omega))) (Done.pick [[bx (γ80 0) (#[.int .i64 ((rowC (getK Vcp.id vs ((jb + 1 : Nat)))).id), .int .i64 ((rowC (getK Vcp.id vs ((jb + 1 : Nat)))).dom), .int .u32 ((rowC (getK Vcp.id vs ((jb + 1 : Nat)))).hard), .int .u32 ((rowC (getK Vcp.id vs ((jb + 1 : Nat)))).soft)]) 43], [bx (γ42 0) (#[.int .i64 ((rowC (getK Vcp.id vs ((jb + 1 : Nat)))).id), .int .i64 ((rowC (getK Vcp.id vs ((jb + 1 : Nat)))).dom), .int .u32 ((rowC (getK Vcp.id vs ((jb + 1 : Nat)))).hard), .int .u32 ((rowC (getK Vcp.id vs ((jb + 1 : Nat)))).soft)]) 43], [bx (γ2 0) (#[.slice poa nua coa, .slice p81 (nub + 1) cap81]) 25], [bx (γ1 3) (#[.slice none 0 0, .slice none 0 0]) 25], [bx (γ1 2) (#[.int .i64 v.id, .int .i64 v.dom, .int .u32 v.hard, .int .u32 v.soft]) 43], [bx (γ1 1) (#[.int .i64 d.id, .int .i64 d.weight, .int .i64 d.cap, .int .i64 d.pool]) 32], [bx (γ1 0) (#[.slice p n cap, .slice q m capv]) 25], Y81, Yoa] [2, 3, 4, 5, 6, 7, 8] [0, 1] (bx (γ2 0) (#[.slice poa nua coa, .slice p81 (nub + 1) cap81]) 25 :: bx (γ1 3) (#[.slice none 0 0, .slice none 0 0]) 25 :: bx (γ1 2) (#[.int .i64 v.id, .int .i64 v.dom, .int .u32 v.hard, .int .u32 v.soft]) 43 :: bx (γ1 1) (#[.int .i64 d.id, .int .i64 d.weight, .int .i64 d.cap, .int .i64 d.pool]) 32 :: bx (γ1 0) (#[.slice p n cap, .slice q m capv]) 25 :: (Y81 ++ (Yoa ++ []))) (by kernel_rfl) rfl rfl ?_)))))))))))
      exact dr [4, 5, 7, 10, 11, 15] (jb + 1, Y81, p81, (nub + 1), cap81) ⟨by omega, by omega, by rw [mk_on, gV_row (n := ((jb + 1 : Nat) : Int)) (by omega) (by omega) q74]; exact hO81⟩
     ·
      refine qa [(4, .no)] [4, 5, 7, 10, 11, 15, 16] [(70, .bool false)] ([¬ (((jb + 1 : Nat) : Int) ≠ (nv : Int))]) (al1 q78) (ds_ (f_ (at_skip (done_block (ds_ (qa [(1, .fit)] [4, 5, 7, 10, 11] [(15, .int .i64 ((jb + 1 + 1 : Nat)))] ([Fit .i64 ((jb + 1 + 1 : Nat))]) (al1 (fit64 (by omega) (by omega))) (Done.pick [[bx (γ42 0) (#[.int .i64 ((rowC (getK Vcp.id vs ((jb + 1 : Nat)))).id), .int .i64 ((rowC (getK Vcp.id vs ((jb + 1 : Nat)))).dom), .int .u32 ((rowC (getK Vcp.id vs ((jb + 1 : Nat)))).hard), .int .u32 ((rowC (getK Vcp.id vs ((jb + 1 : Nat)))).soft)]) 43], [bx (γ2 0) (#[.slice poa nua coa, .slice pob nub cob]) 25], [bx (γ1 3) (#[.slice none 0 0, .slice none 0 0]) 25], [bx (γ1 2) (#[.int .i64 v.id, .int .i64 v.dom, .int .u32 v.hard, .int .u32 v.soft]) 43], [bx (γ1 1) (#[.int .i64 d.id, .int .i64 d.weight, .int .i64 d.cap, .int .i64 d.pool]) 32], [bx (γ1 0) (#[.slice p n cap, .slice q m capv]) 25], Yob, Yoa] [1, 2, 3, 4, 5, 6, 7] [0] (bx (γ2 0) (#[.slice poa nua coa, .slice pob nub cob]) 25 :: bx (γ1 3) (#[.slice none 0 0, .slice none 0 0]) 25 :: bx (γ1 2) (#[.int .i64 v.id, .int .i64 v.dom, .int .u32 v.hard, .int .u32 v.soft]) 43 :: bx (γ1 1) (#[.int .i64 d.id, .int .i64 d.weight, .int .i64 d.cap, .int .i64 d.pool]) 32 :: bx (γ1 0) (#[.slice p n cap, .slice q m capv]) 25 :: (Yob ++ (Yoa ++ []))) (by kernel_rfl) rfl rfl ?_)))))))
      exact dr [4, 5, 7, 10, 11, 15] (jb + 1, Yob, pob, nub, cob) ⟨by omega, by omega, by rw [mk_on, gV_out (n := ((jb + 1 : Nat) : Int)) (by omega), List.append_nil]; exact hOb⟩
  ·
   refine qa [(1, .no)] [4, 5, 7, 10, 11, 15] [(46, .bool false)] ([¬ (((jb + 1 : Nat) : Int) ≤ (16 : Int))]) (al1 q39) (ds_ (f_ (at_leave _ rfl (ds_ (sq_ (ma0 [(0, .go (owns 0 0 2)), (1, .go (owns 1 0 2))] [10] (fun _ => []) (fun _ L => (L.set 1 (bx (γ1 3) (#[.slice poa nua coa, .slice pob nub cob]) 25))) (fun _ => ds_ (rt (owns 1 0 2) (.agg #[.slice poa nua coa, .slice pob nub cob]) ?_))))))))
   obtain rfl : ja = 8 := by omega
   obtain rfl : jb = 16 := by omega
   have e1 : nua = (madeD ds d no).length := hOa.len
   have e2 : nub = (madeV vs v nv).length := hOb.len
   have hO1 : SlO 32 Yoa poa (madeD ds d no).length coa (madeD ds d no) := by have := hOa; rw [e1] at this; exact this
   have hO2 : SlO 43 Yob pob (madeV vs v nv).length cob (madeV vs v nv) := by have := hOb; rw [e2] at this; exact this
   exact fun w' hw => ⟨poa, coa, Yoa, pob, cob, Yob, by subst e1; subst e2; rfl, hO1, hO2, hw.below, two_tails (Hs.pick [[bx (γ2 0) (#[.slice poa nua coa, .slice pob nub cob]) 25], [bx (γ1 3) (#[.slice poa nua coa, .slice pob nub cob]) 25], [bx (γ1 2) (#[.int .i64 v.id, .int .i64 v.dom, .int .u32 v.hard, .int .u32 v.soft]) 43], [bx (γ1 1) (#[.int .i64 d.id, .int .i64 d.weight, .int .i64 d.cap, .int .i64 d.pool]) 32], [bx (γ1 0) (#[.slice p n cap, .slice q m capv]) 25], Yob, Yoa] [6, 5] [0, 1, 2, 3, 4] (by kernel_rfl) hw)⟩
end Go.Proofs.Ytnoefldpkfpglaa

/-! Domains: the reference. -/
namespace Go.Proofs.Ytnoefldpkfpglaa
open Go Go.RowKit

set_option maxRecDepth 100000 in
theorem rsame_d (p : Option Addr) (n cap : Nat) (ds : List Dom) (q : Option Addr) (m capv : Nat) (vs : List Vcp) (p2 : Option Addr) (n2 cap2 : Nat) (ds2 : List Dom) (q2 : Option Addr) (m2 capv2 : Nat) (vs2 : List Vcp) (w : World)
 (hds : Sv w p ds) (hn : n = ds.length) (hb : n ≤ 1000)
 (hvs : Sv w q vs) (hm : m = vs.length) (hmb : m ≤ 1000)
 (hds2 : Sv w p2 ds2) (hn2 : n2 = ds2.length) (hb2 : n2 ≤ 1000)
 (hvs2 : Sv w q2 vs2) (hm2 : m2 = vs2.length) (hmb2 : m2 ≤ 1000)
 : Calls Try.prog 19 #[.agg #[.slice p n cap, .slice q m capv], .agg #[.slice p2 n2 cap2, .slice q2 m2 capv2]] w fun e w' => e = .returned (.bool (decide (ds = ds2) && decide (vs = vs2))) ∧ Below w.heap.size w w' := by
 refine enter (Hs.start w) Try.func19 rfl Try.ntmps19 rfl (sq_ (ma0 [] [] (fun γ1 => [(2, .pointer (some ⟨γ1 0, 0, none⟩)), (3, .pointer (some ⟨γ1 1, 0, none⟩))]) (fun γ1 L => bx (γ1 1) (#[.slice p2 n2 cap2, .slice q2 m2 capv2]) 25 :: bx (γ1 0) (#[.slice p n cap, .slice q m capv]) 25 :: L) (fun γ1 => ds_ (sq_ (sq_ ?_)))))
 by_cases q3 : ((n : Nat) : Int) ≠ ((n2 : Nat) : Int)
 ·
  refine qa [(1, .go (owns 1 0 1)), (4, .go (owns 0 0 1)), (6, .yes)] [2, 3] [(22, .bool true)] ([((n : Nat) : Int) ≠ ((n2 : Nat) : Int)]) (al1 q3) (ds_ (t_ (sq_ (qa0 [] [] [(4, .bool false)] (ds_ (rt ([]) (.bool false) ?_))))))
  exact fun w' hw => ⟨by rw [← dsame_len (l := ds) (l2 := ds2) (by omega)]; rfl, hw.below⟩
 ·
  by_cases q7 : ((m : Nat) : Int) ≠ ((m2 : Nat) : Int)
  ·
   refine qa [(1, .go (owns 1 0 1)), (4, .go (owns 0 0 1)), (6, .no), (9, .go (owns 1 1 1)), (12, .go (owns 0 1 1)), (14, .yes)] [2, 3] [(22, .bool true)] ([¬ (((n : Nat) : Int) ≠ ((n2 : Nat) : Int))] ++ ([((m : Nat) : Int) ≠ ((m2 : Nat) : Int)])) (alA (al1 q3) (al1 q7)) (ds_ (t_ (sq_ (qa0 [] [] [(4, .bool false)] (ds_ (rt ([]) (.bool false) ?_))))))
   exact fun w' hw => ⟨by rw [← dsame_len (l := vs) (l2 := vs2) (by omega), Bool.and_false], hw.below⟩
  ·
   refine qa [(1, .go (owns 1 0 1)), (4, .go (owns 0 0 1)), (6, .no), (9, .go (owns 1 1 1)), (12, .go (owns 0 1 1)), (14, .no)] [2, 3] [(22, .bool false)] ([¬ (((n : Nat) : Int) ≠ ((n2 : Nat) : Int))] ++ ([¬ (((m : Nat) : Int) ≠ ((m2 : Nat) : Int))])) (alA (al1 q3) (al1 q7)) (ds_ (f_ (at_skip (ds_ (sq_ (sq_ (qa0 [] [2, 3] [(5, .int .i64 0)] (ds_ (at_block (at_loop (α := Nat) [2, 3, 5] (fun jd => [(2, .pointer (some ⟨γ1 0, 0, none⟩)), (3, .pointer (some ⟨γ1 1, 0, none⟩)), (5, .int .i64 ((jd : Nat)))]) (fun jd => [bx (γ1 1) (#[.slice p2 n2 cap2, .slice q2 m2 capv2]) 25, bx (γ1 0) (#[.slice p n cap, .slice q m capv]) 25]) (fun jd => jd ≤ n ∧ ds.take jd = ds2.take jd) (fun jd => n - jd) 0 (by kernel_rfl) rfl ⟨Nat.zero_le _, rfl⟩ ?_))))))))))
   rintro jd
   rintro ⟨hjd, hIjd⟩
   refine sq_ (sq_ ?_)
   by_cases q13 : ((jd : Nat) : Int) < ((n : Nat) : Int)
   ·
    refine qa [(2, .go (owns 1 0 1)), (4, .yes)] [2, 3, 5] [(27, .bool true)] ([((jd : Nat) : Int) < ((n : Nat) : Int)]) (al1 q13) (ds_ (t_ (at_skip (ds_ (sq_ (at_block (sq_ ?_)))))))
    obtain ⟨b16, o16, rfl⟩ := hds.pos (i := jd) (by omega)
    obtain ⟨x18, hx18⟩ := get_some (l := ds) (m := jd) (by omega)
    obtain ⟨b20, o20, rfl⟩ := hds2.pos (i := jd) (by omega)
    obtain ⟨x22, hx22⟩ := get_some (l := ds2) (m := jd) (by omega)
    by_cases q24 : x18 = x22
    ·
     refine cq [(1, .go (owns 1 0 1)), (3, .at b16 o16 jd), (4, .go (outs b16 (o16 + jd * 4) [.int .i64 x18.id, .int .i64 x18.weight, .int .i64 x18.cap, .int .i64 x18.pool])), (6, .go (owns 0 0 1)), (8, .at b20 o20 jd), (9, .go (outs b20 (o20 + jd * 4) [.int .i64 x22.id, .int .i64 x22.weight, .int .i64 x22.cap, .int .i64 x22.pool])), (10, .eqs false)] [2, 3, 5] [(40, .bool false)] ([(some ⟨b16, o16, none⟩ : Option Addr) = some ⟨b16, o16, none⟩, ((jd : Nat)) = ((jd : Nat) : Int), jd < n] ++ (cellsP w b16 (o16 + jd * 4) [.int .i64 x18.id, .int .i64 x18.weight, .int .i64 x18.cap, .int .i64 x18.pool] ++ ([(some ⟨b20, o20, none⟩ : Option Addr) = some ⟨b20, o20, none⟩, ((jd : Nat)) = ((jd : Nat) : Int), jd < n2] ++ (cellsP w b20 (o20 + jd * 4) [.int .i64 x22.id, .int .i64 x22.weight, .int .i64 x22.cap, .int .i64 x22.pool] ++ ([EqRun Try.prog .neq 32 (.tmp 34) (.tmp 39) (.agg #[.int .i64 x18.id, .int .i64 x18.weight, .int .i64 x18.cap, .int .i64 x18.pool]) (.agg #[.int .i64 x22.id, .int .i64 x22.weight, .int .i64 x22.cap, .int .i64 x22.pool]) false]))))) rfl (by kernel_rfl) (by kernel_rfl) (by kernel_rfl) (alA (al2 rfl (al2 rfl (al1 (by omega)))) (alA (rd_pre (hds.get hx18) _ rfl) (alA (al2 rfl (al2 rfl (al1 (by omega)))) (alA (rd_pre (hds2.get hx22) _ rfl) (al1 (dom_ne_t (a := x18) (b := x22) q24)))))) (ds_ (f_ (at_skip (done_block (ds_ (qa [(1, .fit)] [2, 3] [(5, .int .i64 ((jd + 1 : Nat)))] ([Fit .i64 ((jd + 1 : Nat))]) (al1 (fit64 (by omega) (by omega))) ?_))))))
     exact dr [2, 3, 5] (jd + 1) ⟨by omega, dsame_on hIjd hx18 hx22 (by first | assumption | omega)⟩
    ·
     refine cq [(1, .go (owns 1 0 1)), (3, .at b16 o16 jd), (4, .go (outs b16 (o16 + jd * 4) [.int .i64 x18.id, .int .i64 x18.weight, .int .i64 x18.cap, .int .i64 x18.pool])), (6, .go (owns 0 0 1)), (8, .at b20 o20 jd), (9, .go (outs b20 (o20 + jd * 4) [.int .i64 x22.id, .int .i64 x22.weight, .int .i64 x22.cap, .int .i64 x22.pool])), (10, .eqs true)] [2, 3, 5] [(40, .bool true)] ([(some ⟨b16, o16, none⟩ : Option Addr) = some ⟨b16, o16, none⟩, ((jd : Nat)) = ((jd : Nat) : Int), jd < n] ++ (cellsP w b16 (o16 + jd * 4) [.int .i64 x18.id, .int .i64 x18.weight, .int .i64 x18.cap, .int .i64 x18.pool] ++ ([(some ⟨b20, o20, none⟩ : Option Addr) = some ⟨b20, o20, none⟩, ((jd : Nat)) = ((jd : Nat) : Int), jd < n2] ++ (cellsP w b20 (o20 + jd * 4) [.int .i64 x22.id, .int .i64 x22.weight, .int .i64 x22.cap, .int .i64 x22.pool] ++ ([EqRun Try.prog .neq 32 (.tmp 34) (.tmp 39) (.agg #[.int .i64 x18.id, .int .i64 x18.weight, .int .i64 x18.cap, .int .i64 x18.pool]) (.agg #[.int .i64 x22.id, .int .i64 x22.weight, .int .i64 x22.cap, .int .i64 x22.pool]) true]))))) rfl (by kernel_rfl) (by kernel_rfl) (by kernel_rfl) (alA (al2 rfl (al2 rfl (al1 (by omega)))) (alA (rd_pre (hds.get hx18) _ rfl) (alA (al2 rfl (al2 rfl (al1 (by omega)))) (alA (rd_pre (hds2.get hx22) _ rfl) (al1 (dom_ne_f (a := x18) (b := x22) q24)))))) (ds_ (t_ (sq_ (qa0 [] [] [(4, .bool false)] (ds_ (rt ([]) (.bool false) ?_))))))
     exact fun w' hw => ⟨by rw [← dsame_no hx18 hx22 (by assumption)]; simp, hw.below⟩
   ·
    refine qa [(2, .go (owns 1 0 1)), (4, .no)] [2, 3, 5] [(27, .bool false)] ([¬ (((jd : Nat) : Int) < ((n : Nat) : Int))]) (al1 q13) (ds_ (f_ (at_leave _ rfl (ds_ (sq_ (sq_ (qa0 [] [2, 3] [(6, .int .i64 0)] (ds_ (at_block (at_loop (α := Nat) [2, 3, 6] (fun jv => [(2, .pointer (some ⟨γ1 0, 0, none⟩)), (3, .pointer (some ⟨γ1 1, 0, none⟩)), (6, .int .i64 ((jv : Nat)))]) (fun jv => [bx (γ1 1) (#[.slice p2 n2 cap2, .slice q2 m2 capv2]) 25, bx (γ1 0) (#[.slice p n cap, .slice q m capv]) 25]) (fun jv => jv ≤ m ∧ vs.take jv = vs2.take jv) (fun jv => m - jv) 0 (by kernel_rfl) rfl ⟨Nat.zero_le _, rfl⟩ ?_))))))))))
    rintro jv
    rintro ⟨hjv, hIjv⟩
    refine sq_ (sq_ ?_)
    by_cases q32 : ((jv : Nat) : Int) < ((m : Nat) : Int)
    ·
     refine qa [(2, .go (owns 1 1 1)), (4, .yes)] [2, 3, 6] [(45, .bool true)] ([((jv : Nat) : Int) < ((m : Nat) : Int)]) (al1 q32) (ds_ (t_ (at_skip (ds_ (sq_ (at_block (sq_ ?_)))))))
     obtain ⟨b35, o35, rfl⟩ := hvs.pos (i := jv) (by omega)
     obtain ⟨x37, hx37⟩ := get_some (l := vs) (m := jv) (by omega)
     obtain ⟨b39, o39, rfl⟩ := hvs2.pos (i := jv) (by omega)
     obtain ⟨x41, hx41⟩ := get_some (l := vs2) (m := jv) (by omega)
     by_cases q43 : x37 = x41
     ·
      refine cq [(1, .go (owns 1 1 1)), (3, .at b35 o35 jv), (4, .go (outs b35 (o35 + jv * 4) [.int .i64 x37.id, .int .i64 x37.dom, .int .u32 x37.hard, .int .u32 x37.soft])), (6, .go (owns 0 1 1)), (8, .at b39 o39 jv), (9, .go (outs b39 (o39 + jv * 4) [.int .i64 x41.id, .int .i64 x41.dom, .int .u32 x41.hard, .int .u32 x41.soft])), (10, .eqs false)] [2, 3, 6] [(58, .bool false)] ([(some ⟨b35, o35, none⟩ : Option Addr) = some ⟨b35, o35, none⟩, ((jv : Nat)) = ((jv : Nat) : Int), jv < m] ++ (cellsP w b35 (o35 + jv * 4) [.int .i64 x37.id, .int .i64 x37.dom, .int .u32 x37.hard, .int .u32 x37.soft] ++ ([(some ⟨b39, o39, none⟩ : Option Addr) = some ⟨b39, o39, none⟩, ((jv : Nat)) = ((jv : Nat) : Int), jv < m2] ++ (cellsP w b39 (o39 + jv * 4) [.int .i64 x41.id, .int .i64 x41.dom, .int .u32 x41.hard, .int .u32 x41.soft] ++ ([EqRun Try.prog .neq 43 (.tmp 52) (.tmp 57) (.agg #[.int .i64 x37.id, .int .i64 x37.dom, .int .u32 x37.hard, .int .u32 x37.soft]) (.agg #[.int .i64 x41.id, .int .i64 x41.dom, .int .u32 x41.hard, .int .u32 x41.soft]) false]))))) rfl (by kernel_rfl) (by kernel_rfl) (by kernel_rfl) (alA (al2 rfl (al2 rfl (al1 (by omega)))) (alA (rd_pre (hvs.get hx37) _ rfl) (alA (al2 rfl (al2 rfl (al1 (by omega)))) (alA (rd_pre (hvs2.get hx41) _ rfl) (al1 (vcp_ne_t (a := x37) (b := x41) q43)))))) (ds_ (f_ (at_skip (done_block (ds_ (qa [(1, .fit)] [2, 3] [(6, .int .i64 ((jv + 1 : Nat)))] ([Fit .i64 ((jv + 1 : Nat))]) (al1 (fit64 (by omega) (by omega))) ?_))))))
      exact dr [2, 3, 6] (jv + 1) ⟨by omega, dsame_on hIjv hx37 hx41 (by first | assumption | omega)⟩
     ·
      refine cq [(1, .go (owns 1 1 1)), (3, .at b35 o35 jv), (4, .go (outs b35 (o35 + jv * 4) [.int .i64 x37.id, .int .i64 x37.dom, .int .u32 x37.hard, .int .u32 x37.soft])), (6, .go (owns 0 1 1)), (8, .at b39 o39 jv), (9, .go (outs b39 (o39 + jv * 4) [.int .i64 x41.id, .int .i64 x41.dom, .int .u32 x41.hard, .int .u32 x41.soft])), (10, .eqs true)] [2, 3, 6] [(58, .bool true)] ([(some ⟨b35, o35, none⟩ : Option Addr) = some ⟨b35, o35, none⟩, ((jv : Nat)) = ((jv : Nat) : Int), jv < m] ++ (cellsP w b35 (o35 + jv * 4) [.int .i64 x37.id, .int .i64 x37.dom, .int .u32 x37.hard, .int .u32 x37.soft] ++ ([(some ⟨b39, o39, none⟩ : Option Addr) = some ⟨b39, o39, none⟩, ((jv : Nat)) = ((jv : Nat) : Int), jv < m2] ++ (cellsP w b39 (o39 + jv * 4) [.int .i64 x41.id, .int .i64 x41.dom, .int .u32 x41.hard, .int .u32 x41.soft] ++ ([EqRun Try.prog .neq 43 (.tmp 52) (.tmp 57) (.agg #[.int .i64 x37.id, .int .i64 x37.dom, .int .u32 x37.hard, .int .u32 x37.soft]) (.agg #[.int .i64 x41.id, .int .i64 x41.dom, .int .u32 x41.hard, .int .u32 x41.soft]) true]))))) rfl (by kernel_rfl) (by kernel_rfl) (by kernel_rfl) (alA (al2 rfl (al2 rfl (al1 (by omega)))) (alA (rd_pre (hvs.get hx37) _ rfl) (alA (al2 rfl (al2 rfl (al1 (by omega)))) (alA (rd_pre (hvs2.get hx41) _ rfl) (al1 (vcp_ne_f (a := x37) (b := x41) q43)))))) (ds_ (t_ (sq_ (qa0 [] [] [(4, .bool false)] (ds_ (rt ([]) (.bool false) ?_))))))
      exact fun w' hw => ⟨by rw [← dsame_no hx37 hx41 (by assumption)]; simp, hw.below⟩
    ·
     refine qa [(2, .go (owns 1 1 1)), (4, .no)] [2, 3, 6] [(45, .bool false)] ([¬ (((jv : Nat) : Int) < ((m : Nat) : Int))]) (al1 q32) (ds_ (f_ (at_leave _ rfl (ds_ (sq_ (qa0 [] [] [(4, .bool true)] (ds_ (rt ([]) (.bool true) ?_))))))))
     exact fun w' hw => ⟨by rw [← dsame_yes hIjd (by omega) (by omega), ← dsame_yes hIjv (by omega) (by omega)]; rfl, hw.below⟩

end Go.Proofs.Ytnoefldpkfpglaa

/-! Domains: guests made anew. -/
namespace Go.Proofs.Ytnoefldpkfpglaa
open Go Go.RowKit

set_option maxRecDepth 100000 in
theorem withv_d (p : Option Addr) (n cap : Nat) (ds : List Dom) (q : Option Addr) (m capv : Nat) (vs : List Vcp) (z : Vcp) (w : World)
 (hds : Sv w p ds) (hn : n = ds.length) (hb : n ≤ 1000)
 (hvs : Sv w q vs) (hm : m = vs.length) (hmb : m ≤ 1000)
 : Calls Try.prog 27 #[.agg #[.slice p n cap, .slice q m capv], .agg #[.int .i64 z.id, .int .i64 z.dom, .int .u32 z.hard, .int .u32 z.soft]] w fun e w' => ∃ q c Y q2 c2 X, e = .returned (.agg #[.slice q (madeD ds (⟨0, 0, 0, 0⟩ : Dom) 0).length c, .slice q2 (madeV vs z 0).length c2]) ∧ SlO 32 Y q (madeD ds (⟨0, 0, 0, 0⟩ : Dom) 0).length c (madeD ds (⟨0, 0, 0, 0⟩ : Dom) 0) ∧ SlO 43 X q2 (madeV vs z 0).length c2 (madeV vs z 0) ∧ Below w.heap.size w w' ∧ Hs w (Y ++ X) w' := by
 refine enter (Hs.start w) Try.func27 rfl Try.ntmps27 rfl (sq_ (ma0 [] [] (fun γ1 => [(2, .pointer (some ⟨γ1 0, 0, none⟩)), (3, .pointer (some ⟨γ1 1, 0, none⟩)), (4, .pointer (some ⟨γ1 2, 0, none⟩))]) (fun γ1 L => bx (γ1 2) (#[.slice none 0 0, .slice none 0 0]) 25 :: bx (γ1 1) (#[.int .i64 z.id, .int .i64 z.dom, .int .u32 z.hard, .int .u32 z.soft]) 43 :: bx (γ1 0) (#[.slice p n cap, .slice q m capv]) 25 :: L) (fun γ1 => ds_ (sq_ (ao_ (qo0 3 [(0, .go (owns 2 0 2)), (2, .go (owns 1 0 4))] [4] [(5, .agg #[.slice p n cap, .slice q m capv]), (6, .agg #[.int .i64 0, .int .i64 0, .int .i64 0, .int .i64 0]), (7, .agg #[.int .i64 z.id, .int .i64 z.dom, .int .u32 z.hard, .int .u32 z.soft])] (cP (fun v L' => ∃ q_ c_ Y_ q2_ c2_ X_, v = .agg #[.slice q_ (madeD ds ((⟨0, 0, 0, 0⟩ : Dom)) 0).length c_, .slice q2_ (madeV vs z 0).length c2_] ∧ L' = List.take 3 ([bx (γ1 2) (#[.slice none 0 0, .slice none 0 0]) 25, bx (γ1 1) (#[.int .i64 z.id, .int .i64 z.dom, .int .u32 z.hard, .int .u32 z.soft]) 43, bx (γ1 0) (#[.slice p n cap, .slice q m capv]) 25]) ++ (Y_ ++ (X_ ++ List.drop 3 ([bx (γ1 2) (#[.slice none 0 0, .slice none 0 0]) 25, bx (γ1 1) (#[.int .i64 z.id, .int .i64 z.dom, .int .u32 z.hard, .int .u32 z.soft]) 43, bx (γ1 0) (#[.slice p n cap, .slice q m capv]) 25]))) ∧ SlO 32 Y_ q_ (madeD ds ((⟨0, 0, 0, 0⟩ : Dom)) 0).length c_ (madeD ds ((⟨0, 0, 0, 0⟩ : Dom)) 0) ∧ SlO 43 X_ q2_ (madeV vs z 0).length c2_ (madeV vs z 0)) Try.call60 (fun w hw => (made_d p n cap ds q m capv vs ((⟨0, 0, 0, 0⟩ : Dom)) z 0 0 w (hds.kept hw.below) hn (by omega) (hvs.kept hw.below) hm (by omega)).mono fun e w' ⟨q_, c_, Y_, q2_, c2_, X_, he, h1, h2, hb, hY⟩ => ⟨_, _, he, ⟨q_, c_, Y_, q2_, c2_, X_, rfl, rfl, h1, h2⟩, hw.join2 hb hY 3⟩) ?_)))))))
 rintro v3 L3 ⟨q3, c3, Y3, p3, d3, Yx3, rfl, rfl, hO3, hP3⟩
 refine mo0 1 [(4, .go (owns 0 0 2))] [4] (fun _ => []) (fun _ L => (L.set 0 (bx (γ1 2) (#[.slice q3 ((madeD ds ((⟨0, 0, 0, 0⟩ : Dom)) 0).length) c3, .slice p3 ((madeV vs z 0).length) d3]) 25))) (fun _ => on_ (ds_ (rt (owns 0 0 2) (.agg #[.slice q3 ((madeD ds ((⟨0, 0, 0, 0⟩ : Dom)) 0).length) c3, .slice p3 ((madeV vs z 0).length) d3]) ?_)))
 exact fun w' hw => ⟨_, _, _, _, _, _, rfl, hO3, hP3, hw.below, two_tails (Hs.pick [[bx (γ1 2) (#[.slice q3 ((madeD ds ((⟨0, 0, 0, 0⟩ : Dom)) 0).length) c3, .slice p3 ((madeV vs z 0).length) d3]) 25], [bx (γ1 1) (#[.int .i64 z.id, .int .i64 z.dom, .int .u32 z.hard, .int .u32 z.soft]) 43], [bx (γ1 0) (#[.slice p n cap, .slice q m capv]) 25], Y3, Yx3] [3, 4] [0, 1, 2] (by kernel_rfl) hw)⟩

set_option maxRecDepth 100000 in
theorem wov_d (p : Option Addr) (n cap : Nat) (ds : List Dom) (q : Option Addr) (m capv : Nat) (vs : List Vcp) (k : Int) (w : World)
 (hds : Sv w p ds) (hn : n = ds.length) (hb : n ≤ 1000)
 (hvs : Sv w q vs) (hm : m = vs.length) (hmb : m ≤ 1000)
 : Calls Try.prog 28 #[.agg #[.slice p n cap, .slice q m capv], .int .i64 k] w fun e w' => ∃ q c Y q2 c2 X, e = .returned (.agg #[.slice q (madeD ds (⟨0, 0, 0, 0⟩ : Dom) 0).length c, .slice q2 (madeV vs (⟨0, 0, 0, 0⟩ : Vcp) k).length c2]) ∧ SlO 32 Y q (madeD ds (⟨0, 0, 0, 0⟩ : Dom) 0).length c (madeD ds (⟨0, 0, 0, 0⟩ : Dom) 0) ∧ SlO 43 X q2 (madeV vs (⟨0, 0, 0, 0⟩ : Vcp) k).length c2 (madeV vs (⟨0, 0, 0, 0⟩ : Vcp) k) ∧ Below w.heap.size w w' ∧ Hs w (Y ++ X) w' := by
 refine enter (Hs.start w) Try.func28 rfl Try.ntmps28 rfl (sq_ (ma0 [] [1] (fun γ1 => [(2, .pointer (some ⟨γ1 0, 0, none⟩)), (4, .pointer (some ⟨γ1 1, 0, none⟩))]) (fun γ1 L => bx (γ1 1) (#[.slice none 0 0, .slice none 0 0]) 25 :: bx (γ1 0) (#[.slice p n cap, .slice q m capv]) 25 :: L) (fun γ1 => ds_ (sq_ (ao_ (qo0 4 [(0, .go (owns 1 0 2))] [4] [(5, .agg #[.slice p n cap, .slice q m capv]), (6, .agg #[.int .i64 0, .int .i64 0, .int .i64 0, .int .i64 0]), (7, .agg #[.int .i64 0, .int .i64 0, .int .u32 0, .int .u32 0]), (8, .int .i64 k)] (cP (fun v L' => ∃ q_ c_ Y_ q2_ c2_ X_, v = .agg #[.slice q_ (madeD ds ((⟨0, 0, 0, 0⟩ : Dom)) 0).length c_, .slice q2_ (madeV vs ((⟨0, 0, 0, 0⟩ : Vcp)) k).length c2_] ∧ L' = List.take 2 ([bx (γ1 1) (#[.slice none 0 0, .slice none 0 0]) 25, bx (γ1 0) (#[.slice p n cap, .slice q m capv]) 25]) ++ (Y_ ++ (X_ ++ List.drop 2 ([bx (γ1 1) (#[.slice none 0 0, .slice none 0 0]) 25, bx (γ1 0) (#[.slice p n cap, .slice q m capv]) 25]))) ∧ SlO 32 Y_ q_ (madeD ds ((⟨0, 0, 0, 0⟩ : Dom)) 0).length c_ (madeD ds ((⟨0, 0, 0, 0⟩ : Dom)) 0) ∧ SlO 43 X_ q2_ (madeV vs ((⟨0, 0, 0, 0⟩ : Vcp)) k).length c2_ (madeV vs ((⟨0, 0, 0, 0⟩ : Vcp)) k)) Try.call60 (fun w hw => (made_d p n cap ds q m capv vs ((⟨0, 0, 0, 0⟩ : Dom)) ((⟨0, 0, 0, 0⟩ : Vcp)) 0 k w (hds.kept hw.below) hn (by omega) (hvs.kept hw.below) hm (by omega)).mono fun e w' ⟨q_, c_, Y_, q2_, c2_, X_, he, h1, h2, hb, hY⟩ => ⟨_, _, he, ⟨q_, c_, Y_, q2_, c2_, X_, rfl, rfl, h1, h2⟩, hw.join2 hb hY 2⟩) ?_)))))))
 rintro v3 L3 ⟨q3, c3, Y3, p3, d3, Yx3, rfl, rfl, hO3, hP3⟩
 refine mo0 1 [(5, .go (owns 0 0 2))] [4] (fun _ => []) (fun _ L => (L.set 0 (bx (γ1 1) (#[.slice q3 ((madeD ds ((⟨0, 0, 0, 0⟩ : Dom)) 0).length) c3, .slice p3 ((madeV vs ((⟨0, 0, 0, 0⟩ : Vcp)) k).length) d3]) 25))) (fun _ => on_ (ds_ (rt (owns 0 0 2) (.agg #[.slice q3 ((madeD ds ((⟨0, 0, 0, 0⟩ : Dom)) 0).length) c3, .slice p3 ((madeV vs ((⟨0, 0, 0, 0⟩ : Vcp)) k).length) d3]) ?_)))
 exact fun w' hw => ⟨_, _, _, _, _, _, rfl, hO3, hP3, hw.below, two_tails (Hs.pick [[bx (γ1 1) (#[.slice q3 ((madeD ds ((⟨0, 0, 0, 0⟩ : Dom)) 0).length) c3, .slice p3 ((madeV vs ((⟨0, 0, 0, 0⟩ : Vcp)) k).length) d3]) 25], [bx (γ1 0) (#[.slice p n cap, .slice q m capv]) 25], Y3, Yx3] [2, 3] [0, 1] (by kernel_rfl) hw)⟩

set_option maxRecDepth 100000 in
theorem is_d (p : Option Addr) (n cap : Nat) (ds : List Dom) (q : Option Addr) (m capv : Nat) (vs : List Vcp) (p2 : Option Addr) (n2 cap2 : Nat) (ds2 : List Dom) (q2 : Option Addr) (m2 capv2 : Nat) (vs2 : List Vcp) (e no : Int) (w : World)
 (hds : Sv w p ds) (hn : n = ds.length) (hb : n ≤ 1000)
 (hvs : Sv w q vs) (hm : m = vs.length) (hmb : m ≤ 1000)
 (hds2 : Sv w p2 ds2) (hn2 : n2 = ds2.length) (hb2 : n2 ≤ 1000)
 (hvs2 : Sv w q2 vs2) (hm2 : m2 = vs2.length) (hmb2 : m2 ≤ 1000)
 : Calls Try.prog 26 #[.agg #[.slice p n cap, .slice q m capv], .int .i64 e, .agg #[.slice p2 n2 cap2, .slice q2 m2 capv2], .int .i64 no] w fun e_ w' => e_ = .returned (.bool (isB ds vs e ds2 vs2 no)) ∧ Below w.heap.size w w' := by
 refine enter (Hs.start w) Try.func26 rfl Try.ntmps26 rfl (sq_ (ma0 [] [1, 3] (fun γ1 => [(4, .pointer (some ⟨γ1 0, 0, none⟩)), (6, .pointer (some ⟨γ1 1, 0, none⟩))]) (fun γ1 L => bx (γ1 1) (#[.slice p2 n2 cap2, .slice q2 m2 capv2]) 25 :: bx (γ1 0) (#[.slice p n cap, .slice q m capv]) 25 :: L) (fun γ1 => ds_ (sq_ (sq_ ?_)))))
 by_cases q3 : (no : Int) ≠ (0 : Int)
 ·
  refine qa [(1, .yes)] [1, 3, 4, 6] [(10, .bool true)] ([(no : Int) ≠ (0 : Int)]) (al1 q3) (ds_ (t_ (sq_ ?_)))
  by_cases q6 : (e : Int) = (no : Int)
  ·
   by_cases q8 : ((n : Nat) : Int) = (0 : Int)
   ·
    by_cases q10 : ((m : Nat) : Int) = (0 : Int)
    ·
     refine qa [(2, .yes), (5, .go (owns 1 0 1)), (7, .yes), (11, .go (owns 1 1 1)), (13, .yes)] [] [(8, .bool true)] ([(e : Int) = (no : Int)] ++ ([((n : Nat) : Int) = (0 : Int)] ++ ([((m : Nat) : Int) = (0 : Int)]))) (alA (al1 q6) (alA (al1 q8) (al1 q10))) (ds_ (rt ([]) (.bool true) ?_))
     exact fun w' hw => ⟨by rw [show isB ds vs e ds2 vs2 no = true from by unfold isB; rw [if_pos q3]; simp only [Bool.and_eq_true, decide_eq_true_eq]; omega], hw.below⟩
    ·
     refine qa [(2, .yes), (5, .go (owns 1 0 1)), (7, .yes), (11, .go (owns 1 1 1)), (13, .no)] [] [(8, .bool false)] ([(e : Int) = (no : Int)] ++ ([((n : Nat) : Int) = (0 : Int)] ++ ([¬ (((m : Nat) : Int) = (0 : Int))]))) (alA (al1 q6) (alA (al1 q8) (al1 q10))) (ds_ (rt ([]) (.bool false) ?_))
     exact fun w' hw => ⟨by rw [show isB ds vs e ds2 vs2 no = false from by unfold isB; rw [if_pos q3]; simp only [Bool.and_eq_false_iff, decide_eq_false_iff_not]; omega], hw.below⟩
   ·
    refine qa [(2, .yes), (5, .go (owns 1 0 1)), (7, .no)] [] [(8, .bool false)] ([(e : Int) = (no : Int)] ++ ([¬ (((n : Nat) : Int) = (0 : Int))])) (alA (al1 q6) (al1 q8)) (ds_ (rt ([]) (.bool false) ?_))
    exact fun w' hw => ⟨by rw [show isB ds vs e ds2 vs2 no = false from by unfold isB; rw [if_pos q3]; simp only [Bool.and_eq_false_iff, decide_eq_false_iff_not]; omega], hw.below⟩
  ·
   refine qa [(2, .no)] [] [(8, .bool false)] ([¬ ((e : Int) = (no : Int))]) (al1 q6) (ds_ (rt ([]) (.bool false) ?_))
   exact fun w' hw => ⟨by rw [show isB ds vs e ds2 vs2 no = false from by unfold isB; rw [if_pos q3]; simp only [Bool.and_eq_false_iff, decide_eq_false_iff_not]; omega], hw.below⟩
 ·
  refine qa [(1, .no)] [1, 3, 4, 6] [(10, .bool false)] ([¬ ((no : Int) ≠ (0 : Int))]) (al1 q3) (ds_ (f_ (at_skip (ds_ (sq_ ?_)))))
  by_cases q17 : (e : Int) = (0 : Int)
  ·
   refine ao_ (qo 5 [(1, .yes), (3, .go (owns 1 0 2)), (4, .go (owns 0 0 2))] [] [(28, .bool true), (29, .agg #[.slice p n cap, .slice q m capv]), (30, .agg #[.slice p2 n2 cap2, .slice q2 m2 capv2])] ([(e : Int) = (0 : Int)]) (al1 q17) (cD (.bool ((decide (ds = ds2) && decide (vs = vs2)))) Try.call19 (fun w hw => by have := rsame_d p n cap ds q m capv vs p2 n2 cap2 ds2 q2 m2 capv2 vs2 w (hds.kept hw.below) hn (by omega) (hvs.kept hw.below) hm (by omega) (hds2.kept hw.below) hn2 (by omega) (hvs2.kept hw.below) hm2 (by omega); exact this) (qo0 2 [] [] [(8, .bool ((decide (ds = ds2) && decide (vs = vs2))))] (on_ (ds_ (rt ([]) (.bool ((decide (ds = ds2) && decide (vs = vs2)))) ?_))))))
   exact fun w' hw => ⟨by rw [show isB ds vs e ds2 vs2 no = (decide (ds = ds2) && decide (vs = vs2)) from by unfold isB; rw [if_neg q3, decide_eq_true q17, Bool.true_and]], hw.below⟩
  ·
   refine qa [(1, .no)] [] [(8, .bool false)] ([¬ ((e : Int) = (0 : Int))]) (al1 q17) (ds_ (rt ([]) (.bool false) ?_))
   exact fun w' hw => ⟨by rw [show isB ds vs e ds2 vs2 no = false from by unfold isB; rw [if_neg q3, decide_eq_false q17, Bool.false_and]], hw.below⟩

set_option maxRecDepth 100000 in
theorem free_d (p : Option Addr) (n cap : Nat) (ds : List Dom) (q : Option Addr) (m capv : Nat) (vs : List Vcp) (w : World)
 (hds : Sv w p ds) (hn : n = ds.length) (hb : n ≤ 1000)
 (hvs : Sv w q vs) (hm : m = vs.length) (hmb : m ≤ 1000)
 : Calls Try.prog 25 #[.agg #[.slice p n cap, .slice q m capv]] w fun e w' => e = .returned (.int .i64 (freeL vs 16 1 : Nat)) ∧ Below w.heap.size w w' := by
 refine enter (Hs.start w) Try.func25 rfl Try.ntmps25 rfl (sq_ (ma0 [] [] (fun γ1 => [(1, .pointer (some ⟨γ1 0, 0, none⟩))]) (fun γ1 L => bx (γ1 0) (#[.slice p n cap, .slice q m capv]) 25 :: L) (fun γ1 => ds_ (sq_ (qa0 [] [1] [(3, .int .i64 1)] (ds_ (sq_ (sq_ (qa0 [] [1, 3] [(4, .int .i64 0)] (ds_ (at_block (at_loop (α := Nat × Nat) [1, 3, 4] (fun ⟨j, f⟩ => [(1, .pointer (some ⟨γ1 0, 0, none⟩)), (3, .int .i64 ((f : Nat))), (4, .int .i64 ((j : Nat)))]) (fun ⟨j, f⟩ => [bx (γ1 0) (#[.slice p n cap, .slice q m capv]) 25]) (fun ⟨j, f⟩ => j ≤ 16 ∧ f ≤ j + 1 ∧ freeL vs (16 - j) f = freeL vs 16 1) (fun ⟨j, f⟩ => 16 - j) (0, 1) (by kernel_rfl) rfl ⟨Nat.zero_le _, Nat.le_refl _, rfl⟩ ?_))))))))))))
 rintro ⟨j, f⟩
 rintro ⟨hj, hf, hI⟩
 refine sq_ (sq_ ?_)
 by_cases q5 : ((j : Nat) : Int) < (16 : Int)
 ·
  refine qa [(1, .yes)] [1, 3, 4] [(8, .bool true)] ([((j : Nat) : Int) < (16 : Int)]) (al1 q5) (ds_ (t_ (at_skip (ds_ (sq_ (at_block (sq_ (ao_ (qo0 2 [(0, .go (owns 0 0 2))] [1, 3, 4] [(12, .agg #[.slice p n cap, .slice q m capv]), (13, .int .i64 ((f : Nat)))] (cD (.tuple #[.agg #[.int .i64 ((rowC (getK Vcp.id vs ((f : Nat)))).id), .int .i64 ((rowC (getK Vcp.id vs ((f : Nat)))).dom), .int .u32 ((rowC (getK Vcp.id vs ((f : Nat)))).hard), .int .u32 ((rowC (getK Vcp.id vs ((f : Nat)))).soft)], .bool ((getK Vcp.id vs ((f : Nat))).isSome)]) Try.call23 (fun w hw => by have := rvcp_d p n cap ds q m capv vs ((f : Nat)) w (hds.kept hw.below) hn (by omega) (hvs.kept hw.below) hm (by omega); rw [optC_row] at this; exact this) (mo0 6 [(7, .go (owns 0 0 4))] [1, 3, 4] (fun γ8 => [(6, .bool ((getK Vcp.id vs ((f : Nat))).isSome))]) (fun γ8 L => bx (γ8 0) (#[.int .i64 ((rowC (getK Vcp.id vs ((f : Nat)))).id), .int .i64 ((rowC (getK Vcp.id vs ((f : Nat)))).dom), .int .u32 ((rowC (getK Vcp.id vs ((f : Nat)))).hard), .int .u32 ((rowC (getK Vcp.id vs ((f : Nat)))).soft)]) 43 :: L) (fun γ8 => on_ (ds_ (sq_ (qa0 [] [1, 3, 4] [(17, .bool ((getK Vcp.id vs ((f : Nat))).isSome))] (ds_ ?_))))))))))))))))
  rcases q10 : (getK Vcp.id vs ((f : Nat))).isSome with _ | _
  ·
   refine f_ (at_skip (done_block (ds_ (qa [(1, .fit)] [1, 3] [(4, .int .i64 ((j + 1 : Nat)))] ([Fit .i64 ((j + 1 : Nat))]) (al1 (fit64 (by omega) (by omega))) (Done.drop (L' := [bx (γ1 0) (#[.slice p n cap, .slice q m capv]) 25]) ?_ (List.Sublist.cons _ (List.Sublist.cons_cons _ (List.Sublist.refl _))))))))
   exact dr [1, 3, 4] (j + 1, f) ⟨by omega, by omega, freeL_no hI (by omega) q10⟩
  ·
   refine t_ (qa [(1, .fit)] [1, 4] [(3, .int .i64 ((f + 1 : Nat)))] ([Fit .i64 ((f + 1 : Nat))]) (al1 (fit64 (by omega) (by omega))) (done_block (ds_ (qa [(1, .fit)] [1, 3] [(4, .int .i64 ((j + 1 : Nat)))] ([Fit .i64 ((j + 1 : Nat))]) (al1 (fit64 (by omega) (by omega))) (Done.drop (L' := [bx (γ1 0) (#[.slice p n cap, .slice q m capv]) 25]) ?_ (List.Sublist.cons _ (List.Sublist.cons_cons _ (List.Sublist.refl _))))))))
   exact dr [1, 3, 4] (j + 1, f + 1) ⟨by omega, by omega, freeL_yes hI (by omega) q10⟩
 ·
  refine qa [(1, .no)] [1, 3, 4] [(8, .bool false)] ([¬ (((j : Nat) : Int) < (16 : Int))]) (al1 q5) (ds_ (f_ (at_leave _ rfl (ds_ (sq_ (qa0 [] [] [(2, .int .i64 ((f : Nat)))] (ds_ (rt ([]) (.int .i64 ((f : Nat))) ?_))))))))
  exact fun w' hw => ⟨by rw [freeL_end hI (by omega)], hw.below⟩
end Go.Proofs.Ytnoefldpkfpglaa

/-! Domains: Create. -/
namespace Go.Proofs.Ytnoefldpkfpglaa
open Go Go.RowKit

set_option maxRecDepth 100000 in
theorem create_d (p : Option Addr) (n cap : Nat) (ds : List Dom) (q : Option Addr) (m capv : Nat) (vs : List Vcp) (d : Dom) (w : World)
 (hds : Sv w p ds) (hn : n = ds.length) (hb : n ≤ 1000)
 (hvs : Sv w q vs) (hm : m = vs.length) (hmb : m ≤ 1000)
 : Calls Try.prog 29 #[.agg #[.slice p n cap, .slice q m capv], .agg #[.int .i64 d.id, .int .i64 d.weight, .int .i64 d.cap, .int .i64 d.pool]] w fun e w' => ∃ q m capq Y q2 m2 capq2 X, e = .returned (.tuple #[.agg #[.slice q m capq, .slice q2 m2 capq2], .int .i64 (createV ds vs d).2.2]) ∧ SlO 32 Y q m capq (createV ds vs d).1 ∧ SlO 43 X q2 m2 capq2 (createV ds vs d).2.1 ∧ Below w.heap.size w w' ∧ Hs w (Y ++ X) w' := by
 refine enter (Hs.start w) Try.func29 rfl Try.ntmps29 rfl (sq_ (ma0 [] [] (fun γ1 => [(2, .pointer (some ⟨γ1 0, 0, none⟩)), (3, .pointer (some ⟨γ1 1, 0, none⟩)), (4, .pointer (some ⟨γ1 2, 0, none⟩))]) (fun γ1 L => bx (γ1 2) (#[.slice none 0 0, .slice none 0 0]) 25 :: bx (γ1 1) (#[.int .i64 d.id, .int .i64 d.weight, .int .i64 d.cap, .int .i64 d.pool]) 32 :: bx (γ1 0) (#[.slice p n cap, .slice q m capv]) 25 :: L) (fun γ1 => ds_ (sq_ (ao_ (qo0 2 [(0, .go (owns 2 0 2))] [4] [(6, .agg #[.slice p n cap, .slice q m capv]), (7, .func (.func 61) #[] #[.pointer (some ⟨γ1 1, 0, none⟩)])] (ops_inline (g := 52) (args := #[.agg #[.slice p n cap, .slice q m capv], .func (.func 61) #[] #[.pointer (some ⟨γ1 1, 0, none⟩)]]) (by kernel_rfl) (by kernel_rfl) (by kernel_rfl) (fun args w => Try.call52 args w) Try.func52 rfl Try.ntmps52 rfl (sq_ (ma0 [] [1] (fun γ3 => [(2, .pointer (some ⟨γ3 0, 0, none⟩)), (4, .pointer (some ⟨γ3 1, 0, none⟩))]) (fun γ3 L => bx (γ3 1) (#[.slice none 0 0, .slice none 0 0]) 25 :: bx (γ3 0) (#[.slice p n cap, .slice q m capv]) 25 :: L) (fun γ3 => ds_ (sq_ (sq_ (ao_ (qo0 1 [(0, .go (owns 1 0 2))] [1, 2, 4] [(9, .agg #[.slice p n cap, .slice q m capv])] ?_))))))))))))))
 rcases q5 : guestsB ds vs with _ | _
 ·
  refine cD (.int .i64 190) Try.call10 (fun w hw => by have := gcheck_d p n cap ds q m capv vs w (hds.kept hw.below) hn (by omega) (hvs.kept hw.below) hm (by omega); rw [q5] at this; exact this) (qo0 1 [] [1, 2, 4] [(6, .int .i64 190)] (on_ (ds_ (sq_ (qa0 [] [1, 2, 4, 6] [(12, .bool true)] (ds_ (t_ (sq_ (qa0 [(2, .go (owns 0 0 2))] [4] [(5, .int .i64 190)] (ds_ (bk (owns 0 0 2) (.tuple #[.agg #[.slice none 0 0, .slice none 0 0], .int .i64 190]) (qo0 4 [(5, .go (owns 2 0 2))] [4] [(5, .int .i64 190)] (on_ (ds_ (rt (owns 2 0 2) (.tuple #[.agg #[.slice none 0 0, .slice none 0 0], .int .i64 190]) ?_)))))))))))))))
  exact fun w' hw => by rw [createV_bad q5]; exact ⟨none, 0, 0, [], none, 0, 0, [], rfl, SlO.nil, SlO.nil, hw.below, hw.sub (List.nil_sublist _)⟩
 ·
  refine cD (.int .i64 0) Try.call10 (fun w hw => by have := gcheck_d p n cap ds q m capv vs w (hds.kept hw.below) hn (by omega) (hvs.kept hw.below) hm (by omega); rw [q5] at this; exact this) (qo0 1 [] [1, 2, 4] [(6, .int .i64 0)] (on_ (ds_ (sq_ (qa0 [] [1, 2, 4, 6] [(12, .bool false)] (ds_ (f_ (at_skip (ds_ (sq_ ?_))))))))))
  refine at_any (by kernel_rfl) ?_
  refine tk (m := 9) [0, 4] [] [1, 2, 4] [(15, .pointer (some ⟨γ3 0, 0, none⟩)), (19, .pointer (some ⟨γ3 0, 1, none⟩))] ([]) #[true, false, false, false, true, false, false, false, false, false, false] al0 ?_
  refine any_cutX (V := (Array Value) × (Array Value) × (Nat) × (Nat) × (Nat → Nat)) (fun ⟨c155, c75, g155, g75, γ195⟩ => c155.size = m * 4 ∧ c75.size = n * 4) 0 #[true, true, true, true, true, true, true, true, true, true, true] (fun ⟨c155, c75, g155, g75, γ195⟩ => [(1, .func (.func 61) #[] #[.pointer (some ⟨γ1 1, 0, none⟩)]), (2, .pointer (some ⟨γ3 0, 0, none⟩)), (4, .pointer (some ⟨γ3 1, 0, none⟩)), (7, .pointer (some ⟨γ195 0, 0, none⟩))]) (fun ⟨c155, c75, g155, g75, γ195⟩ => [bx (γ195 0) (#[.slice (some ⟨g75, 0, none⟩) n n, .slice (some ⟨g155, 0, none⟩) m m]) 25, bx g155 c155 43, bx g75 c75 32, bx (γ3 1) (#[.slice none 0 0, .slice none 0 0]) 25, bx (γ3 0) (#[.slice p n cap, .slice q m capv]) 25, bx (γ1 2) (#[.slice none 0 0, .slice none 0 0]) 25, bx (γ1 1) (#[.int .i64 d.id, .int .i64 d.weight, .int .i64 d.cap, .int .i64 d.pool]) 32, bx (γ1 0) (#[.slice p n cap, .slice q m capv]) 25]) ?_ (fun hmx18 => ?_)
  rotate_left
  ·
   refine any_cutX (V := (Array Value) × (Array Value) × (Nat) × (Nat) × (Nat → Nat)) (fun ⟨c155, c75, g155, g75, γ195⟩ => c155.size = m * 4 ∧ c75.size = n * 4) 1 #[true, true, true, true, true, true, true, true, true, true, false] (fun ⟨c155, c75, g155, g75, γ195⟩ => [(1, .func (.func 61) #[] #[.pointer (some ⟨γ1 1, 0, none⟩)]), (2, .pointer (some ⟨γ3 0, 0, none⟩)), (4, .pointer (some ⟨γ3 1, 0, none⟩)), (7, .pointer (some ⟨γ195 0, 0, none⟩)), (23, .agg #[.slice (some ⟨g75, 0, none⟩) n n, .slice (some ⟨g155, 0, none⟩) m m])]) (fun ⟨c155, c75, g155, g75, γ195⟩ => [bx (γ195 0) (#[.slice none 0 0, .slice none 0 0]) 25, bx g155 c155 43, bx g75 c75 32, bx (γ3 1) (#[.slice none 0 0, .slice none 0 0]) 25, bx (γ3 0) (#[.slice p n cap, .slice q m capv]) 25, bx (γ1 2) (#[.slice none 0 0, .slice none 0 0]) 25, bx (γ1 1) (#[.int .i64 d.id, .int .i64 d.weight, .int .i64 d.cap, .int .i64 d.pool]) 32, bx (γ1 0) (#[.slice p n cap, .slice q m capv]) 25]) ?_ (fun hmx17 => ?_)
   ·
    rintro ⟨c155, c75, g155, g75, γ195⟩ ⟨hc155, hc75⟩
    refine a1 10 rfl ?_
    refine mo0 1 [(10, .go (owns 0 0 2))] [1, 2, 4, 7] (fun _ => []) (fun _ L => (L.set 0 (bx (γ195 0) (#[.slice (some ⟨g75, 0, none⟩) n n, .slice (some ⟨g155, 0, none⟩) m m]) 25))) (fun _ => ?_)
    refine od_ ?_
    exact wk (hmx18 (c155, c75, g155, g75, γ195) ⟨hc155, hc75⟩) [1, 2, 4, 7] [[_], [_], [_], [_], [_], [_], [_], [_]] [0, 1, 2, 3, 4, 5, 6, 7] rfl rfl
   refine any_cutX (V := (Array Value) × (Array Value) × (Nat) × (Nat)) (fun ⟨c155, c75, g155, g75⟩ => c155.size = m * 4 ∧ c75.size = n * 4) 2 #[true, true, true, true, true, true, true, true, true, false, false] (fun ⟨c155, c75, g155, g75⟩ => [(1, .func (.func 61) #[] #[.pointer (some ⟨γ1 1, 0, none⟩)]), (2, .pointer (some ⟨γ3 0, 0, none⟩)), (4, .pointer (some ⟨γ3 1, 0, none⟩)), (23, .agg #[.slice (some ⟨g75, 0, none⟩) n n, .slice (some ⟨g155, 0, none⟩) m m])]) (fun ⟨c155, c75, g155, g75⟩ => [bx g155 c155 43, bx g75 c75 32, bx (γ3 1) (#[.slice none 0 0, .slice none 0 0]) 25, bx (γ3 0) (#[.slice p n cap, .slice q m capv]) 25, bx (γ1 2) (#[.slice none 0 0, .slice none 0 0]) 25, bx (γ1 1) (#[.int .i64 d.id, .int .i64 d.weight, .int .i64 d.cap, .int .i64 d.pool]) 32, bx (γ1 0) (#[.slice p n cap, .slice q m capv]) 25]) ?_ (fun hmx16 => ?_)
   ·
    rintro ⟨c155, c75, g155, g75⟩ ⟨hc155, hc75⟩
    refine a1 9 rfl ?_
    refine mo0 1 [] [1, 2, 4, 23] (fun γ195 => [(7, .pointer (some ⟨γ195 0, 0, none⟩))]) (fun γ195 L => bx (γ195 0) (#[.slice none 0 0, .slice none 0 0]) 25 :: L) (fun γ195 => ?_)
    refine od_ ?_
    exact wk (hmx17 (c155, c75, g155, g75, γ195) ⟨hc155, hc75⟩) [1, 2, 4, 7, 23] [[_], [_], [_], [_], [_], [_], [_], [_]] [0, 1, 2, 3, 4, 5, 6, 7] rfl rfl
   refine any_cutX (V := (Array Value) × (Nat) × (Nat → Nat)) (fun ⟨c155, g155, γ195⟩ => c155.size = m * 4) 3 #[true, true, true, false, true, true, true, true, false, true, false] (fun ⟨c155, g155, γ195⟩ => [(1, .func (.func 61) #[] #[.pointer (some ⟨γ1 1, 0, none⟩)]), (2, .pointer (some ⟨γ3 0, 0, none⟩)), (4, .pointer (some ⟨γ3 1, 0, none⟩)), (7, .pointer (some ⟨γ195 0, 0, none⟩)), (17, .int .i64 ((n : Nat))), (22, .slice (some ⟨g155, 0, none⟩) m m)]) (fun ⟨c155, g155, γ195⟩ => [bx (γ195 0) (#[.slice none 0 0, .slice none 0 0]) 25, bx g155 c155 43, bx (γ3 1) (#[.slice none 0 0, .slice none 0 0]) 25, bx (γ3 0) (#[.slice p n cap, .slice q m capv]) 25, bx (γ1 2) (#[.slice none 0 0, .slice none 0 0]) 25, bx (γ1 1) (#[.int .i64 d.id, .int .i64 d.weight, .int .i64 d.cap, .int .i64 d.pool]) 32, bx (γ1 0) (#[.slice p n cap, .slice q m capv]) 25]) ?_ (fun hmx15 => ?_)
   ·
    rintro ⟨c155, g155, γ195⟩ hc155
    refine a1 3 rfl ?_
    refine ops_make (T := 32) (ks := 4) (by_ := 32) (n := n) rfl (by kernel_rfl) (by kernel_rfl) (by kernel_rfl) (by kernel_rfl) (by kernel_rfl) (by omega) (by have hmx : maxLen = 9223372036854775807 := rfl; omega) (fun g75 c75 hc75 => ?_)
    refine od_ ?_
    refine tk (m := 1) [8] [] [1, 2, 4, 7] [(23, .agg #[.slice (some ⟨g75, 0, none⟩) n n, .slice (some ⟨g155, 0, none⟩) m m])] ([]) #[true, true, true, true, true, true, true, true, true, true, false] al0 ?_
    exact wk (hmx17 (c155, c75, g155, g75, γ195) ⟨hc155, hc75⟩) [1, 2, 4, 7, 23] [[_], [_], [_], [_], [_], [_], [_], [_]] [1, 2, 0, 3, 4, 5, 6, 7] rfl rfl
   refine any_cutX (V := (Array Value) × (Nat) × (Nat → Nat)) (fun ⟨c75, g75, γ195⟩ => c75.size = n * 4) 3 #[true, true, true, true, true, true, true, false, false, true, false] (fun ⟨c75, g75, γ195⟩ => [(1, .func (.func 61) #[] #[.pointer (some ⟨γ1 1, 0, none⟩)]), (2, .pointer (some ⟨γ3 0, 0, none⟩)), (4, .pointer (some ⟨γ3 1, 0, none⟩)), (7, .pointer (some ⟨γ195 0, 0, none⟩)), (18, .slice (some ⟨g75, 0, none⟩) n n), (21, .int .i64 ((m : Nat)))]) (fun ⟨c75, g75, γ195⟩ => [bx (γ195 0) (#[.slice none 0 0, .slice none 0 0]) 25, bx g75 c75 32, bx (γ3 1) (#[.slice none 0 0, .slice none 0 0]) 25, bx (γ3 0) (#[.slice p n cap, .slice q m capv]) 25, bx (γ1 2) (#[.slice none 0 0, .slice none 0 0]) 25, bx (γ1 1) (#[.int .i64 d.id, .int .i64 d.weight, .int .i64 d.cap, .int .i64 d.pool]) 32, bx (γ1 0) (#[.slice p n cap, .slice q m capv]) 25]) ?_ (fun hmx14 => ?_)
   ·
    rintro ⟨c75, g75, γ195⟩ hc75
    refine a1 7 rfl ?_
    refine ops_make (T := 43) (ks := 4) (by_ := 24) (n := m) rfl (by kernel_rfl) (by kernel_rfl) (by kernel_rfl) (by kernel_rfl) (by kernel_rfl) (by omega) (by have hmx : maxLen = 9223372036854775807 := rfl; omega) (fun g155 c155 hc155 => ?_)
    refine od_ ?_
    refine tk (m := 1) [8] [] [1, 2, 4, 7] [(23, .agg #[.slice (some ⟨g75, 0, none⟩) n n, .slice (some ⟨g155, 0, none⟩) m m])] ([]) #[true, true, true, true, true, true, true, true, true, true, false] al0 ?_
    exact wk (hmx17 (c155, c75, g155, g75, γ195) ⟨hc155, hc75⟩) [1, 2, 4, 7, 23] [[_], [_], [_], [_], [_], [_], [_], [_]] [1, 0, 2, 3, 4, 5, 6, 7] rfl rfl
   refine any_cutX (V := (Array Value) × (Nat)) (fun ⟨c155, g155⟩ => c155.size = m * 4) 4 #[true, true, true, false, true, true, true, true, false, false, false] (fun ⟨c155, g155⟩ => [(1, .func (.func 61) #[] #[.pointer (some ⟨γ1 1, 0, none⟩)]), (2, .pointer (some ⟨γ3 0, 0, none⟩)), (4, .pointer (some ⟨γ3 1, 0, none⟩)), (17, .int .i64 ((n : Nat))), (22, .slice (some ⟨g155, 0, none⟩) m m)]) (fun ⟨c155, g155⟩ => [bx g155 c155 43, bx (γ3 1) (#[.slice none 0 0, .slice none 0 0]) 25, bx (γ3 0) (#[.slice p n cap, .slice q m capv]) 25, bx (γ1 2) (#[.slice none 0 0, .slice none 0 0]) 25, bx (γ1 1) (#[.int .i64 d.id, .int .i64 d.weight, .int .i64 d.cap, .int .i64 d.pool]) 32, bx (γ1 0) (#[.slice p n cap, .slice q m capv]) 25]) ?_ (fun hmx13 => ?_)
   ·
    rintro ⟨c155, g155⟩ hc155
    refine any_fork [3, 9] (by kernel_rfl) (by simp) (each_cons _ rfl ?_ (each_cons _ rfl ?_ (each_nil)))
    ·
     refine ops_make (T := 32) (ks := 4) (by_ := 32) (n := n) rfl (by kernel_rfl) (by kernel_rfl) (by kernel_rfl) (by kernel_rfl) (by kernel_rfl) (by omega) (by have hmx : maxLen = 9223372036854775807 := rfl; omega) (fun g75 c75 hc75 => ?_)
     refine od_ ?_
     refine tk (m := 2) [8] [] [1, 2, 4] [(23, .agg #[.slice (some ⟨g75, 0, none⟩) n n, .slice (some ⟨g155, 0, none⟩) m m])] ([]) #[true, true, true, true, true, true, true, true, true, false, false] al0 ?_
     exact wk (hmx16 (c155, c75, g155, g75) ⟨hc155, hc75⟩) [1, 2, 4, 23] [[_], [_], [_], [_], [_], [_], [_]] [1, 0, 2, 3, 4, 5, 6] rfl rfl
    ·
     refine mo0 1 [] [1, 2, 4, 17, 22] (fun γ195 => [(7, .pointer (some ⟨γ195 0, 0, none⟩))]) (fun γ195 L => bx (γ195 0) (#[.slice none 0 0, .slice none 0 0]) 25 :: L) (fun γ195 => ?_)
     refine od_ ?_
     exact wk (hmx15 (c155, g155, γ195) hc155) [1, 2, 4, 7, 17, 22] [[_], [_], [_], [_], [_], [_], [_]] [0, 1, 2, 3, 4, 5, 6] rfl rfl
   refine any_cutX (V := (Array Value) × (Nat)) (fun ⟨c75, g75⟩ => c75.size = n * 4) 4 #[true, true, true, true, true, true, true, false, false, false, false] (fun ⟨c75, g75⟩ => [(1, .func (.func 61) #[] #[.pointer (some ⟨γ1 1, 0, none⟩)]), (2, .pointer (some ⟨γ3 0, 0, none⟩)), (4, .pointer (some ⟨γ3 1, 0, none⟩)), (18, .slice (some ⟨g75, 0, none⟩) n n), (21, .int .i64 ((m : Nat)))]) (fun ⟨c75, g75⟩ => [bx g75 c75 32, bx (γ3 1) (#[.slice none 0 0, .slice none 0 0]) 25, bx (γ3 0) (#[.slice p n cap, .slice q m capv]) 25, bx (γ1 2) (#[.slice none 0 0, .slice none 0 0]) 25, bx (γ1 1) (#[.int .i64 d.id, .int .i64 d.weight, .int .i64 d.cap, .int .i64 d.pool]) 32, bx (γ1 0) (#[.slice p n cap, .slice q m capv]) 25]) ?_ (fun hmx12 => ?_)
   ·
    rintro ⟨c75, g75⟩ hc75
    refine any_fork [7, 9] (by kernel_rfl) (by simp) (each_cons _ rfl ?_ (each_cons _ rfl ?_ (each_nil)))
    ·
     refine ops_make (T := 43) (ks := 4) (by_ := 24) (n := m) rfl (by kernel_rfl) (by kernel_rfl) (by kernel_rfl) (by kernel_rfl) (by kernel_rfl) (by omega) (by have hmx : maxLen = 9223372036854775807 := rfl; omega) (fun g155 c155 hc155 => ?_)
     refine od_ ?_
     refine tk (m := 2) [8] [] [1, 2, 4] [(23, .agg #[.slice (some ⟨g75, 0, none⟩) n n, .slice (some ⟨g155, 0, none⟩) m m])] ([]) #[true, true, true, true, true, true, true, true, true, false, false] al0 ?_
     exact wk (hmx16 (c155, c75, g155, g75) ⟨hc155, hc75⟩) [1, 2, 4, 23] [[_], [_], [_], [_], [_], [_], [_]] [0, 1, 2, 3, 4, 5, 6] rfl rfl
    ·
     refine mo0 1 [] [1, 2, 4, 18, 21] (fun γ195 => [(7, .pointer (some ⟨γ195 0, 0, none⟩))]) (fun γ195 L => bx (γ195 0) (#[.slice none 0 0, .slice none 0 0]) 25 :: L) (fun γ195 => ?_)
     refine od_ ?_
     exact wk (hmx14 (c75, g75, γ195) hc75) [1, 2, 4, 7, 18, 21] [[_], [_], [_], [_], [_], [_], [_]] [0, 1, 2, 3, 4, 5, 6] rfl rfl
   refine any_cutX (V := (Nat → Nat)) (fun γ195 => True) 4 #[true, true, true, false, true, true, true, false, false, true, false] (fun γ195 => [(1, .func (.func 61) #[] #[.pointer (some ⟨γ1 1, 0, none⟩)]), (2, .pointer (some ⟨γ3 0, 0, none⟩)), (4, .pointer (some ⟨γ3 1, 0, none⟩)), (7, .pointer (some ⟨γ195 0, 0, none⟩)), (17, .int .i64 ((n : Nat))), (21, .int .i64 ((m : Nat)))]) (fun γ195 => [bx (γ195 0) (#[.slice none 0 0, .slice none 0 0]) 25, bx (γ3 1) (#[.slice none 0 0, .slice none 0 0]) 25, bx (γ3 0) (#[.slice p n cap, .slice q m capv]) 25, bx (γ1 2) (#[.slice none 0 0, .slice none 0 0]) 25, bx (γ1 1) (#[.int .i64 d.id, .int .i64 d.weight, .int .i64 d.cap, .int .i64 d.pool]) 32, bx (γ1 0) (#[.slice p n cap, .slice q m capv]) 25]) ?_ (fun hmx11 => ?_)
   ·
    rintro γ195 _
    refine any_fork [3, 7] (by kernel_rfl) (by simp) (each_cons _ rfl ?_ (each_cons _ rfl ?_ (each_nil)))
    ·
     refine ops_make (T := 32) (ks := 4) (by_ := 32) (n := n) rfl (by kernel_rfl) (by kernel_rfl) (by kernel_rfl) (by kernel_rfl) (by kernel_rfl) (by omega) (by have hmx : maxLen = 9223372036854775807 := rfl; omega) (fun g75 c75 hc75 => ?_)
     refine od_ ?_
     exact wk (hmx14 (c75, g75, γ195) hc75) [1, 2, 4, 7, 18, 21] [[_], [_], [_], [_], [_], [_], [_]] [1, 0, 2, 3, 4, 5, 6] rfl rfl
    ·
     refine ops_make (T := 43) (ks := 4) (by_ := 24) (n := m) rfl (by kernel_rfl) (by kernel_rfl) (by kernel_rfl) (by kernel_rfl) (by kernel_rfl) (by omega) (by have hmx : maxLen = 9223372036854775807 := rfl; omega) (fun g155 c155 hc155 => ?_)
     refine od_ ?_
     exact wk (hmx15 (c155, g155, γ195) hc155) [1, 2, 4, 7, 17, 22] [[_], [_], [_], [_], [_], [_], [_]] [1, 0, 2, 3, 4, 5, 6] rfl rfl
   refine any_cutX (V := (Array Value) × (Nat) × (Nat → Nat)) (fun ⟨c155, g155, γ195⟩ => c155.size = m * 4) 5 #[true, false, false, false, true, true, true, true, false, true, false] (fun ⟨c155, g155, γ195⟩ => [(1, .func (.func 61) #[] #[.pointer (some ⟨γ1 1, 0, none⟩)]), (2, .pointer (some ⟨γ3 0, 0, none⟩)), (4, .pointer (some ⟨γ3 1, 0, none⟩)), (7, .pointer (some ⟨γ195 0, 0, none⟩)), (15, .pointer (some ⟨γ3 0, 0, none⟩)), (22, .slice (some ⟨g155, 0, none⟩) m m)]) (fun ⟨c155, g155, γ195⟩ => [bx (γ195 0) (#[.slice none 0 0, .slice none 0 0]) 25, bx g155 c155 43, bx (γ3 1) (#[.slice none 0 0, .slice none 0 0]) 25, bx (γ3 0) (#[.slice p n cap, .slice q m capv]) 25, bx (γ1 2) (#[.slice none 0 0, .slice none 0 0]) 25, bx (γ1 1) (#[.int .i64 d.id, .int .i64 d.weight, .int .i64 d.cap, .int .i64 d.pool]) 32, bx (γ1 0) (#[.slice p n cap, .slice q m capv]) 25]) ?_ (fun hmx10 => ?_)
   ·
    rintro ⟨c155, g155, γ195⟩ hc155
    refine a1 1 rfl ?_
    refine qo0 1 [(1, .go (owns 3 0 1))] [1, 2, 4, 7, 22] [(16, .slice p n cap)] ?_
    refine od_ ?_
    refine tk (m := 3) [2] [] [1, 2, 4, 7, 22] [(17, .int .i64 ((n : Nat)))] ([]) #[true, true, true, false, true, true, true, true, false, true, false] al0 ?_
    exact wk (hmx15 (c155, g155, γ195) hc155) [1, 2, 4, 7, 17, 22] [[_], [_], [_], [_], [_], [_], [_]] [0, 1, 2, 3, 4, 5, 6] rfl rfl
   refine any_cutX (V := (Array Value) × (Nat) × (Nat → Nat)) (fun ⟨c75, g75, γ195⟩ => c75.size = n * 4) 5 #[true, true, true, true, true, false, false, false, false, true, false] (fun ⟨c75, g75, γ195⟩ => [(1, .func (.func 61) #[] #[.pointer (some ⟨γ1 1, 0, none⟩)]), (2, .pointer (some ⟨γ3 0, 0, none⟩)), (4, .pointer (some ⟨γ3 1, 0, none⟩)), (7, .pointer (some ⟨γ195 0, 0, none⟩)), (18, .slice (some ⟨g75, 0, none⟩) n n), (19, .pointer (some ⟨γ3 0, 1, none⟩))]) (fun ⟨c75, g75, γ195⟩ => [bx (γ195 0) (#[.slice none 0 0, .slice none 0 0]) 25, bx g75 c75 32, bx (γ3 1) (#[.slice none 0 0, .slice none 0 0]) 25, bx (γ3 0) (#[.slice p n cap, .slice q m capv]) 25, bx (γ1 2) (#[.slice none 0 0, .slice none 0 0]) 25, bx (γ1 1) (#[.int .i64 d.id, .int .i64 d.weight, .int .i64 d.cap, .int .i64 d.pool]) 32, bx (γ1 0) (#[.slice p n cap, .slice q m capv]) 25]) ?_ (fun hmx9 => ?_)
   ·
    rintro ⟨c75, g75, γ195⟩ hc75
    refine a1 5 rfl ?_
    refine qo0 1 [(5, .go (owns 3 1 1))] [1, 2, 4, 7, 18] [(20, .slice q m capv)] ?_
    refine od_ ?_
    refine tk (m := 3) [6] [] [1, 2, 4, 7, 18] [(21, .int .i64 ((m : Nat)))] ([]) #[true, true, true, true, true, true, true, false, false, true, false] al0 ?_
    exact wk (hmx14 (c75, g75, γ195) hc75) [1, 2, 4, 7, 18, 21] [[_], [_], [_], [_], [_], [_], [_]] [0, 1, 2, 3, 4, 5, 6] rfl rfl
   refine any_cutX (V := Unit) (fun _ => True) 5 #[true, true, true, false, true, true, true, false, false, false, false] (fun _ => [(1, .func (.func 61) #[] #[.pointer (some ⟨γ1 1, 0, none⟩)]), (2, .pointer (some ⟨γ3 0, 0, none⟩)), (4, .pointer (some ⟨γ3 1, 0, none⟩)), (17, .int .i64 ((n : Nat))), (21, .int .i64 ((m : Nat)))]) (fun _ => [bx (γ3 1) (#[.slice none 0 0, .slice none 0 0]) 25, bx (γ3 0) (#[.slice p n cap, .slice q m capv]) 25, bx (γ1 2) (#[.slice none 0 0, .slice none 0 0]) 25, bx (γ1 1) (#[.int .i64 d.id, .int .i64 d.weight, .int .i64 d.cap, .int .i64 d.pool]) 32, bx (γ1 0) (#[.slice p n cap, .slice q m capv]) 25]) ?_ (fun hmx8 => ?_)
   ·
    rintro _ _
    refine any_fork [3, 7, 9] (by kernel_rfl) (by simp) (each_cons _ rfl ?_ (each_cons _ rfl ?_ (each_cons _ rfl ?_ (each_nil))))
    ·
     refine ops_make (T := 32) (ks := 4) (by_ := 32) (n := n) rfl (by kernel_rfl) (by kernel_rfl) (by kernel_rfl) (by kernel_rfl) (by kernel_rfl) (by omega) (by have hmx : maxLen = 9223372036854775807 := rfl; omega) (fun g75 c75 hc75 => ?_)
     refine od_ ?_
     exact wk (hmx12 (c75, g75) hc75) [1, 2, 4, 18, 21] [[_], [_], [_], [_], [_], [_]] [0, 1, 2, 3, 4, 5] rfl rfl
    ·
     refine ops_make (T := 43) (ks := 4) (by_ := 24) (n := m) rfl (by kernel_rfl) (by kernel_rfl) (by kernel_rfl) (by kernel_rfl) (by kernel_rfl) (by omega) (by have hmx : maxLen = 9223372036854775807 := rfl; omega) (fun g155 c155 hc155 => ?_)
     refine od_ ?_
     exact wk (hmx13 (c155, g155) hc155) [1, 2, 4, 17, 22] [[_], [_], [_], [_], [_], [_]] [0, 1, 2, 3, 4, 5] rfl rfl
    ·
     refine mo0 1 [] [1, 2, 4, 17, 21] (fun γ195 => [(7, .pointer (some ⟨γ195 0, 0, none⟩))]) (fun γ195 L => bx (γ195 0) (#[.slice none 0 0, .slice none 0 0]) 25 :: L) (fun γ195 => ?_)
     refine od_ ?_
     exact wk (hmx11 γ195 trivial) [1, 2, 4, 7, 17, 21] [[_], [_], [_], [_], [_], [_]] [0, 1, 2, 3, 4, 5] rfl rfl
   refine any_cutX (V := (Array Value) × (Nat)) (fun ⟨c155, g155⟩ => c155.size = m * 4) 6 #[true, false, false, false, true, true, true, true, false, false, false] (fun ⟨c155, g155⟩ => [(1, .func (.func 61) #[] #[.pointer (some ⟨γ1 1, 0, none⟩)]), (2, .pointer (some ⟨γ3 0, 0, none⟩)), (4, .pointer (some ⟨γ3 1, 0, none⟩)), (15, .pointer (some ⟨γ3 0, 0, none⟩)), (22, .slice (some ⟨g155, 0, none⟩) m m)]) (fun ⟨c155, g155⟩ => [bx g155 c155 43, bx (γ3 1) (#[.slice none 0 0, .slice none 0 0]) 25, bx (γ3 0) (#[.slice p n cap, .slice q m capv]) 25, bx (γ1 2) (#[.slice none 0 0, .slice none 0 0]) 25, bx (γ1 1) (#[.int .i64 d.id, .int .i64 d.weight, .int .i64 d.cap, .int .i64 d.pool]) 32, bx (γ1 0) (#[.slice p n cap, .slice q m capv]) 25]) ?_ (fun hmx7 => ?_)
   ·
    rintro ⟨c155, g155⟩ hc155
    refine any_fork [1, 9] (by kernel_rfl) (by simp) (each_cons _ rfl ?_ (each_cons _ rfl ?_ (each_nil)))
    ·
     refine qo0 1 [(1, .go (owns 2 0 1))] [1, 2, 4, 22] [(16, .slice p n cap)] ?_
     refine od_ ?_
     refine tk (m := 4) [2] [] [1, 2, 4, 22] [(17, .int .i64 ((n : Nat)))] ([]) #[true, true, true, false, true, true, true, true, false, false, false] al0 ?_
     exact wk (hmx13 (c155, g155) hc155) [1, 2, 4, 17, 22] [[_], [_], [_], [_], [_], [_]] [0, 1, 2, 3, 4, 5] rfl rfl
    ·
     refine mo0 1 [] [1, 2, 4, 15, 22] (fun γ195 => [(7, .pointer (some ⟨γ195 0, 0, none⟩))]) (fun γ195 L => bx (γ195 0) (#[.slice none 0 0, .slice none 0 0]) 25 :: L) (fun γ195 => ?_)
     refine od_ ?_
     exact wk (hmx10 (c155, g155, γ195) hc155) [1, 2, 4, 7, 15, 22] [[_], [_], [_], [_], [_], [_], [_]] [0, 1, 2, 3, 4, 5, 6] rfl rfl
   refine any_cutX (V := (Array Value) × (Nat)) (fun ⟨c75, g75⟩ => c75.size = n * 4) 6 #[true, true, true, true, true, false, false, false, false, false, false] (fun ⟨c75, g75⟩ => [(1, .func (.func 61) #[] #[.pointer (some ⟨γ1 1, 0, none⟩)]), (2, .pointer (some ⟨γ3 0, 0, none⟩)), (4, .pointer (some ⟨γ3 1, 0, none⟩)), (18, .slice (some ⟨g75, 0, none⟩) n n), (19, .pointer (some ⟨γ3 0, 1, none⟩))]) (fun ⟨c75, g75⟩ => [bx g75 c75 32, bx (γ3 1) (#[.slice none 0 0, .slice none 0 0]) 25, bx (γ3 0) (#[.slice p n cap, .slice q m capv]) 25, bx (γ1 2) (#[.slice none 0 0, .slice none 0 0]) 25, bx (γ1 1) (#[.int .i64 d.id, .int .i64 d.weight, .int .i64 d.cap, .int .i64 d.pool]) 32, bx (γ1 0) (#[.slice p n cap, .slice q m capv]) 25]) ?_ (fun hmx6 => ?_)
   ·
    rintro ⟨c75, g75⟩ hc75
    refine any_fork [5, 9] (by kernel_rfl) (by simp) (each_cons _ rfl ?_ (each_cons _ rfl ?_ (each_nil)))
    ·
     refine qo0 1 [(5, .go (owns 2 1 1))] [1, 2, 4, 18] [(20, .slice q m capv)] ?_
     refine od_ ?_
     refine tk (m := 4) [6] [] [1, 2, 4, 18] [(21, .int .i64 ((m : Nat)))] ([]) #[true, true, true, true, true, true, true, false, false, false, false] al0 ?_
     exact wk (hmx12 (c75, g75) hc75) [1, 2, 4, 18, 21] [[_], [_], [_], [_], [_], [_]] [0, 1, 2, 3, 4, 5] rfl rfl
    ·
     refine mo0 1 [] [1, 2, 4, 18, 19] (fun γ195 => [(7, .pointer (some ⟨γ195 0, 0, none⟩))]) (fun γ195 L => bx (γ195 0) (#[.slice none 0 0, .slice none 0 0]) 25 :: L) (fun γ195 => ?_)
     refine od_ ?_
     exact wk (hmx9 (c75, g75, γ195) hc75) [1, 2, 4, 7, 18, 19] [[_], [_], [_], [_], [_], [_], [_]] [0, 1, 2, 3, 4, 5, 6] rfl rfl
   refine any_cutX (V := (Nat → Nat)) (fun γ195 => True) 6 #[true, false, false, false, true, true, true, false, false, true, false] (fun γ195 => [(1, .func (.func 61) #[] #[.pointer (some ⟨γ1 1, 0, none⟩)]), (2, .pointer (some ⟨γ3 0, 0, none⟩)), (4, .pointer (some ⟨γ3 1, 0, none⟩)), (7, .pointer (some ⟨γ195 0, 0, none⟩)), (15, .pointer (some ⟨γ3 0, 0, none⟩)), (21, .int .i64 ((m : Nat)))]) (fun γ195 => [bx (γ195 0) (#[.slice none 0 0, .slice none 0 0]) 25, bx (γ3 1) (#[.slice none 0 0, .slice none 0 0]) 25, bx (γ3 0) (#[.slice p n cap, .slice q m capv]) 25, bx (γ1 2) (#[.slice none 0 0, .slice none 0 0]) 25, bx (γ1 1) (#[.int .i64 d.id, .int .i64 d.weight, .int .i64 d.cap, .int .i64 d.pool]) 32, bx (γ1 0) (#[.slice p n cap, .slice q m capv]) 25]) ?_ (fun hmx5 => ?_)
   ·
    rintro γ195 _
    refine any_fork [1, 7] (by kernel_rfl) (by simp) (each_cons _ rfl ?_ (each_cons _ rfl ?_ (each_nil)))
    ·
     refine qo0 1 [(1, .go (owns 2 0 1))] [1, 2, 4, 7, 21] [(16, .slice p n cap)] ?_
     refine od_ ?_
     refine tk (m := 4) [2] [] [1, 2, 4, 7, 21] [(17, .int .i64 ((n : Nat)))] ([]) #[true, true, true, false, true, true, true, false, false, true, false] al0 ?_
     exact wk (hmx11 γ195 trivial) [1, 2, 4, 7, 17, 21] [[_], [_], [_], [_], [_], [_]] [0, 1, 2, 3, 4, 5] rfl rfl
    ·
     refine ops_make (T := 43) (ks := 4) (by_ := 24) (n := m) rfl (by kernel_rfl) (by kernel_rfl) (by kernel_rfl) (by kernel_rfl) (by kernel_rfl) (by omega) (by have hmx : maxLen = 9223372036854775807 := rfl; omega) (fun g155 c155 hc155 => ?_)
     refine od_ ?_
     exact wk (hmx10 (c155, g155, γ195) hc155) [1, 2, 4, 7, 15, 22] [[_], [_], [_], [_], [_], [_], [_]] [1, 0, 2, 3, 4, 5, 6] rfl rfl
   refine any_cutX (V := (Nat → Nat)) (fun γ195 => True) 6 #[true, true, true, false, true, false, false, false, false, true, false] (fun γ195 => [(1, .func (.func 61) #[] #[.pointer (some ⟨γ1 1, 0, none⟩)]), (2, .pointer (some ⟨γ3 0, 0, none⟩)), (4, .pointer (some ⟨γ3 1, 0, none⟩)), (7, .pointer (some ⟨γ195 0, 0, none⟩)), (17, .int .i64 ((n : Nat))), (19, .pointer (some ⟨γ3 0, 1, none⟩))]) (fun γ195 => [bx (γ195 0) (#[.slice none 0 0, .slice none 0 0]) 25, bx (γ3 1) (#[.slice none 0 0, .slice none 0 0]) 25, bx (γ3 0) (#[.slice p n cap, .slice q m capv]) 25, bx (γ1 2) (#[.slice none 0 0, .slice none 0 0]) 25, bx (γ1 1) (#[.int .i64 d.id, .int .i64 d.weight, .int .i64 d.cap, .int .i64 d.pool]) 32, bx (γ1 0) (#[.slice p n cap, .slice q m capv]) 25]) ?_ (fun hmx4 => ?_)
   ·
    rintro γ195 _
    refine any_fork [3, 5] (by kernel_rfl) (by simp) (each_cons _ rfl ?_ (each_cons _ rfl ?_ (each_nil)))
    ·
     refine ops_make (T := 32) (ks := 4) (by_ := 32) (n := n) rfl (by kernel_rfl) (by kernel_rfl) (by kernel_rfl) (by kernel_rfl) (by kernel_rfl) (by omega) (by have hmx : maxLen = 9223372036854775807 := rfl; omega) (fun g75 c75 hc75 => ?_)
     refine od_ ?_
     exact wk (hmx9 (c75, g75, γ195) hc75) [1, 2, 4, 7, 18, 19] [[_], [_], [_], [_], [_], [_], [_]] [1, 0, 2, 3, 4, 5, 6] rfl rfl
    ·
     refine qo0 1 [(5, .go (owns 2 1 1))] [1, 2, 4, 7, 17] [(20, .slice q m capv)] ?_
     refine od_ ?_
     refine tk (m := 4) [6] [] [1, 2, 4, 7, 17] [(21, .int .i64 ((m : Nat)))] ([]) #[true, true, true, false, true, true, true, false, false, true, false] al0 ?_
     exact wk (hmx11 γ195 trivial) [1, 2, 4, 7, 17, 21] [[_], [_], [_], [_], [_], [_]] [0, 1, 2, 3, 4, 5] rfl rfl
   refine any_cutX (V := Unit) (fun _ => True) 7 #[true, false, false, false, true, true, true, false, false, false, false] (fun _ => [(1, .func (.func 61) #[] #[.pointer (some ⟨γ1 1, 0, none⟩)]), (2, .pointer (some ⟨γ3 0, 0, none⟩)), (4, .pointer (some ⟨γ3 1, 0, none⟩)), (15, .pointer (some ⟨γ3 0, 0, none⟩)), (21, .int .i64 ((m : Nat)))]) (fun _ => [bx (γ3 1) (#[.slice none 0 0, .slice none 0 0]) 25, bx (γ3 0) (#[.slice p n cap, .slice q m capv]) 25, bx (γ1 2) (#[.slice none 0 0, .slice none 0 0]) 25, bx (γ1 1) (#[.int .i64 d.id, .int .i64 d.weight, .int .i64 d.cap, .int .i64 d.pool]) 32, bx (γ1 0) (#[.slice p n cap, .slice q m capv]) 25]) ?_ (fun hmx3 => ?_)
   ·
    rintro _ _
    refine any_fork [1, 7, 9] (by kernel_rfl) (by simp) (each_cons _ rfl ?_ (each_cons _ rfl ?_ (each_cons _ rfl ?_ (each_nil))))
    ·
     refine qo0 1 [(1, .go (owns 1 0 1))] [1, 2, 4, 21] [(16, .slice p n cap)] ?_
     refine od_ ?_
     refine tk (m := 5) [2] [] [1, 2, 4, 21] [(17, .int .i64 ((n : Nat)))] ([]) #[true, true, true, false, true, true, true, false, false, false, false] al0 ?_
     exact wk (hmx8 () trivial) [1, 2, 4, 17, 21] [[_], [_], [_], [_], [_]] [0, 1, 2, 3, 4] rfl rfl
    ·
     refine ops_make (T := 43) (ks := 4) (by_ := 24) (n := m) rfl (by kernel_rfl) (by kernel_rfl) (by kernel_rfl) (by kernel_rfl) (by kernel_rfl) (by omega) (by have hmx : maxLen = 9223372036854775807 := rfl; omega) (fun g155 c155 hc155 => ?_)
     refine od_ ?_
     exact wk (hmx7 (c155, g155) hc155) [1, 2, 4, 15, 22] [[_], [_], [_], [_], [_], [_]] [0, 1, 2, 3, 4, 5] rfl rfl
    ·
     refine mo0 1 [] [1, 2, 4, 15, 21] (fun γ195 => [(7, .pointer (some ⟨γ195 0, 0, none⟩))]) (fun γ195 L => bx (γ195 0) (#[.slice none 0 0, .slice none 0 0]) 25 :: L) (fun γ195 => ?_)
     refine od_ ?_
     exact wk (hmx5 γ195 trivial) [1, 2, 4, 7, 15, 21] [[_], [_], [_], [_], [_], [_]] [0, 1, 2, 3, 4, 5] rfl rfl
   refine any_cutX (V := Unit) (fun _ => True) 7 #[true, true, true, false, true, false, false, false, false, false, false] (fun _ => [(1, .func (.func 61) #[] #[.pointer (some ⟨γ1 1, 0, none⟩)]), (2, .pointer (some ⟨γ3 0, 0, none⟩)), (4, .pointer (some ⟨γ3 1, 0, none⟩)), (17, .int .i64 ((n : Nat))), (19, .pointer (some ⟨γ3 0, 1, none⟩))]) (fun _ => [bx (γ3 1) (#[.slice none 0 0, .slice none 0 0]) 25, bx (γ3 0) (#[.slice p n cap, .slice q m capv]) 25, bx (γ1 2) (#[.slice none 0 0, .slice none 0 0]) 25, bx (γ1 1) (#[.int .i64 d.id, .int .i64 d.weight, .int .i64 d.cap, .int .i64 d.pool]) 32, bx (γ1 0) (#[.slice p n cap, .slice q m capv]) 25]) ?_ (fun hmx2 => ?_)
   ·
    rintro _ _
    refine any_fork [3, 5, 9] (by kernel_rfl) (by simp) (each_cons _ rfl ?_ (each_cons _ rfl ?_ (each_cons _ rfl ?_ (each_nil))))
    ·
     refine ops_make (T := 32) (ks := 4) (by_ := 32) (n := n) rfl (by kernel_rfl) (by kernel_rfl) (by kernel_rfl) (by kernel_rfl) (by kernel_rfl) (by omega) (by have hmx : maxLen = 9223372036854775807 := rfl; omega) (fun g75 c75 hc75 => ?_)
     refine od_ ?_
     exact wk (hmx6 (c75, g75) hc75) [1, 2, 4, 18, 19] [[_], [_], [_], [_], [_], [_]] [0, 1, 2, 3, 4, 5] rfl rfl
    ·
     refine qo0 1 [(5, .go (owns 1 1 1))] [1, 2, 4, 17] [(20, .slice q m capv)] ?_
     refine od_ ?_
     refine tk (m := 5) [6] [] [1, 2, 4, 17] [(21, .int .i64 ((m : Nat)))] ([]) #[true, true, true, false, true, true, true, false, false, false, false] al0 ?_
     exact wk (hmx8 () trivial) [1, 2, 4, 17, 21] [[_], [_], [_], [_], [_]] [0, 1, 2, 3, 4] rfl rfl
    ·
     refine mo0 1 [] [1, 2, 4, 17, 19] (fun γ195 => [(7, .pointer (some ⟨γ195 0, 0, none⟩))]) (fun γ195 L => bx (γ195 0) (#[.slice none 0 0, .slice none 0 0]) 25 :: L) (fun γ195 => ?_)
     refine od_ ?_
     exact wk (hmx4 γ195 trivial) [1, 2, 4, 7, 17, 19] [[_], [_], [_], [_], [_], [_]] [0, 1, 2, 3, 4, 5] rfl rfl
   refine any_cutX (V := (Nat → Nat)) (fun γ195 => True) 8 #[true, false, false, false, true, false, false, false, false, true, false] (fun γ195 => [(1, .func (.func 61) #[] #[.pointer (some ⟨γ1 1, 0, none⟩)]), (2, .pointer (some ⟨γ3 0, 0, none⟩)), (4, .pointer (some ⟨γ3 1, 0, none⟩)), (7, .pointer (some ⟨γ195 0, 0, none⟩)), (15, .pointer (some ⟨γ3 0, 0, none⟩)), (19, .pointer (some ⟨γ3 0, 1, none⟩))]) (fun γ195 => [bx (γ195 0) (#[.slice none 0 0, .slice none 0 0]) 25, bx (γ3 1) (#[.slice none 0 0, .slice none 0 0]) 25, bx (γ3 0) (#[.slice p n cap, .slice q m capv]) 25, bx (γ1 2) (#[.slice none 0 0, .slice none 0 0]) 25, bx (γ1 1) (#[.int .i64 d.id, .int .i64 d.weight, .int .i64 d.cap, .int .i64 d.pool]) 32, bx (γ1 0) (#[.slice p n cap, .slice q m capv]) 25]) ?_ (fun hmx1 => ?_)
   ·
    rintro γ195 _
    refine any_fork [1, 5] (by kernel_rfl) (by simp) (each_cons _ rfl ?_ (each_cons _ rfl ?_ (each_nil)))
    ·
     refine qo0 1 [(1, .go (owns 2 0 1))] [1, 2, 4, 7, 19] [(16, .slice p n cap)] ?_
     refine od_ ?_
     refine tk (m := 6) [2] [] [1, 2, 4, 7, 19] [(17, .int .i64 ((n : Nat)))] ([]) #[true, true, true, false, true, false, false, false, false, true, false] al0 ?_
     exact wk (hmx4 γ195 trivial) [1, 2, 4, 7, 17, 19] [[_], [_], [_], [_], [_], [_]] [0, 1, 2, 3, 4, 5] rfl rfl
    ·
     refine qo0 1 [(5, .go (owns 2 1 1))] [1, 2, 4, 7, 15] [(20, .slice q m capv)] ?_
     refine od_ ?_
     refine tk (m := 6) [6] [] [1, 2, 4, 7, 15] [(21, .int .i64 ((m : Nat)))] ([]) #[true, false, false, false, true, true, true, false, false, true, false] al0 ?_
     exact wk (hmx5 γ195 trivial) [1, 2, 4, 7, 15, 21] [[_], [_], [_], [_], [_], [_]] [0, 1, 2, 3, 4, 5] rfl rfl
   refine any_fork [1, 5, 9] (by kernel_rfl) (by simp) (each_cons _ rfl ?_ (each_cons _ rfl ?_ (each_cons _ rfl ?_ (each_nil))))
   ·
    refine qo0 1 [(1, .go (owns 1 0 1))] [1, 2, 4, 19] [(16, .slice p n cap)] ?_
    refine od_ ?_
    refine tk (m := 7) [2] [] [1, 2, 4, 19] [(17, .int .i64 ((n : Nat)))] ([]) #[true, true, true, false, true, false, false, false, false, false, false] al0 ?_
    exact wk (hmx2 () trivial) [1, 2, 4, 17, 19] [[_], [_], [_], [_], [_]] [0, 1, 2, 3, 4] rfl rfl
   ·
    refine qo0 1 [(5, .go (owns 1 1 1))] [1, 2, 4, 15] [(20, .slice q m capv)] ?_
    refine od_ ?_
    refine tk (m := 7) [6] [] [1, 2, 4, 15] [(21, .int .i64 ((m : Nat)))] ([]) #[true, false, false, false, true, true, true, false, false, false, false] al0 ?_
    exact wk (hmx3 () trivial) [1, 2, 4, 15, 21] [[_], [_], [_], [_], [_]] [0, 1, 2, 3, 4] rfl rfl
   ·
    refine mo0 1 [] [1, 2, 4, 15, 19] (fun γ195 => [(7, .pointer (some ⟨γ195 0, 0, none⟩))]) (fun γ195 L => bx (γ195 0) (#[.slice none 0 0, .slice none 0 0]) 25 :: L) (fun γ195 => ?_)
    refine od_ ?_
    exact wk (hmx1 γ195 trivial) [1, 2, 4, 7, 15, 19] [[_], [_], [_], [_], [_], [_]] [0, 1, 2, 3, 4, 5] rfl rfl
  rintro ⟨c155, c75, g155, g75, γ195⟩ ⟨hc155, hc75⟩
  refine any_nil (by kernel_rfl) ?_
  refine ds_ (sq_ (ao_ (qo0 4 [(1, .go (owns 0 0 1)), (3, .go (owns 4 0 1))] [1, 2, 4, 7] [(25, .slice (some ⟨g75, 0, none⟩) n n), (27, .slice p n cap)] (ops_copy 2 rfl (by kernel_rfl) (by kernel_rfl) (g := g75) (of := 0) (dn := n) (dc := n) (m := n) (cnt := n) (c := c75) (yv := (.slice p n cap)) (ds.flatMap Enc.enc) (by kernel_rfl) (by kernel_rfl) (T := 32) (ks := 4) (by_ := 32) (by kernel_rfl) (T' := 32) (by kernel_rfl) len_slice (by omega) (fun w hw => by have := first_sv (P := Try.prog) (w := w) (p := p) (m := n) (cap := cap) (cnt := n) (hds.kept hw.below) (by omega); rw [List.take_of_length_le (by omega)] at this; exact this) (by first | (rw [flat_len, Nat.zero_add, hc75, ← hn]; exact Nat.le_refl _) | (rw [flat_len, Nat.zero_add, hc75, ← hn])) (flat_one ds) ?_))))
  have hOw303 := OwnS.filled (l := ds) (n := n) hc75 hn (by have hmx : maxLen = 9223372036854775807 := rfl; omega)
  have hO303 := SlO.ofOwn (T := 32) (g := g75) hOw303 hn
  refine on_ (ds_ (sq_ (ao_ (qo0 4 [(1, .go (owns 0 1 1)), (3, .go (owns 4 1 1))] [1, 4, 7] [(30, .slice (some ⟨g155, 0, none⟩) m m), (32, .slice q m capv)] (ops_copy 1 rfl (by kernel_rfl) (by kernel_rfl) (g := g155) (of := 0) (dn := m) (dc := m) (m := m) (cnt := m) (c := c155) (yv := (.slice q m capv)) (vs.flatMap Enc.enc) (by kernel_rfl) (by kernel_rfl) (T := 43) (ks := 4) (by_ := 24) (by kernel_rfl) (T' := 43) (by kernel_rfl) len_slice (by omega) (fun w hw => by have := first_sv (P := Try.prog) (w := w) (p := q) (m := m) (cap := capv) (cnt := m) (hvs.kept hw.below) (by omega); rw [List.take_of_length_le (by omega)] at this; exact this) (by first | (rw [flat_len, Nat.zero_add, hc155, ← hm]; exact Nat.le_refl _) | (rw [flat_len, Nat.zero_add, hc155, ← hm])) (flat_one vs) ?_)))))
  have hOw306 := OwnS.filled (l := vs) (n := m) hc155 hm (by have hmx : maxLen = 9223372036854775807 := rfl; omega)
  have hO306 := SlO.ofOwn (T := 43) (g := g155) hOw306 hm
  refine on_ (ds_ (sq_ (sq_ (ao_ (qo0 1 [] [4, 7] [(34, .func (.func 61) #[] #[.pointer (some ⟨γ1 1, 0, none⟩)])] (ops_inline (g := 61) (args := #[.pointer (some ⟨γ195 0, 0, none⟩), .pointer (some ⟨γ1 1, 0, none⟩)]) (by kernel_rfl) (by kernel_rfl) (by kernel_rfl) (fun args w => Try.call61 args w) Try.func61 rfl Try.ntmps61 rfl (sq_ (qa0 [] [0, 1] [] (ds_ (sq_ ?_))))))))))
  refine at_calm rfl (by kernel_rfl) (by kernel_rfl) ?_
  refine cm 6 [(3, .go (owns 0 0 1)), (5, .go (owns 6 0 1))] [0, 1] [(10, .slice (some ⟨g75, 0, none⟩) n n), (12, .int .i64 d.id)] ([]) (by kernel_rfl) rfl al0 ?_
  rcases hg311 : getK Dom.id ds d.id with _ | y311
  ·
   have hpl311 := (pos_cut (k := d.id) (guests_iff.1 q5).dr).2.2
   refine cK (.tuple #[.int .i64 ((posK Dom.id ds d.id : Nat)), .bool false]) Try.call47 (fun w hw => by have := placed_d (some ⟨g75, 0, none⟩) n n ds d.id w (hO303.atN (A := [_, _]) hw) hn (by omega) (guests_iff.1 q5).dr; rw [hasK_none hg311] at this; exact this) ?_
   refine cm 5 [] [0, 1] [(4, .int .i64 ((posK Dom.id ds d.id : Nat))), (5, .bool false)] ([]) (by kernel_rfl) rfl al0 ?_
   refine calm_nil' ?_
   refine ds_ (sq_ (at_block (sq_ (ao_ (qo0 1 [(0, .go (owns 6 0 4))] [0, 1, 4, 5] [(17, .agg #[.int .i64 d.id, .int .i64 d.weight, .int .i64 d.cap, .int .i64 d.pool])] ?_)))))
   rcases q314 : mayB d with _ | _
   ·
    refine cD (.bool false) Try.call45 (fun w hw => by have := may_d d w; rw [q314] at this; exact this) (qo0 2 [] [0, 1, 4, 5] [(16, .bool true)] (on_ (ds_ (t_ (sq_ (qa0 [] [] [(3, .int .i64 2)] (ds_ (bk ([]) (.int .i64 2) (qo0 1 [] [4, 7] [(8, .int .i64 2)] (on_ (ds_ (sq_ (qa0 [] [4, 7, 8] [(37, .bool true)] (ds_ (t_ (sq_ (qa0 [(2, .go (owns 3 0 2))] [4] [(5, .int .i64 2)] (ds_ (bk (owns 3 0 2) (.tuple #[.agg #[.slice none 0 0, .slice none 0 0], .int .i64 2]) (qo0 4 [(5, .go (owns 5 0 2))] [4] [(5, .int .i64 2)] (on_ (ds_ (rt (owns 5 0 2) (.tuple #[.agg #[.slice none 0 0, .slice none 0 0], .int .i64 2]) ?_)))))))))))))))))))))))
    exact fun w' hw => by rw [createV_arg q5 q314]; exact ⟨none, 0, 0, [], none, 0, 0, [], rfl, SlO.nil, SlO.nil, hw.below, hw.sub (List.nil_sublist _)⟩
   ·
    refine cD (.bool true) Try.call45 (fun w hw => by have := may_d d w; rw [q314] at this; exact this) (qo0 2 [] [0, 1, 4, 5] [(16, .bool false)] (on_ (ds_ (f_ (sq_ (qa0 [] [0, 1, 4] [(20, .bool false)] (ds_ (f_ (at_skip (done_block (ds_ (sq_ ?_))))))))))))
    refine at_any (by kernel_rfl) ?_
    refine tk (m := 7) [0, 1, 2, 3, 5] [] [1] [(22, .pointer (some ⟨γ195 0, 0, none⟩)), (25, .pointer (some ⟨γ195 0, 0, none⟩)), (27, .int .i64 ((posK Dom.id ds d.id : Nat)))] ([]) #[true, true, true, true, false, true, false, false, false, false, false, false] al0 ?_
    refine any_cutG 4 #[true, true, true, true, true, true, true, true, false, false, false, false] (fun γ328 => [(22, .pointer (some ⟨γ195 0, 0, none⟩)), (26, .slice (some ⟨g75, 0, none⟩) n n), (27, .int .i64 ((posK Dom.id ds d.id : Nat))), (29, .slice (some ⟨γ328 0, 0, none⟩) 1 1)]) (fun γ328 => [bx (γ328 0) (#[.int .i64 d.id, .int .i64 d.weight, .int .i64 d.cap, .int .i64 d.pool]) 32, bx (γ195 0) (#[.slice (some ⟨g75, 0, none⟩) n n, .slice (some ⟨g155, 0, none⟩) m m]) 25, bx g155 ((sets c155 0 (vs.flatMap Enc.enc))) 43, bx g75 ((sets c75 0 (ds.flatMap Enc.enc))) 32, bx (γ3 1) (#[.slice none 0 0, .slice none 0 0]) 25, bx (γ3 0) (#[.slice p n cap, .slice q m capv]) 25, bx (γ1 2) (#[.slice none 0 0, .slice none 0 0]) 25, bx (γ1 1) (#[.int .i64 d.id, .int .i64 d.weight, .int .i64 d.cap, .int .i64 d.pool]) 32, bx (γ1 0) (#[.slice p n cap, .slice q m capv]) 25]) (fun γ328 => ?_) (fun hm => ?_)
    rotate_left
    ·
     refine any_fork [4, 6] (by kernel_rfl) (by simp) (each_cons _ rfl ?_ (each_cons _ rfl ?_ (each_nil)))
     ·
      refine qo0 1 [(4, .go (owns 0 0 1))] [1, 22, 27] [(26, .slice (some ⟨g75, 0, none⟩) n n)] ?_
      refine od_ ?_
      refine a1 6 rfl ?_
      refine qo0 1 [(6, .go (owns 6 0 4))] [22, 26, 27] [(28, .agg #[.int .i64 d.id, .int .i64 d.weight, .int .i64 d.cap, .int .i64 d.pool])] ?_
      refine od_ ?_
      refine a1 7 rfl ?_
      refine mo0 1 [] [22, 26, 27] (fun γ331 => [(29, .slice (some ⟨γ331 0, 0, none⟩) 1 1)]) (fun γ331 L => bx (γ331 0) (#[.int .i64 d.id, .int .i64 d.weight, .int .i64 d.cap, .int .i64 d.pool]) 32 :: L) (fun γ331 => ?_)
      refine od_ ?_
      exact any_weak (hm fun i => [γ331 0].getD i 0) [22, 26, 27, 29] (by kernel_rfl) rfl rfl rfl
     ·
      refine qo0 1 [(6, .go (owns 6 0 4))] [22, 25, 27] [(28, .agg #[.int .i64 d.id, .int .i64 d.weight, .int .i64 d.cap, .int .i64 d.pool])] ?_
      refine od_ ?_
      refine any_fork [4, 7] (by kernel_rfl) (by simp) (each_cons _ rfl ?_ (each_cons _ rfl ?_ (each_nil)))
      ·
       refine qo0 1 [(4, .go (owns 0 0 1))] [22, 27, 28] [(26, .slice (some ⟨g75, 0, none⟩) n n)] ?_
       refine od_ ?_
       refine a1 7 rfl ?_
       refine mo0 1 [] [22, 26, 27] (fun γ334 => [(29, .slice (some ⟨γ334 0, 0, none⟩) 1 1)]) (fun γ334 L => bx (γ334 0) (#[.int .i64 d.id, .int .i64 d.weight, .int .i64 d.cap, .int .i64 d.pool]) 32 :: L) (fun γ334 => ?_)
       refine od_ ?_
       exact any_weak (hm fun i => [γ334 0].getD i 0) [22, 26, 27, 29] (by kernel_rfl) rfl rfl rfl
      ·
       refine mo0 1 [] [22, 25, 27] (fun γ335 => [(29, .slice (some ⟨γ335 0, 0, none⟩) 1 1)]) (fun γ335 L => bx (γ335 0) (#[.int .i64 d.id, .int .i64 d.weight, .int .i64 d.cap, .int .i64 d.pool]) 32 :: L) (fun γ335 => ?_)
       refine od_ ?_
       refine a1 4 rfl ?_
       refine qo0 1 [(4, .go (owns 1 0 1))] [22, 27, 29] [(26, .slice (some ⟨g75, 0, none⟩) n n)] ?_
       refine od_ ?_
       exact any_weak (hm fun i => [γ335 0].getD i 0) [22, 26, 27, 29] (by kernel_rfl) rfl rfl rfl
    refine a1 8 rfl ?_
    refine Ops.pick [[bx (γ328 0) (#[.int .i64 d.id, .int .i64 d.weight, .int .i64 d.cap, .int .i64 d.pool]) 32], [bx (γ195 0) (#[.slice (some ⟨g75, 0, none⟩) n n, .slice (some ⟨g155, 0, none⟩) m m]) 25], [bx g155 ((sets c155 0 (vs.flatMap Enc.enc))) 43], [bx g75 ((sets c75 0 (ds.flatMap Enc.enc))) 32], [bx (γ3 1) (#[.slice none 0 0, .slice none 0 0]) 25], [bx (γ3 0) (#[.slice p n cap, .slice q m capv]) 25], [bx (γ1 2) (#[.slice none 0 0, .slice none 0 0]) 25], [bx (γ1 1) (#[.int .i64 d.id, .int .i64 d.weight, .int .i64 d.cap, .int .i64 d.pool]) 32], [bx (γ1 0) (#[.slice p n cap, .slice q m capv]) 25]] [0, 1, 2, 4, 5, 6, 7, 8, 3] [] ([bx (γ328 0) (#[.int .i64 d.id, .int .i64 d.weight, .int .i64 d.cap, .int .i64 d.pool]) 32, bx (γ195 0) (#[.slice (some ⟨g75, 0, none⟩) n n, .slice (some ⟨g155, 0, none⟩) m m]) 25, bx g155 ((sets c155 0 (vs.flatMap Enc.enc))) 43, bx (γ3 1) (#[.slice none 0 0, .slice none 0 0]) 25, bx (γ3 0) (#[.slice p n cap, .slice q m capv]) 25, bx (γ1 2) (#[.slice none 0 0, .slice none 0 0]) 25, bx (γ1 1) (#[.int .i64 d.id, .int .i64 d.weight, .int .i64 d.cap, .int .i64 d.pool]) 32, bx (γ1 0) (#[.slice p n cap, .slice q m capv]) 25, bx g75 ((sets c75 0 (ds.flatMap Enc.enc))) 32]) (by kernel_rfl) rfl rfl (cP (fun v L' => ∃ q_ capq_ Y_, v = .slice q_ (n + 1) capq_ ∧ L' = [bx (γ195 0) (#[.slice (some ⟨g75, 0, none⟩) n n, .slice (some ⟨g155, 0, none⟩) m m]) 25, bx g155 ((sets c155 0 (vs.flatMap Enc.enc))) 43, bx (γ3 1) (#[.slice none 0 0, .slice none 0 0]) 25, bx (γ3 0) (#[.slice p n cap, .slice q m capv]) 25, bx (γ1 2) (#[.slice none 0 0, .slice none 0 0]) 25, bx (γ1 1) (#[.int .i64 d.id, .int .i64 d.weight, .int .i64 d.cap, .int .i64 d.pool]) 32, bx (γ1 0) (#[.slice p n cap, .slice q m capv]) 25] ++ (Y_ ++ []) ∧ SlO 32 Y_ q_ (n + 1) capq_ (ds.take (posK Dom.id ds d.id) ++ [⟨d.id, d.weight, d.cap, d.pool⟩] ++ ds.drop (posK Dom.id ds d.id))) Try.call62 (fun w hw => (insertD_d _ ([bx (γ195 0) (#[.slice (some ⟨g75, 0, none⟩) n n, .slice (some ⟨g155, 0, none⟩) m m]) 25, bx g155 ((sets c155 0 (vs.flatMap Enc.enc))) 43, bx (γ3 1) (#[.slice none 0 0, .slice none 0 0]) 25, bx (γ3 0) (#[.slice p n cap, .slice q m capv]) 25, bx (γ1 2) (#[.slice none 0 0, .slice none 0 0]) 25, bx (γ1 1) (#[.int .i64 d.id, .int .i64 d.weight, .int .i64 d.cap, .int .i64 d.pool]) 32, bx (γ1 0) (#[.slice p n cap, .slice q m capv]) 25] ++ []) [bx g75 ((sets c75 0 (ds.flatMap Enc.enc))) 32] (some ⟨g75, 0, none⟩) n n ds (posK Dom.id ds d.id) (γ328 0) (#[.int .i64 d.id, .int .i64 d.weight, .int .i64 d.cap, .int .i64 d.pool]) 1 ([⟨d.id, d.weight, d.cap, d.pool⟩]) w (hw.pull (A := [bx (γ195 0) (#[.slice (some ⟨g75, 0, none⟩) n n, .slice (some ⟨g155, 0, none⟩) m m]) 25, bx g155 ((sets c155 0 (vs.flatMap Enc.enc))) 43, bx (γ3 1) (#[.slice none 0 0, .slice none 0 0]) 25, bx (γ3 0) (#[.slice p n cap, .slice q m capv]) 25, bx (γ1 2) (#[.slice none 0 0, .slice none 0 0]) 25, bx (γ1 1) (#[.int .i64 d.id, .int .i64 d.weight, .int .i64 d.cap, .int .i64 d.pool]) 32, bx (γ1 0) (#[.slice p n cap, .slice q m capv]) 25]) (Y := [bx g75 ((sets c75 0 (ds.flatMap Enc.enc))) 32]) (R := [])) hO303 (by rfl) (by rfl) (by omega) (by omega) (by omega) (by omega)).mono fun e w' ⟨q_, capq_, Y_, he, hO, hY⟩ => ⟨_, _, he, ⟨q_, capq_, Y_, rfl, rfl, hO⟩, hY.push⟩) ?_)
    rintro v337 L337 ⟨q337, cq337, Y337, rfl, rfl, hO337⟩
    refine od_ ?_
    refine tk (m := 1) [9, 10] [] [30] [(32, .pointer (some ⟨γ195 0, 0, none⟩))] ([]) #[true, true, true, true, true, true, true, true, true, true, true, false] al0 ?_
    refine a1 11 rfl ?_
    refine mo0 1 [(11, .go (owns 0 0 1))] [] (fun _ => []) (fun _ L => (L.set 0 (bx (γ195 0) (#[.slice q337 (n + 1) cq337, .slice (some ⟨g155, 0, none⟩) m m]) 25))) (fun _ => ?_)
    refine od_ ?_
    refine any_nil (by kernel_rfl) ?_
    refine ds_ (sq_ (qa0 [] [] [(3, .int .i64 0)] (ds_ (bk ([]) (.int .i64 0) (qo0 1 [] [4, 7] [(8, .int .i64 0)] (on_ (ds_ (sq_ (qa0 [] [4, 7, 8] [(37, .bool false)] (ds_ (f_ (at_skip (ds_ (sq_ (ma0 [(0, .go (owns 0 0 2)), (1, .go (owns 2 0 2))] [4] (fun _ => [(5, .int .i64 0)]) (fun _ L => (L.set 2 (bx (γ3 1) (#[.slice q337 (n + 1) cq337, .slice (some ⟨g155, 0, none⟩) m m]) 25))) (fun _ => ds_ (bk (owns 2 0 2) (.tuple #[.agg #[.slice q337 (n + 1) cq337, .slice (some ⟨g155, 0, none⟩) m m], .int .i64 0]) (mo0 4 [(5, .go (owns 4 0 2))] [4] (fun _ => [(5, .int .i64 0)]) (fun _ L => (L.set 4 (bx (γ1 2) (#[.slice q337 (n + 1) cq337, .slice (some ⟨g155, 0, none⟩) m m]) 25))) (fun _ => on_ (ds_ (rt (owns 4 0 2) (.tuple #[.agg #[.slice q337 (n + 1) cq337, .slice (some ⟨g155, 0, none⟩) m m], .int .i64 0]) ?_)))))))))))))))))))))
    exact fun w' hw => by rw [createV_ok q5 q314 hg311]; exact ⟨_, _, _, _, _, _, _, _, rfl, hO337, hO306, hw.below, two_tails (Hs.pick [[bx (γ195 0) (#[.slice q337 (n + 1) cq337, .slice (some ⟨g155, 0, none⟩) m m]) 25], [bx g155 ((sets c155 0 (vs.flatMap Enc.enc))) 43], [bx (γ3 1) (#[.slice q337 (n + 1) cq337, .slice (some ⟨g155, 0, none⟩) m m]) 25], [bx (γ3 0) (#[.slice p n cap, .slice q m capv]) 25], [bx (γ1 2) (#[.slice q337 (n + 1) cq337, .slice (some ⟨g155, 0, none⟩) m m]) 25], [bx (γ1 1) (#[.int .i64 d.id, .int .i64 d.weight, .int .i64 d.cap, .int .i64 d.pool]) 32], [bx (γ1 0) (#[.slice p n cap, .slice q m capv]) 25], Y337] [7, 1] [0, 2, 3, 4, 5, 6] (by kernel_rfl) hw)⟩
  ·
   have hp_y311 := pos_getK (guests_iff.1 q5).dr hg311
   have hl_y311 := (List.getElem?_eq_some_iff.1 hp_y311).1
   refine cK (.tuple #[.int .i64 ((posK Dom.id ds d.id : Nat)), .bool true]) Try.call47 (fun w hw => by have := placed_d (some ⟨g75, 0, none⟩) n n ds d.id w (hO303.atN (A := [_, _]) hw) hn (by omega) (guests_iff.1 q5).dr; rw [hasK_some hg311] at this; exact this) ?_
   refine cm 5 [] [0, 1] [(4, .int .i64 ((posK Dom.id ds d.id : Nat))), (5, .bool true)] ([]) (by kernel_rfl) rfl al0 ?_
   refine calm_nil' ?_
   refine ds_ (sq_ (at_block (sq_ (ao_ (qo0 1 [(0, .go (owns 6 0 4))] [0, 1, 4, 5] [(17, .agg #[.int .i64 d.id, .int .i64 d.weight, .int .i64 d.cap, .int .i64 d.pool])] ?_)))))
   rcases q347 : mayB d with _ | _
   ·
    refine cD (.bool false) Try.call45 (fun w hw => by have := may_d d w; rw [q347] at this; exact this) (qo0 2 [] [0, 1, 4, 5] [(16, .bool true)] (on_ (ds_ (t_ (sq_ (qa0 [] [] [(3, .int .i64 2)] (ds_ (bk ([]) (.int .i64 2) (qo0 1 [] [4, 7] [(8, .int .i64 2)] (on_ (ds_ (sq_ (qa0 [] [4, 7, 8] [(37, .bool true)] (ds_ (t_ (sq_ (qa0 [(2, .go (owns 3 0 2))] [4] [(5, .int .i64 2)] (ds_ (bk (owns 3 0 2) (.tuple #[.agg #[.slice none 0 0, .slice none 0 0], .int .i64 2]) (qo0 4 [(5, .go (owns 5 0 2))] [4] [(5, .int .i64 2)] (on_ (ds_ (rt (owns 5 0 2) (.tuple #[.agg #[.slice none 0 0, .slice none 0 0], .int .i64 2]) ?_)))))))))))))))))))))))
    exact fun w' hw => by rw [createV_arg q5 q347]; exact ⟨none, 0, 0, [], none, 0, 0, [], rfl, SlO.nil, SlO.nil, hw.below, hw.sub (List.nil_sublist _)⟩
   ·
    refine cD (.bool true) Try.call45 (fun w hw => by have := may_d d w; rw [q347] at this; exact this) (qo0 2 [] [0, 1, 4, 5] [(16, .bool false)] (on_ (ds_ (f_ (sq_ (qa0 [] [0, 1, 4] [(20, .bool true)] (ds_ (t_ (sq_ (qa0 [] [] [(3, .int .i64 5)] (ds_ (bk ([]) (.int .i64 5) (qo0 1 [] [4, 7] [(8, .int .i64 5)] (on_ (ds_ (sq_ (qa0 [] [4, 7, 8] [(37, .bool true)] (ds_ (t_ (sq_ (qa0 [(2, .go (owns 3 0 2))] [4] [(5, .int .i64 5)] (ds_ (bk (owns 3 0 2) (.tuple #[.agg #[.slice none 0 0, .slice none 0 0], .int .i64 5]) (qo0 4 [(5, .go (owns 5 0 2))] [4] [(5, .int .i64 5)] (on_ (ds_ (rt (owns 5 0 2) (.tuple #[.agg #[.slice none 0 0, .slice none 0 0], .int .i64 5]) ?_)))))))))))))))))))))))))))
    exact fun w' hw => by rw [createV_there q5 q347 hg311]; exact ⟨none, 0, 0, [], none, 0, 0, [], rfl, SlO.nil, SlO.nil, hw.below, hw.sub (List.nil_sublist _)⟩
end Go.Proofs.Ytnoefldpkfpglaa
