/- Texts of this proof, one behind the other. -/
import Derived.Test.YtnoefldpkfpglaaZb
import Derived.Laws.StructEq
/-! Domains: Create. -/
namespace Go.Proofs.Ytnoefldpkfpglaa
open Go Go.RowKit

set_option maxRecDepth 100000 in
theorem create_d (p : Option Addr) (n cap : Nat) (ds : List Dom) (q : Option Addr) (m capv : Nat) (vs : List Vcp) (d : Dom) (w : World)
 (hds : Sv w p ds) (hn : n = ds.length) (hb : n ≤ 1000)
 (hvs : Sv w q vs) (hm : m = vs.length) (hmb : m ≤ 1000)
 : Calls Try.prog 29 #[.agg #[.slice p n cap, .slice q m capv], .agg #[.int .i64 d.id, .int .i64 d.weight, .int .i64 d.cap, .int .i64 d.pool]] w fun e w' => ∃ q m capq Y q2 m2 capq2 X, e = .returned (.tuple #[.agg #[.slice q m capq, .slice q2 m2 capq2], .int .i64 (createV ds vs d).2.2]) ∧ SlO 32 Y q m capq (createV ds vs d).1 ∧ SlO 43 X q2 m2 capq2 (createV ds vs d).2.1 ∧ Below w.heap.size w w' ∧ Hs w (Y ++ X) w' := by
 refine enter (Hs.start w) Try.func29 rfl Try.ntmps29 rfl (sq_ (ma0 [] [] (fun γ1 => [(2, .pointer (some ⟨γ1 0, 0, none⟩)), (3, .pointer (some ⟨γ1 1, 0, none⟩)), (4, .pointer (some ⟨γ1 2, 0, none⟩))]) (fun γ1 L => bx (γ1 2) (#[.slice none 0 0, .slice none 0 0]) 25 :: bx (γ1 1) (#[.int .i64 d.id, .int .i64 d.weight, .int .i64 d.cap, .int .i64 d.pool]) 32 :: bx (γ1 0) (#[.slice p n cap, .slice q m capv]) 25 :: L) (fun γ1 => ds_ (sq_ (ao_ (qo0 2 [(0, .go (owns 2 0 2))] [4] [(6, .agg #[.slice p n cap, .slice q m capv]), (7, .func (.func 61) #[] #[.pointer (some ⟨γ1 1, 0, none⟩)])] (ops_inline (g := 52) (args := #[.agg #[.slice p n cap, .slice q m capv], .func (.func 61) #[] #[.pointer (some ⟨γ1 1, 0, none⟩)]]) (by kernel_rfl) (by kernel_rfl) (by kernel_rfl) (fun args w => Try.call52 args w) Try.func52 rfl Try.ntmps52 rfl (sq_ (ma0 [] [1] (fun γ3 => [(2, .pointer (some ⟨γ3 0, 0, none⟩)), (4, .pointer (some ⟨γ3 1, 0, none⟩))]) (fun γ3 L => bx (γ3 1) (#[.slice none 0 0, .slice none 0 0]) 25 :: bx (γ3 0) (#[.slice p n cap, .slice q m capv]) 25 :: L) (fun γ3 => ds_ (sq_ (sq_ (ao_ (qo0 1 [(0, .go (owns 1 0 2))] [1, 2, 4] [(9, .agg #[.slice p n cap, .slice q m capv])] ?_))))))))))))))
 rcases q5 : guestsB ds vs with _ | _
 ·
  refine cD (.int .i64 190) Try.call10 (fun w hw => by have := gcheck_d p n cap ds q m capv vs w (hds.kept hw.below) hn (by omega) (hvs.kept hw.below) hm (by omega); rw [q5] at this; exact this) (qo0 1 [] [1, 2, 4] [(6, .int .i64 190)] (on_ (ds_ (sq_ (qa0 [] [1, 2, 4, 6] [(12, .bool true)] (ds_ (t_ (sq_ (qa0 [(2, .go (owns 0 0 2))] [4] [(5, .int .i64 190)] (ds_ (bk (owns 0 0 2) (.tuple #[.agg #[.slice none 0 0, .slice none 0 0], .int .i64 190]) (qo0 4 [(5, .go (owns 2 0 2))] [4] [(5, .int .i64 190)] (on_ (ds_ (rt (owns 2 0 2) (.tuple #[.agg #[.slice none 0 0, .slice none 0 0], .int .i64 190]) ?_)))))))))))))))
  exact fun w' hw => by rw [createV_bad q5]; exact ⟨none, 0, 0, [], none, 0, 0, [], rfl, SlO.nil, SlO.nil, hw.below, hw.sub (List.nil_sublist _)⟩
 ·
  refine cD (.int .i64 0) Try.call10 (fun w hw => by have := gcheck_d p n cap ds q m capv vs w (hds.kept hw.below) hn (by omega) (hvs.kept hw.below) hm (by omega); rw [q5] at this; exact this) (qo0 1 [] [1, 2, 4] [(6, .int .i64 0)] (on_ (ds_ (sq_ (qa0 [] [1, 2, 4, 6] [(12, .bool false)] (ds_ (f_ (at_skip (ds_ (sq_ ?_))))))))))
  refine at_any (by kernel_rfl) ?_
  refine tk (m := 9) [0, 4] [] [1, 2, 4] [(15, .pointer (some ⟨γ3 0, 0, none⟩)), (19, .pointer (some ⟨γ3 0, 1, none⟩))] ([]) #[true, false, false, false, true, false, false, false, false, false, false] al0 ?_
  refine any_cutX (V := (Array Value) × (Array Value) × (Nat) × (Nat) × (Nat → Nat)) (fun ⟨c155, c75, g155, g75, γ195⟩ => c155.size = m * 4 ∧ c75.size = n * 4) 0 #[true, true, true, true, true, true, true, true, true, true, true] (fun ⟨c155, c75, g155, g75, γ195⟩ => [(1, .func (.func 61) #[] #[.pointer (some ⟨γ1 1, 0, none⟩)]), (2, .pointer (some ⟨γ3 0, 0, none⟩)), (4, .pointer (some ⟨γ3 1, 0, none⟩)), (7, .pointer (some ⟨γ195 0, 0, none⟩))]) (fun ⟨c155, c75, g155, g75, γ195⟩ => [bx (γ195 0) (#[.slice (some ⟨g75, 0, none⟩) n n, .slice (some ⟨g155, 0, none⟩) m m]) 25, bx g155 c155 43, bx g75 c75 32, bx (γ3 1) (#[.slice none 0 0, .slice none 0 0]) 25, bx (γ3 0) (#[.slice p n cap, .slice q m capv]) 25, bx (γ1 2) (#[.slice none 0 0, .slice none 0 0]) 25, bx (γ1 1) (#[.int .i64 d.id, .int .i64 d.weight, .int .i64 d.cap, .int .i64 d.pool]) 32, bx (γ1 0) (#[.slice p n cap, .slice q m capv]) 25]) ?_ (fun hmx18 => ?_)
  rotate_left
  ·
   refine any_cutX (V := (Array Value) × (Array Value) × (Nat) × (Nat) × (Nat → Nat)) (fun ⟨c155, c75, g155, g75, γ195⟩ => c155.size = m * 4 ∧ c75.size = n * 4) 1 #[true, true, true, true, true, true, true, true, true, true, false] (fun ⟨c155, c75, g155, g75, γ195⟩ => [(1, .func (.func 61) #[] #[.pointer (some ⟨γ1 1, 0, none⟩)]), (2, .pointer (some ⟨γ3 0, 0, none⟩)), (4, .pointer (some ⟨γ3 1, 0, none⟩)), (7, .pointer (some ⟨γ195 0, 0, none⟩)), (23, .agg #[.slice (some ⟨g75, 0, none⟩) n n, .slice (some ⟨g155, 0, none⟩) m m])]) (fun ⟨c155, c75, g155, g75, γ195⟩ => [bx (γ195 0) (#[.slice none 0 0, .slice none 0 0]) 25, bx g155 c155 43, bx g75 c75 32, bx (γ3 1) (#[.slice none 0 0, .slice none 0 0]) 25, bx (γ3 0) (#[.slice p n cap, .slice q m capv]) 25, bx (γ1 2) (#[.slice none 0 0, .slice none 0 0]) 25, bx (γ1 1) (#[.int .i64 d.id, .int .i64 d.weight, .int .i64 d.cap, .int .i64 d.pool]) 32, bx (γ1 0) (#[.slice p n cap, .slice q m capv]) 25]) ?_ (fun hmx17 => ?_)
   ·
    rintro ⟨c155, c75, g155, g75, γ195⟩ ⟨hc155, hc75⟩
    refine a1 10 rfl ?_
    refine mo0 1 [(10, .go (owns 0 0 2))] [1, 2, 4, 7] (fun _ => []) (fun _ L => (L.set 0 (bx (γ195 0) (#[.slice (some ⟨g75, 0, none⟩) n n, .slice (some ⟨g155, 0, none⟩) m m]) 25))) (fun _ => ?_)
    refine od_ ?_
    exact wk (hmx18 (c155, c75, g155, g75, γ195) ⟨hc155, hc75⟩) [1, 2, 4, 7] [[_], [_], [_], [_], [_], [_], [_], [_]] [0, 1, 2, 3, 4, 5, 6, 7] rfl rfl
   refine any_cutX (V := (Array Value) × (Array Value) × (Nat) × (Nat)) (fun ⟨c155, c75, g155, g75⟩ => c155.size = m * 4 ∧ c75.size = n * 4) 2 #[true, true, true, true, true, true, true, true, true, false, false] (fun ⟨c155, c75, g155, g75⟩ => [(1, .func (.func 61) #[] #[.pointer (some ⟨γ1 1, 0, none⟩)]), (2, .pointer (some ⟨γ3 0, 0, none⟩)), (4, .pointer (some ⟨γ3 1, 0, none⟩)), (23, .agg #[.slice (some ⟨g75, 0, none⟩) n n, .slice (some ⟨g155, 0, none⟩) m m])]) (fun ⟨c155, c75, g155, g75⟩ => [bx g155 c155 43, bx g75 c75 32, bx (γ3 1) (#[.slice none 0 0, .slice none 0 0]) 25, bx (γ3 0) (#[.slice p n cap, .slice q m capv]) 25, bx (γ1 2) (#[.slice none 0 0, .slice none 0 0]) 25, bx (γ1 1) (#[.int .i64 d.id, .int .i64 d.weight, .int .i64 d.cap, .int .i64 d.pool]) 32, bx (γ1 0) (#[.slice p n cap, .slice q m capv]) 25]) ?_ (fun hmx16 => ?_)
   ·
    rintro ⟨c155, c75, g155, g75⟩ ⟨hc155, hc75⟩
    refine a1 9 rfl ?_
    refine mo0 1 [] [1, 2, 4, 23] (fun γ195 => [(7, .pointer (some ⟨γ195 0, 0, none⟩))]) (fun γ195 L => bx (γ195 0) (#[.slice none 0 0, .slice none 0 0]) 25 :: L) (fun γ195 => ?_)
    refine od_ ?_
    exact wk (hmx17 (c155, c75, g155, g75, γ195) ⟨hc155, hc75⟩) [1, 2, 4, 7, 23] [[_], [_], [_], [_], [_], [_], [_], [_]] [0, 1, 2, 3, 4, 5, 6, 7] rfl rfl
   refine any_cutX (V := (Array Value) × (Nat) × (Nat → Nat)) (fun ⟨c155, g155, γ195⟩ => c155.size = m * 4) 3 #[true, true, true, false, true, true, true, true, false, true, false] (fun ⟨c155, g155, γ195⟩ => [(1, .func (.func 61) #[] #[.pointer (some ⟨γ1 1, 0, none⟩)]), (2, .pointer (some ⟨γ3 0, 0, none⟩)), (4, .pointer (some ⟨γ3 1, 0, none⟩)), (7, .pointer (some ⟨γ195 0, 0, none⟩)), (17, .int .i64 ((n : Nat))), (22, .slice (some ⟨g155, 0, none⟩) m m)]) (fun ⟨c155, g155, γ195⟩ => [bx (γ195 0) (#[.slice none 0 0, .slice none 0 0]) 25, bx g155 c155 43, bx (γ3 1) (#[.slice none 0 0, .slice none 0 0]) 25, bx (γ3 0) (#[.slice p n cap, .slice q m capv]) 25, bx (γ1 2) (#[.slice none 0 0, .slice none 0 0]) 25, bx (γ1 1) (#[.int .i64 d.id, .int .i64 d.weight, .int .i64 d.cap, .int .i64 d.pool]) 32, bx (γ1 0) (#[.slice p n cap, .slice q m capv]) 25]) ?_ (fun hmx15 => ?_)
   ·
    rintro ⟨c155, g155, γ195⟩ hc155
    refine a1 3 rfl ?_
    refine ops_make (T := 32) (ks := 4) (by_ := 32) (n := n) rfl (by kernel_rfl) (by kernel_rfl) (by kernel_rfl) (by kernel_rfl) (by kernel_rfl) (by omega) (by have hmx : maxLen = 9223372036854775807 := rfl; omega) (fun g75 c75 hc75 => ?_)
    refine od_ ?_
    refine tk (m := 1) [8] [] [1, 2, 4, 7] [(23, .agg #[.slice (some ⟨g75, 0, none⟩) n n, .slice (some ⟨g155, 0, none⟩) m m])] ([]) #[true, true, true, true, true, true, true, true, true, true, false] al0 ?_
    exact wk (hmx17 (c155, c75, g155, g75, γ195) ⟨hc155, hc75⟩) [1, 2, 4, 7, 23] [[_], [_], [_], [_], [_], [_], [_], [_]] [1, 2, 0, 3, 4, 5, 6, 7] rfl rfl
   refine any_cutX (V := (Array Value) × (Nat) × (Nat → Nat)) (fun ⟨c75, g75, γ195⟩ => c75.size = n * 4) 3 #[true, true, true, true, true, true, true, false, false, true, false] (fun ⟨c75, g75, γ195⟩ => [(1, .func (.func 61) #[] #[.pointer (some ⟨γ1 1, 0, none⟩)]), (2, .pointer (some ⟨γ3 0, 0, none⟩)), (4, .pointer (some ⟨γ3 1, 0, none⟩)), (7, .pointer (some ⟨γ195 0, 0, none⟩)), (18, .slice (some ⟨g75, 0, none⟩) n n), (21, .int .i64 ((m : Nat)))]) (fun ⟨c75, g75, γ195⟩ => [bx (γ195 0) (#[.slice none 0 0, .slice none 0 0]) 25, bx g75 c75 32, bx (γ3 1) (#[.slice none 0 0, .slice none 0 0]) 25, bx (γ3 0) (#[.slice p n cap, .slice q m capv]) 25, bx (γ1 2) (#[.slice none 0 0, .slice none 0 0]) 25, bx (γ1 1) (#[.int .i64 d.id, .int .i64 d.weight, .int .i64 d.cap, .int .i64 d.pool]) 32, bx (γ1 0) (#[.slice p n cap, .slice q m capv]) 25]) ?_ (fun hmx14 => ?_)
   ·
    rintro ⟨c75, g75, γ195⟩ hc75
    refine a1 7 rfl ?_
    refine ops_make (T := 43) (ks := 4) (by_ := 24) (n := m) rfl (by kernel_rfl) (by kernel_rfl) (by kernel_rfl) (by kernel_rfl) (by kernel_rfl) (by omega) (by have hmx : maxLen = 9223372036854775807 := rfl; omega) (fun g155 c155 hc155 => ?_)
    refine od_ ?_
    refine tk (m := 1) [8] [] [1, 2, 4, 7] [(23, .agg #[.slice (some ⟨g75, 0, none⟩) n n, .slice (some ⟨g155, 0, none⟩) m m])] ([]) #[true, true, true, true, true, true, true, true, true, true, false] al0 ?_
    exact wk (hmx17 (c155, c75, g155, g75, γ195) ⟨hc155, hc75⟩) [1, 2, 4, 7, 23] [[_], [_], [_], [_], [_], [_], [_], [_]] [1, 0, 2, 3, 4, 5, 6, 7] rfl rfl
   refine any_cutX (V := (Array Value) × (Nat)) (fun ⟨c155, g155⟩ => c155.size = m * 4) 4 #[true, true, true, false, true, true, true, true, false, false, false] (fun ⟨c155, g155⟩ => [(1, .func (.func 61) #[] #[.pointer (some ⟨γ1 1, 0, none⟩)]), (2, .pointer (some ⟨γ3 0, 0, none⟩)), (4, .pointer (some ⟨γ3 1, 0, none⟩)), (17, .int .i64 ((n : Nat))), (22, .slice (some ⟨g155, 0, none⟩) m m)]) (fun ⟨c155, g155⟩ => [bx g155 c155 43, bx (γ3 1) (#[.slice none 0 0, .slice none 0 0]) 25, bx (γ3 0) (#[.slice p n cap, .slice q m capv]) 25, bx (γ1 2) (#[.slice none 0 0, .slice none 0 0]) 25, bx (γ1 1) (#[.int .i64 d.id, .int .i64 d.weight, .int .i64 d.cap, .int .i64 d.pool]) 32, bx (γ1 0) (#[.slice p n cap, .slice q m capv]) 25]) ?_ (fun hmx13 => ?_)
   ·
    rintro ⟨c155, g155⟩ hc155
    refine any_fork [3, 9] (by kernel_rfl) (by simp) (each_cons _ rfl ?_ (each_cons _ rfl ?_ (each_nil)))
    ·
     refine ops_make (T := 32) (ks := 4) (by_ := 32) (n := n) rfl (by kernel_rfl) (by kernel_rfl) (by kernel_rfl) (by kernel_rfl) (by kernel_rfl) (by omega) (by have hmx : maxLen = 9223372036854775807 := rfl; omega) (fun g75 c75 hc75 => ?_)
     refine od_ ?_
     refine tk (m := 2) [8] [] [1, 2, 4] [(23, .agg #[.slice (some ⟨g75, 0, none⟩) n n, .slice (some ⟨g155, 0, none⟩) m m])] ([]) #[true, true, true, true, true, true, true, true, true, false, false] al0 ?_
     exact wk (hmx16 (c155, c75, g155, g75) ⟨hc155, hc75⟩) [1, 2, 4, 23] [[_], [_], [_], [_], [_], [_], [_]] [1, 0, 2, 3, 4, 5, 6] rfl rfl
    ·
     refine mo0 1 [] [1, 2, 4, 17, 22] (fun γ195 => [(7, .pointer (some ⟨γ195 0, 0, none⟩))]) (fun γ195 L => bx (γ195 0) (#[.slice none 0 0, .slice none 0 0]) 25 :: L) (fun γ195 => ?_)
     refine od_ ?_
     exact wk (hmx15 (c155, g155, γ195) hc155) [1, 2, 4, 7, 17, 22] [[_], [_], [_], [_], [_], [_], [_]] [0, 1, 2, 3, 4, 5, 6] rfl rfl
   refine any_cutX (V := (Array Value) × (Nat)) (fun ⟨c75, g75⟩ => c75.size = n * 4) 4 #[true, true, true, true, true, true, true, false, false, false, false] (fun ⟨c75, g75⟩ => [(1, .func (.func 61) #[] #[.pointer (some ⟨γ1 1, 0, none⟩)]), (2, .pointer (some ⟨γ3 0, 0, none⟩)), (4, .pointer (some ⟨γ3 1, 0, none⟩)), (18, .slice (some ⟨g75, 0, none⟩) n n), (21, .int .i64 ((m : Nat)))]) (fun ⟨c75, g75⟩ => [bx g75 c75 32, bx (γ3 1) (#[.slice none 0 0, .slice none 0 0]) 25, bx (γ3 0) (#[.slice p n cap, .slice q m capv]) 25, bx (γ1 2) (#[.slice none 0 0, .slice none 0 0]) 25, bx (γ1 1) (#[.int .i64 d.id, .int .i64 d.weight, .int .i64 d.cap, .int .i64 d.pool]) 32, bx (γ1 0) (#[.slice p n cap, .slice q m capv]) 25]) ?_ (fun hmx12 => ?_)
   ·
    rintro ⟨c75, g75⟩ hc75
    refine any_fork [7, 9] (by kernel_rfl) (by simp) (each_cons _ rfl ?_ (each_cons _ rfl ?_ (each_nil)))
    ·
     refine ops_make (T := 43) (ks := 4) (by_ := 24) (n := m) rfl (by kernel_rfl) (by kernel_rfl) (by kernel_rfl) (by kernel_rfl) (by kernel_rfl) (by omega) (by have hmx : maxLen = 9223372036854775807 := rfl; omega) (fun g155 c155 hc155 => ?_)
     refine od_ ?_
     refine tk (m := 2) [8] [] [1, 2, 4] [(23, .agg #[.slice (some ⟨g75, 0, none⟩) n n, .slice (some ⟨g155, 0, none⟩) m m])] ([]) #[true, true, true, true, true, true, true, true, true, false, false] al0 ?_
     exact wk (hmx16 (c155, c75, g155, g75) ⟨hc155, hc75⟩) [1, 2, 4, 23] [[_], [_], [_], [_], [_], [_], [_]] [0, 1, 2, 3, 4, 5, 6] rfl rfl
    ·
     refine mo0 1 [] [1, 2, 4, 18, 21] (fun γ195 => [(7, .pointer (some ⟨γ195 0, 0, none⟩))]) (fun γ195 L => bx (γ195 0) (#[.slice none 0 0, .slice none 0 0]) 25 :: L) (fun γ195 => ?_)
     refine od_ ?_
     exact wk (hmx14 (c75, g75, γ195) hc75) [1, 2, 4, 7, 18, 21] [[_], [_], [_], [_], [_], [_], [_]] [0, 1, 2, 3, 4, 5, 6] rfl rfl
   refine any_cutX (V := (Nat → Nat)) (fun γ195 => True) 4 #[true, true, true, false, true, true, true, false, false, true, false] (fun γ195 => [(1, .func (.func 61) #[] #[.pointer (some ⟨γ1 1, 0, none⟩)]), (2, .pointer (some ⟨γ3 0, 0, none⟩)), (4, .pointer (some ⟨γ3 1, 0, none⟩)), (7, .pointer (some ⟨γ195 0, 0, none⟩)), (17, .int .i64 ((n : Nat))), (21, .int .i64 ((m : Nat)))]) (fun γ195 => [bx (γ195 0) (#[.slice none 0 0, .slice none 0 0]) 25, bx (γ3 1) (#[.slice none 0 0, .slice none 0 0]) 25, bx (γ3 0) (#[.slice p n cap, .slice q m capv]) 25, bx (γ1 2) (#[.slice none 0 0, .slice none 0 0]) 25, bx (γ1 1) (#[.int .i64 d.id, .int .i64 d.weight, .int .i64 d.cap, .int .i64 d.pool]) 32, bx (γ1 0) (#[.slice p n cap, .slice q m capv]) 25]) ?_ (fun hmx11 => ?_)
   ·
    rintro γ195 _
    refine any_fork [3, 7] (by kernel_rfl) (by simp) (each_cons _ rfl ?_ (each_cons _ rfl ?_ (each_nil)))
    ·
     refine ops_make (T := 32) (ks := 4) (by_ := 32) (n := n) rfl (by kernel_rfl) (by kernel_rfl) (by kernel_rfl) (by kernel_rfl) (by kernel_rfl) (by omega) (by have hmx : maxLen = 9223372036854775807 := rfl; omega) (fun g75 c75 hc75 => ?_)
     refine od_ ?_
     exact wk (hmx14 (c75, g75, γ195) hc75) [1, 2, 4, 7, 18, 21] [[_], [_], [_], [_], [_], [_], [_]] [1, 0, 2, 3, 4, 5, 6] rfl rfl
    ·
     refine ops_make (T := 43) (ks := 4) (by_ := 24) (n := m) rfl (by kernel_rfl) (by kernel_rfl) (by kernel_rfl) (by kernel_rfl) (by kernel_rfl) (by omega) (by have hmx : maxLen = 9223372036854775807 := rfl; omega) (fun g155 c155 hc155 => ?_)
     refine od_ ?_
     exact wk (hmx15 (c155, g155, γ195) hc155) [1, 2, 4, 7, 17, 22] [[_], [_], [_], [_], [_], [_], [_]] [1, 0, 2, 3, 4, 5, 6] rfl rfl
   refine any_cutX (V := (Array Value) × (Nat) × (Nat → Nat)) (fun ⟨c155, g155, γ195⟩ => c155.size = m * 4) 5 #[true, false, false, false, true, true, true, true, false, true, false] (fun ⟨c155, g155, γ195⟩ => [(1, .func (.func 61) #[] #[.pointer (some ⟨γ1 1, 0, none⟩)]), (2, .pointer (some ⟨γ3 0, 0, none⟩)), (4, .pointer (some ⟨γ3 1, 0, none⟩)), (7, .pointer (some ⟨γ195 0, 0, none⟩)), (15, .pointer (some ⟨γ3 0, 0, none⟩)), (22, .slice (some ⟨g155, 0, none⟩) m m)]) (fun ⟨c155, g155, γ195⟩ => [bx (γ195 0) (#[.slice none 0 0, .slice none 0 0]) 25, bx g155 c155 43, bx (γ3 1) (#[.slice none 0 0, .slice none 0 0]) 25, bx (γ3 0) (#[.slice p n cap, .slice q m capv]) 25, bx (γ1 2) (#[.slice none 0 0, .slice none 0 0]) 25, bx (γ1 1) (#[.int .i64 d.id, .int .i64 d.weight, .int .i64 d.cap, .int .i64 d.pool]) 32, bx (γ1 0) (#[.slice p n cap, .slice q m capv]) 25]) ?_ (fun hmx10 => ?_)
   ·
    rintro ⟨c155, g155, γ195⟩ hc155
    refine a1 1 rfl ?_
    refine qo0 1 [(1, .go (owns 3 0 1))] [1, 2, 4, 7, 22] [(16, .slice p n cap)] ?_
    refine od_ ?_
    refine tk (m := 3) [2] [] [1, 2, 4, 7, 22] [(17, .int .i64 ((n : Nat)))] ([]) #[true, true, true, false, true, true, true, true, false, true, false] al0 ?_
    exact wk (hmx15 (c155, g155, γ195) hc155) [1, 2, 4, 7, 17, 22] [[_], [_], [_], [_], [_], [_], [_]] [0, 1, 2, 3, 4, 5, 6] rfl rfl
   refine any_cutX (V := (Array Value) × (Nat) × (Nat → Nat)) (fun ⟨c75, g75, γ195⟩ => c75.size = n * 4) 5 #[true, true, true, true, true, false, false, false, false, true, false] (fun ⟨c75, g75, γ195⟩ => [(1, .func (.func 61) #[] #[.pointer (some ⟨γ1 1, 0, none⟩)]), (2, .pointer (some ⟨γ3 0, 0, none⟩)), (4, .pointer (some ⟨γ3 1, 0, none⟩)), (7, .pointer (some ⟨γ195 0, 0, none⟩)), (18, .slice (some ⟨g75, 0, none⟩) n n), (19, .pointer (some ⟨γ3 0, 1, none⟩))]) (fun ⟨c75, g75, γ195⟩ => [bx (γ195 0) (#[.slice none 0 0, .slice none 0 0]) 25, bx g75 c75 32, bx (γ3 1) (#[.slice none 0 0, .slice none 0 0]) 25, bx (γ3 0) (#[.slice p n cap, .slice q m capv]) 25, bx (γ1 2) (#[.slice none 0 0, .slice none 0 0]) 25, bx (γ1 1) (#[.int .i64 d.id, .int .i64 d.weight, .int .i64 d.cap, .int .i64 d.pool]) 32, bx (γ1 0) (#[.slice p n cap, .slice q m capv]) 25]) ?_ (fun hmx9 => ?_)
   ·
    rintro ⟨c75, g75, γ195⟩ hc75
    refine a1 5 rfl ?_
    refine qo0 1 [(5, .go (owns 3 1 1))] [1, 2, 4, 7, 18] [(20, .slice q m capv)] ?_
    refine od_ ?_
    refine tk (m := 3) [6] [] [1, 2, 4, 7, 18] [(21, .int .i64 ((m : Nat)))] ([]) #[true, true, true, true, true, true, true, false, false, true, false] al0 ?_
    exact wk (hmx14 (c75, g75, γ195) hc75) [1, 2, 4, 7, 18, 21] [[_], [_], [_], [_], [_], [_], [_]] [0, 1, 2, 3, 4, 5, 6] rfl rfl
   refine any_cutX (V := Unit) (fun _ => True) 5 #[true, true, true, false, true, true, true, false, false, false, false] (fun _ => [(1, .func (.func 61) #[] #[.pointer (some ⟨γ1 1, 0, none⟩)]), (2, .pointer (some ⟨γ3 0, 0, none⟩)), (4, .pointer (some ⟨γ3 1, 0, none⟩)), (17, .int .i64 ((n : Nat))), (21, .int .i64 ((m : Nat)))]) (fun _ => [bx (γ3 1) (#[.slice none 0 0, .slice none 0 0]) 25, bx (γ3 0) (#[.slice p n cap, .slice q m capv]) 25, bx (γ1 2) (#[.slice none 0 0, .slice none 0 0]) 25, bx (γ1 1) (#[.int .i64 d.id, .int .i64 d.weight, .int .i64 d.cap, .int .i64 d.pool]) 32, bx (γ1 0) (#[.slice p n cap, .slice q m capv]) 25]) ?_ (fun hmx8 => ?_)
   ·
    rintro _ _
    refine any_fork [3, 7, 9] (by kernel_rfl) (by simp) (each_cons _ rfl ?_ (each_cons _ rfl ?_ (each_cons _ rfl ?_ (each_nil))))
    ·
     refine ops_make (T := 32) (ks := 4) (by_ := 32) (n := n) rfl (by kernel_rfl) (by kernel_rfl) (by kernel_rfl) (by kernel_rfl) (by kernel_rfl) (by omega) (by have hmx : maxLen = 9223372036854775807 := rfl; omega) (fun g75 c75 hc75 => ?_)
     refine od_ ?_
     exact wk (hmx12 (c75, g75) hc75) [1, 2, 4, 18, 21] [[_], [_], [_], [_], [_], [_]] [0, 1, 2, 3, 4, 5] rfl rfl
    ·
     refine ops_make (T := 43) (ks := 4) (by_ := 24) (n := m) rfl (by kernel_rfl) (by kernel_rfl) (by kernel_rfl) (by kernel_rfl) (by kernel_rfl) (by omega) (by have hmx : maxLen = 9223372036854775807 := rfl; omega) (fun g155 c155 hc155 => ?_)
     refine od_ ?_
     exact wk (hmx13 (c155, g155) hc155) [1, 2, 4, 17, 22] [[_], [_], [_], [_], [_], [_]] [0, 1, 2, 3, 4, 5] rfl rfl
    ·
     refine mo0 1 [] [1, 2, 4, 17, 21] (fun γ195 => [(7, .pointer (some ⟨γ195 0, 0, none⟩))]) (fun γ195 L => bx (γ195 0) (#[.slice none 0 0, .slice none 0 0]) 25 :: L) (fun γ195 => ?_)
     refine od_ ?_
     exact wk (hmx11 γ195 trivial) [1, 2, 4, 7, 17, 21] [[_], [_], [_], [_], [_], [_]] [0, 1, 2, 3, 4, 5] rfl rfl
   refine any_cutX (V := (Array Value) × (Nat)) (fun ⟨c155, g155⟩ => c155.size = m * 4) 6 #[true, false, false, false, true, true, true, true, false, false, false] (fun ⟨c155, g155⟩ => [(1, .func (.func 61) #[] #[.pointer (some ⟨γ1 1, 0, none⟩)]), (2, .pointer (some ⟨γ3 0, 0, none⟩)), (4, .pointer (some ⟨γ3 1, 0, none⟩)), (15, .pointer (some ⟨γ3 0, 0, none⟩)), (22, .slice (some ⟨g155, 0, none⟩) m m)]) (fun ⟨c155, g155⟩ => [bx g155 c155 43, bx (γ3 1) (#[.slice none 0 0, .slice none 0 0]) 25, bx (γ3 0) (#[.slice p n cap, .slice q m capv]) 25, bx (γ1 2) (#[.slice none 0 0, .slice none 0 0]) 25, bx (γ1 1) (#[.int .i64 d.id, .int .i64 d.weight, .int .i64 d.cap, .int .i64 d.pool]) 32, bx (γ1 0) (#[.slice p n cap, .slice q m capv]) 25]) ?_ (fun hmx7 => ?_)
   ·
    rintro ⟨c155, g155⟩ hc155
    refine any_fork [1, 9] (by kernel_rfl) (by simp) (each_cons _ rfl ?_ (each_cons _ rfl ?_ (each_nil)))
    ·
     refine qo0 1 [(1, .go (owns 2 0 1))] [1, 2, 4, 22] [(16, .slice p n cap)] ?_
     refine od_ ?_
     refine tk (m := 4) [2] [] [1, 2, 4, 22] [(17, .int .i64 ((n : Nat)))] ([]) #[true, true, true, false, true, true, true, true, false, false, false] al0 ?_
     exact wk (hmx13 (c155, g155) hc155) [1, 2, 4, 17, 22] [[_], [_], [_], [_], [_], [_]] [0, 1, 2, 3, 4, 5] rfl rfl
    ·
     refine mo0 1 [] [1, 2, 4, 15, 22] (fun γ195 => [(7, .pointer (some ⟨γ195 0, 0, none⟩))]) (fun γ195 L => bx (γ195 0) (#[.slice none 0 0, .slice none 0 0]) 25 :: L) (fun γ195 => ?_)
     refine od_ ?_
     exact wk (hmx10 (c155, g155, γ195) hc155) [1, 2, 4, 7, 15, 22] [[_], [_], [_], [_], [_], [_], [_]] [0, 1, 2, 3, 4, 5, 6] rfl rfl
   refine any_cutX (V := (Array Value) × (Nat)) (fun ⟨c75, g75⟩ => c75.size = n * 4) 6 #[true, true, true, true, true, false, false, false, false, false, false] (fun ⟨c75, g75⟩ => [(1, .func (.func 61) #[] #[.pointer (some ⟨γ1 1, 0, none⟩)]), (2, .pointer (some ⟨γ3 0, 0, none⟩)), (4, .pointer (some ⟨γ3 1, 0, none⟩)), (18, .slice (some ⟨g75, 0, none⟩) n n), (19, .pointer (some ⟨γ3 0, 1, none⟩))]) (fun ⟨c75, g75⟩ => [bx g75 c75 32, bx (γ3 1) (#[.slice none 0 0, .slice none 0 0]) 25, bx (γ3 0) (#[.slice p n cap, .slice q m capv]) 25, bx (γ1 2) (#[.slice none 0 0, .slice none 0 0]) 25, bx (γ1 1) (#[.int .i64 d.id, .int .i64 d.weight, .int .i64 d.cap, .int .i64 d.pool]) 32, bx (γ1 0) (#[.slice p n cap, .slice q m capv]) 25]) ?_ (fun hmx6 => ?_)
   ·
    rintro ⟨c75, g75⟩ hc75
    refine any_fork [5, 9] (by kernel_rfl) (by simp) (each_cons _ rfl ?_ (each_cons _ rfl ?_ (each_nil)))
    ·
     refine qo0 1 [(5, .go (owns 2 1 1))] [1, 2, 4, 18] [(20, .slice q m capv)] ?_
     refine od_ ?_
     refine tk (m := 4) [6] [] [1, 2, 4, 18] [(21, .int .i64 ((m : Nat)))] ([]) #[true, true, true, true, true, true, true, false, false, false, false] al0 ?_
     exact wk (hmx12 (c75, g75) hc75) [1, 2, 4, 18, 21] [[_], [_], [_], [_], [_], [_]] [0, 1, 2, 3, 4, 5] rfl rfl
    ·
     refine mo0 1 [] [1, 2, 4, 18, 19] (fun γ195 => [(7, .pointer (some ⟨γ195 0, 0, none⟩))]) (fun γ195 L => bx (γ195 0) (#[.slice none 0 0, .slice none 0 0]) 25 :: L) (fun γ195 => ?_)
     refine od_ ?_
     exact wk (hmx9 (c75, g75, γ195) hc75) [1, 2, 4, 7, 18, 19] [[_], [_], [_], [_], [_], [_], [_]] [0, 1, 2, 3, 4, 5, 6] rfl rfl
   refine any_cutX (V := (Nat → Nat)) (fun γ195 => True) 6 #[true, false, false, false, true, true, true, false, false, true, false] (fun γ195 => [(1, .func (.func 61) #[] #[.pointer (some ⟨γ1 1, 0, none⟩)]), (2, .pointer (some ⟨γ3 0, 0, none⟩)), (4, .pointer (some ⟨γ3 1, 0, none⟩)), (7, .pointer (some ⟨γ195 0, 0, none⟩)), (15, .pointer (some ⟨γ3 0, 0, none⟩)), (21, .int .i64 ((m : Nat)))]) (fun γ195 => [bx (γ195 0) (#[.slice none 0 0, .slice none 0 0]) 25, bx (γ3 1) (#[.slice none 0 0, .slice none 0 0]) 25, bx (γ3 0) (#[.slice p n cap, .slice q m capv]) 25, bx (γ1 2) (#[.slice none 0 0, .slice none 0 0]) 25, bx (γ1 1) (#[.int .i64 d.id, .int .i64 d.weight, .int .i64 d.cap, .int .i64 d.pool]) 32, bx (γ1 0) (#[.slice p n cap, .slice q m capv]) 25]) ?_ (fun hmx5 => ?_)
   ·
    rintro γ195 _
    refine any_fork [1, 7] (by kernel_rfl) (by simp) (each_cons _ rfl ?_ (each_cons _ rfl ?_ (each_nil)))
    ·
     refine qo0 1 [(1, .go (owns 2 0 1))] [1, 2, 4, 7, 21] [(16, .slice p n cap)] ?_
     refine od_ ?_
     refine tk (m := 4) [2] [] [1, 2, 4, 7, 21] [(17, .int .i64 ((n : Nat)))] ([]) #[true, true, true, false, true, true, true, false, false, true, false] al0 ?_
     exact wk (hmx11 γ195 trivial) [1, 2, 4, 7, 17, 21] [[_], [_], [_], [_], [_], [_]] [0, 1, 2, 3, 4, 5] rfl rfl
    ·
     refine ops_make (T := 43) (ks := 4) (by_ := 24) (n := m) rfl (by kernel_rfl) (by kernel_rfl) (by kernel_rfl) (by kernel_rfl) (by kernel_rfl) (by omega) (by have hmx : maxLen = 9223372036854775807 := rfl; omega) (fun g155 c155 hc155 => ?_)
     refine od_ ?_
     exact wk (hmx10 (c155, g155, γ195) hc155) [1, 2, 4, 7, 15, 22] [[_], [_], [_], [_], [_], [_], [_]] [1, 0, 2, 3, 4, 5, 6] rfl rfl
   refine any_cutX (V := (Nat → Nat)) (fun γ195 => True) 6 #[true, true, true, false, true, false, false, false, false, true, false] (fun γ195 => [(1, .func (.func 61) #[] #[.pointer (some ⟨γ1 1, 0, none⟩)]), (2, .pointer (some ⟨γ3 0, 0, none⟩)), (4, .pointer (some ⟨γ3 1, 0, none⟩)), (7, .pointer (some ⟨γ195 0, 0, none⟩)), (17, .int .i64 ((n : Nat))), (19, .pointer (some ⟨γ3 0, 1, none⟩))]) (fun γ195 => [bx (γ195 0) (#[.slice none 0 0, .slice none 0 0]) 25, bx (γ3 1) (#[.slice none 0 0, .slice none 0 0]) 25, bx (γ3 0) (#[.slice p n cap, .slice q m capv]) 25, bx (γ1 2) (#[.slice none 0 0, .slice none 0 0]) 25, bx (γ1 1) (#[.int .i64 d.id, .int .i64 d.weight, .int .i64 d.cap, .int .i64 d.pool]) 32, bx (γ1 0) (#[.slice p n cap, .slice q m capv]) 25]) ?_ (fun hmx4 => ?_)
   ·
    rintro γ195 _
    refine any_fork [3, 5] (by kernel_rfl) (by simp) (each_cons _ rfl ?_ (each_cons _ rfl ?_ (each_nil)))
    ·
     refine ops_make (T := 32) (ks := 4) (by_ := 32) (n := n) rfl (by kernel_rfl) (by kernel_rfl) (by kernel_rfl) (by kernel_rfl) (by kernel_rfl) (by omega) (by have hmx : maxLen = 9223372036854775807 := rfl; omega) (fun g75 c75 hc75 => ?_)
     refine od_ ?_
     exact wk (hmx9 (c75, g75, γ195) hc75) [1, 2, 4, 7, 18, 19] [[_], [_], [_], [_], [_], [_], [_]] [1, 0, 2, 3, 4, 5, 6] rfl rfl
    ·
     refine qo0 1 [(5, .go (owns 2 1 1))] [1, 2, 4, 7, 17] [(20, .slice q m capv)] ?_
     refine od_ ?_
     refine tk (m := 4) [6] [] [1, 2, 4, 7, 17] [(21, .int .i64 ((m : Nat)))] ([]) #[true, true, true, false, true, true, true, false, false, true, false] al0 ?_
     exact wk (hmx11 γ195 trivial) [1, 2, 4, 7, 17, 21] [[_], [_], [_], [_], [_], [_]] [0, 1, 2, 3, 4, 5] rfl rfl
   refine any_cutX (V := Unit) (fun _ => True) 7 #[true, false, false, false, true, true, true, false, false, false, false] (fun _ => [(1, .func (.func 61) #[] #[.pointer (some ⟨γ1 1, 0, none⟩)]), (2, .pointer (some ⟨γ3 0, 0, none⟩)), (4, .pointer (some ⟨γ3 1, 0, none⟩)), (15, .pointer (some ⟨γ3 0, 0, none⟩)), (21, .int .i64 ((m : Nat)))]) (fun _ => [bx (γ3 1) (#[.slice none 0 0, .slice none 0 0]) 25, bx (γ3 0) (#[.slice p n cap, .slice q m capv]) 25, bx (γ1 2) (#[.slice none 0 0, .slice none 0 0]) 25, bx (γ1 1) (#[.int .i64 d.id, .int .i64 d.weight, .int .i64 d.cap, .int .i64 d.pool]) 32, bx (γ1 0) (#[.slice p n cap, .slice q m capv]) 25]) ?_ (fun hmx3 => ?_)
   ·
    rintro _ _
    refine any_fork [1, 7, 9] (by kernel_rfl) (by simp) (each_cons _ rfl ?_ (each_cons _ rfl ?_ (each_cons _ rfl ?_ (each_nil))))
    ·
     refine qo0 1 [(1, .go (owns 1 0 1))] [1, 2, 4, 21] [(16, .slice p n cap)] ?_
     refine od_ ?_
     refine tk (m := 5) [2] [] [1, 2, 4, 21] [(17, .int .i64 ((n : Nat)))] ([]) #[true, true, true, false, true, true, true, false, false, false, false] al0 ?_
     exact wk (hmx8 () trivial) [1, 2, 4, 17, 21] [[_], [_], [_], [_], [_]] [0, 1, 2, 3, 4] rfl rfl
    ·
     refine ops_make (T := 43) (ks := 4) (by_ := 24) (n := m) rfl (by kernel_rfl) (by kernel_rfl) (by kernel_rfl) (by kernel_rfl) (by kernel_rfl) (by omega) (by have hmx : maxLen = 9223372036854775807 := rfl; omega) (fun g155 c155 hc155 => ?_)
     refine od_ ?_
     exact wk (hmx7 (c155, g155) hc155) [1, 2, 4, 15, 22] [[_], [_], [_], [_], [_], [_]] [0, 1, 2, 3, 4, 5] rfl rfl
    ·
     refine mo0 1 [] [1, 2, 4, 15, 21] (fun γ195 => [(7, .pointer (some ⟨γ195 0, 0, none⟩))]) (fun γ195 L => bx (γ195 0) (#[.slice none 0 0, .slice none 0 0]) 25 :: L) (fun γ195 => ?_)
     refine od_ ?_
     exact wk (hmx5 γ195 trivial) [1, 2, 4, 7, 15, 21] [[_], [_], [_], [_], [_], [_]] [0, 1, 2, 3, 4, 5] rfl rfl
   refine any_cutX (V := Unit) (fun _ => True) 7 #[true, true, true, false, true, false, false, false, false, false, false] (fun _ => [(1, .func (.func 61) #[] #[.pointer (some ⟨γ1 1, 0, none⟩)]), (2, .pointer (some ⟨γ3 0, 0, none⟩)), (4, .pointer (some ⟨γ3 1, 0, none⟩)), (17, .int .i64 ((n : Nat))), (19, .pointer (some ⟨γ3 0, 1, none⟩))]) (fun _ => [bx (γ3 1) (#[.slice none 0 0, .slice none 0 0]) 25, bx (γ3 0) (#[.slice p n cap, .slice q m capv]) 25, bx (γ1 2) (#[.slice none 0 0, .slice none 0 0]) 25, bx (γ1 1) (#[.int .i64 d.id, .int .i64 d.weight, .int .i64 d.cap, .int .i64 d.pool]) 32, bx (γ1 0) (#[.slice p n cap, .slice q m capv]) 25]) ?_ (fun hmx2 => ?_)
   ·
    rintro _ _
    refine any_fork [3, 5, 9] (by kernel_rfl) (by simp) (each_cons _ rfl ?_ (each_cons _ rfl ?_ (each_cons _ rfl ?_ (each_nil))))
    ·
     refine ops_make (T := 32) (ks := 4) (by_ := 32) (n := n) rfl (by kernel_rfl) (by kernel_rfl) (by kernel_rfl) (by kernel_rfl) (by kernel_rfl) (by omega) (by have hmx : maxLen = 9223372036854775807 := rfl; omega) (fun g75 c75 hc75 => ?_)
     refine od_ ?_
     exact wk (hmx6 (c75, g75) hc75) [1, 2, 4, 18, 19] [[_], [_], [_], [_], [_], [_]] [0, 1, 2, 3, 4, 5] rfl rfl
    ·
     refine qo0 1 [(5, .go (owns 1 1 1))] [1, 2, 4, 17] [(20, .slice q m capv)] ?_
     refine od_ ?_
     refine tk (m := 5) [6] [] [1, 2, 4, 17] [(21, .int .i64 ((m : Nat)))] ([]) #[true, true, true, false, true, true, true, false, false, false, false] al0 ?_
     exact wk (hmx8 () trivial) [1, 2, 4, 17, 21] [[_], [_], [_], [_], [_]] [0, 1, 2, 3, 4] rfl rfl
    ·
     refine mo0 1 [] [1, 2, 4, 17, 19] (fun γ195 => [(7, .pointer (some ⟨γ195 0, 0, none⟩))]) (fun γ195 L => bx (γ195 0) (#[.slice none 0 0, .slice none 0 0]) 25 :: L) (fun γ195 => ?_)
     refine od_ ?_
     exact wk (hmx4 γ195 trivial) [1, 2, 4, 7, 17, 19] [[_], [_], [_], [_], [_], [_]] [0, 1, 2, 3, 4, 5] rfl rfl
   refine any_cutX (V := (Nat → Nat)) (fun γ195 => True) 8 #[true, false, false, false, true, false, false, false, false, true, false] (fun γ195 => [(1, .func (.func 61) #[] #[.pointer (some ⟨γ1 1, 0, none⟩)]), (2, .pointer (some ⟨γ3 0, 0, none⟩)), (4, .pointer (some ⟨γ3 1, 0, none⟩)), (7, .pointer (some ⟨γ195 0, 0, none⟩)), (15, .pointer (some ⟨γ3 0, 0, none⟩)), (19, .pointer (some ⟨γ3 0, 1, none⟩))]) (fun γ195 => [bx (γ195 0) (#[.slice none 0 0, .slice none 0 0]) 25, bx (γ3 1) (#[.slice none 0 0, .slice none 0 0]) 25, bx (γ3 0) (#[.slice p n cap, .slice q m capv]) 25, bx (γ1 2) (#[.slice none 0 0, .slice none 0 0]) 25, bx (γ1 1) (#[.int .i64 d.id, .int .i64 d.weight, .int .i64 d.cap, .int .i64 d.pool]) 32, bx (γ1 0) (#[.slice p n cap, .slice q m capv]) 25]) ?_ (fun hmx1 => ?_)
   ·
    rintro γ195 _
    refine any_fork [1, 5] (by kernel_rfl) (by simp) (each_cons _ rfl ?_ (each_cons _ rfl ?_ (each_nil)))
    ·
     refine qo0 1 [(1, .go (owns 2 0 1))] [1, 2, 4, 7, 19] [(16, .slice p n cap)] ?_
     refine od_ ?_
     refine tk (m := 6) [2] [] [1, 2, 4, 7, 19] [(17, .int .i64 ((n : Nat)))] ([]) #[true, true, true, false, true, false, false, false, false, true, false] al0 ?_
     exact wk (hmx4 γ195 trivial) [1, 2, 4, 7, 17, 19] [[_], [_], [_], [_], [_], [_]] [0, 1, 2, 3, 4, 5] rfl rfl
    ·
     refine qo0 1 [(5, .go (owns 2 1 1))] [1, 2, 4, 7, 15] [(20, .slice q m capv)] ?_
     refine od_ ?_
     refine tk (m := 6) [6] [] [1, 2, 4, 7, 15] [(21, .int .i64 ((m : Nat)))] ([]) #[true, false, false, false, true, true, true, false, false, true, false] al0 ?_
     exact wk (hmx5 γ195 trivial) [1, 2, 4, 7, 15, 21] [[_], [_], [_], [_], [_], [_]] [0, 1, 2, 3, 4, 5] rfl rfl
   refine any_fork [1, 5, 9] (by kernel_rfl) (by simp) (each_cons _ rfl ?_ (each_cons _ rfl ?_ (each_cons _ rfl ?_ (each_nil))))
   ·
    refine qo0 1 [(1, .go (owns 1 0 1))] [1, 2, 4, 19] [(16, .slice p n cap)] ?_
    refine od_ ?_
    refine tk (m := 7) [2] [] [1, 2, 4, 19] [(17, .int .i64 ((n : Nat)))] ([]) #[true, true, true, false, true, false, false, false, false, false, false] al0 ?_
    exact wk (hmx2 () trivial) [1, 2, 4, 17, 19] [[_], [_], [_], [_], [_]] [0, 1, 2, 3, 4] rfl rfl
   ·
    refine qo0 1 [(5, .go (owns 1 1 1))] [1, 2, 4, 15] [(20, .slice q m capv)] ?_
    refine od_ ?_
    refine tk (m := 7) [6] [] [1, 2, 4, 15] [(21, .int .i64 ((m : Nat)))] ([]) #[true, false, false, false, true, true, true, false, false, false, false] al0 ?_
    exact wk (hmx3 () trivial) [1, 2, 4, 15, 21] [[_], [_], [_], [_], [_]] [0, 1, 2, 3, 4] rfl rfl
   ·
    refine mo0 1 [] [1, 2, 4, 15, 19] (fun γ195 => [(7, .pointer (some ⟨γ195 0, 0, none⟩))]) (fun γ195 L => bx (γ195 0) (#[.slice none 0 0, .slice none 0 0]) 25 :: L) (fun γ195 => ?_)
    refine od_ ?_
    exact wk (hmx1 γ195 trivial) [1, 2, 4, 7, 15, 19] [[_], [_], [_], [_], [_], [_]] [0, 1, 2, 3, 4, 5] rfl rfl
  rintro ⟨c155, c75, g155, g75, γ195⟩ ⟨hc155, hc75⟩
  refine any_nil (by kernel_rfl) ?_
  refine ds_ (sq_ (ao_ (qo0 4 [(1, .go (owns 0 0 1)), (3, .go (owns 4 0 1))] [1, 2, 4, 7] [(25, .slice (some ⟨g75, 0, none⟩) n n), (27, .slice p n cap)] (ops_copy 2 rfl (by kernel_rfl) (by kernel_rfl) (g := g75) (of := 0) (dn := n) (dc := n) (m := n) (cnt := n) (c := c75) (yv := (.slice p n cap)) (ds.flatMap Enc.enc) (by kernel_rfl) (by kernel_rfl) (T := 32) (ks := 4) (by_ := 32) (by kernel_rfl) (T' := 32) (by kernel_rfl) len_slice (by omega) (fun w hw => by have := first_sv (P := Try.prog) (w := w) (p := p) (m := n) (cap := cap) (cnt := n) (hds.kept hw.below) (by omega); rw [List.take_of_length_le (by omega)] at this; exact this) (by first | (rw [flat_len, Nat.zero_add, hc75, ← hn]; exact Nat.le_refl _) | (rw [flat_len, Nat.zero_add, hc75, ← hn])) (flat_one ds) ?_))))
  have hOw303 := OwnS.filled (l := ds) (n := n) hc75 hn (by have hmx : maxLen = 9223372036854775807 := rfl; omega)
  have hO303 := SlO.ofOwn (T := 32) (g := g75) hOw303 hn
  refine on_ (ds_ (sq_ (ao_ (qo0 4 [(1, .go (owns 0 1 1)), (3, .go (owns 4 1 1))] [1, 4, 7] [(30, .slice (some ⟨g155, 0, none⟩) m m), (32, .slice q m capv)] (ops_copy 1 rfl (by kernel_rfl) (by kernel_rfl) (g := g155) (of := 0) (dn := m) (dc := m) (m := m) (cnt := m) (c := c155) (yv := (.slice q m capv)) (vs.flatMap Enc.enc) (by kernel_rfl) (by kernel_rfl) (T := 43) (ks := 4) (by_ := 24) (by kernel_rfl) (T' := 43) (by kernel_rfl) len_slice (by omega) (fun w hw => by have := first_sv (P := Try.prog) (w := w) (p := q) (m := m) (cap := capv) (cnt := m) (hvs.kept hw.below) (by omega); rw [List.take_of_length_le (by omega)] at this; exact this) (by first | (rw [flat_len, Nat.zero_add, hc155, ← hm]; exact Nat.le_refl _) | (rw [flat_len, Nat.zero_add, hc155, ← hm])) (flat_one vs) ?_)))))
  have hOw306 := OwnS.filled (l := vs) (n := m) hc155 hm (by have hmx : maxLen = 9223372036854775807 := rfl; omega)
  have hO306 := SlO.ofOwn (T := 43) (g := g155) hOw306 hm
  refine on_ (ds_ (sq_ (sq_ (ao_ (qo0 1 [] [4, 7] [(34, .func (.func 61) #[] #[.pointer (some ⟨γ1 1, 0, none⟩)])] (ops_inline (g := 61) (args := #[.pointer (some ⟨γ195 0, 0, none⟩), .pointer (some ⟨γ1 1, 0, none⟩)]) (by kernel_rfl) (by kernel_rfl) (by kernel_rfl) (fun args w => Try.call61 args w) Try.func61 rfl Try.ntmps61 rfl (sq_ (qa0 [] [0, 1] [] (ds_ (sq_ ?_))))))))))
  refine at_calm rfl (by kernel_rfl) (by kernel_rfl) ?_
  refine cm 6 [(3, .go (owns 0 0 1)), (5, .go (owns 6 0 1))] [0, 1] [(10, .slice (some ⟨g75, 0, none⟩) n n), (12, .int .i64 d.id)] ([]) (by kernel_rfl) rfl al0 ?_
  rcases hg311 : getK Dom.id ds d.id with _ | y311
  ·
   have hpl311 := (pos_cut (k := d.id) (guests_iff.1 q5).dr).2.2
   refine cK (.tuple #[.int .i64 ((posK Dom.id ds d.id : Nat)), .bool false]) Try.call47 (fun w hw => by have := placed_d (some ⟨g75, 0, none⟩) n n ds d.id w (hO303.atN (A := [_, _]) hw) hn (by omega) (guests_iff.1 q5).dr; rw [hasK_none hg311] at this; exact this) ?_
   refine cm 5 [] [0, 1] [(4, .int .i64 ((posK Dom.id ds d.id : Nat))), (5, .bool false)] ([]) (by kernel_rfl) rfl al0 ?_
   refine calm_nil' ?_
   refine ds_ (sq_ (at_block (sq_ (ao_ (qo0 1 [(0, .go (owns 6 0 4))] [0, 1, 4, 5] [(17, .agg #[.int .i64 d.id, .int .i64 d.weight, .int .i64 d.cap, .int .i64 d.pool])] ?_)))))
   rcases q314 : mayB d with _ | _
   ·
    refine cD (.bool false) Try.call45 (fun w hw => by have := may_d d w; rw [q314] at this; exact this) (qo0 2 [] [0, 1, 4, 5] [(16, .bool true)] (on_ (ds_ (t_ (sq_ (qa0 [] [] [(3, .int .i64 2)] (ds_ (bk ([]) (.int .i64 2) (qo0 1 [] [4, 7] [(8, .int .i64 2)] (on_ (ds_ (sq_ (qa0 [] [4, 7, 8] [(37, .bool true)] (ds_ (t_ (sq_ (qa0 [(2, .go (owns 3 0 2))] [4] [(5, .int .i64 2)] (ds_ (bk (owns 3 0 2) (.tuple #[.agg #[.slice none 0 0, .slice none 0 0], .int .i64 2]) (qo0 4 [(5, .go (owns 5 0 2))] [4] [(5, .int .i64 2)] (on_ (ds_ (rt (owns 5 0 2) (.tuple #[.agg #[.slice none 0 0, .slice none 0 0], .int .i64 2]) ?_)))))))))))))))))))))))
    exact fun w' hw => by rw [createV_arg q5 q314]; exact ⟨none, 0, 0, [], none, 0, 0, [], rfl, SlO.nil, SlO.nil, hw.below, hw.sub (List.nil_sublist _)⟩
   ·
    refine cD (.bool true) Try.call45 (fun w hw => by have := may_d d w; rw [q314] at this; exact this) (qo0 2 [] [0, 1, 4, 5] [(16, .bool false)] (on_ (ds_ (f_ (sq_ (qa0 [] [0, 1, 4] [(20, .bool false)] (ds_ (f_ (at_skip (done_block (ds_ (sq_ ?_))))))))))))
    refine at_any (by kernel_rfl) ?_
    refine tk (m := 7) [0, 1, 2, 3, 5] [] [1] [(22, .pointer (some ⟨γ195 0, 0, none⟩)), (25, .pointer (some ⟨γ195 0, 0, none⟩)), (27, .int .i64 ((posK Dom.id ds d.id : Nat)))] ([]) #[true, true, true, true, false, true, false, false, false, false, false, false] al0 ?_
    refine any_cutG 4 #[true, true, true, true, true, true, true, true, false, false, false, false] (fun γ328 => [(22, .pointer (some ⟨γ195 0, 0, none⟩)), (26, .slice (some ⟨g75, 0, none⟩) n n), (27, .int .i64 ((posK Dom.id ds d.id : Nat))), (29, .slice (some ⟨γ328 0, 0, none⟩) 1 1)]) (fun γ328 => [bx (γ328 0) (#[.int .i64 d.id, .int .i64 d.weight, .int .i64 d.cap, .int .i64 d.pool]) 32, bx (γ195 0) (#[.slice (some ⟨g75, 0, none⟩) n n, .slice (some ⟨g155, 0, none⟩) m m]) 25, bx g155 ((sets c155 0 (vs.flatMap Enc.enc))) 43, bx g75 ((sets c75 0 (ds.flatMap Enc.enc))) 32, bx (γ3 1) (#[.slice none 0 0, .slice none 0 0]) 25, bx (γ3 0) (#[.slice p n cap, .slice q m capv]) 25, bx (γ1 2) (#[.slice none 0 0, .slice none 0 0]) 25, bx (γ1 1) (#[.int .i64 d.id, .int .i64 d.weight, .int .i64 d.cap, .int .i64 d.pool]) 32, bx (γ1 0) (#[.slice p n cap, .slice q m capv]) 25]) (fun γ328 => ?_) (fun hm => ?_)
    rotate_left
    ·
     refine any_fork [4, 6] (by kernel_rfl) (by simp) (each_cons _ rfl ?_ (each_cons _ rfl ?_ (each_nil)))
     ·
      refine qo0 1 [(4, .go (owns 0 0 1))] [1, 22, 27] [(26, .slice (some ⟨g75, 0, none⟩) n n)] ?_
      refine od_ ?_
      refine a1 6 rfl ?_
      refine qo0 1 [(6, .go (owns 6 0 4))] [22, 26, 27] [(28, .agg #[.int .i64 d.id, .int .i64 d.weight, .int .i64 d.cap, .int .i64 d.pool])] ?_
      refine od_ ?_
      refine a1 7 rfl ?_
      refine mo0 1 [] [22, 26, 27] (fun γ331 => [(29, .slice (some ⟨γ331 0, 0, none⟩) 1 1)]) (fun γ331 L => bx (γ331 0) (#[.int .i64 d.id, .int .i64 d.weight, .int .i64 d.cap, .int .i64 d.pool]) 32 :: L) (fun γ331 => ?_)
      refine od_ ?_
      exact any_weak (hm fun i => [γ331 0].getD i 0) [22, 26, 27, 29] (by kernel_rfl) rfl rfl rfl
     ·
      refine qo0 1 [(6, .go (owns 6 0 4))] [22, 25, 27] [(28, .agg #[.int .i64 d.id, .int .i64 d.weight, .int .i64 d.cap, .int .i64 d.pool])] ?_
      refine od_ ?_
      refine any_fork [4, 7] (by kernel_rfl) (by simp) (each_cons _ rfl ?_ (each_cons _ rfl ?_ (each_nil)))
      ·
       refine qo0 1 [(4, .go (owns 0 0 1))] [22, 27, 28] [(26, .slice (some ⟨g75, 0, none⟩) n n)] ?_
       refine od_ ?_
       refine a1 7 rfl ?_
       refine mo0 1 [] [22, 26, 27] (fun γ334 => [(29, .slice (some ⟨γ334 0, 0, none⟩) 1 1)]) (fun γ334 L => bx (γ334 0) (#[.int .i64 d.id, .int .i64 d.weight, .int .i64 d.cap, .int .i64 d.pool]) 32 :: L) (fun γ334 => ?_)
       refine od_ ?_
       exact any_weak (hm fun i => [γ334 0].getD i 0) [22, 26, 27, 29] (by kernel_rfl) rfl rfl rfl
      ·
       refine mo0 1 [] [22, 25, 27] (fun γ335 => [(29, .slice (some ⟨γ335 0, 0, none⟩) 1 1)]) (fun γ335 L => bx (γ335 0) (#[.int .i64 d.id, .int .i64 d.weight, .int .i64 d.cap, .int .i64 d.pool]) 32 :: L) (fun γ335 => ?_)
       refine od_ ?_
       refine a1 4 rfl ?_
       refine qo0 1 [(4, .go (owns 1 0 1))] [22, 27, 29] [(26, .slice (some ⟨g75, 0, none⟩) n n)] ?_
       refine od_ ?_
       exact any_weak (hm fun i => [γ335 0].getD i 0) [22, 26, 27, 29] (by kernel_rfl) rfl rfl rfl
    refine a1 8 rfl ?_
    refine Ops.pick [[bx (γ328 0) (#[.int .i64 d.id, .int .i64 d.weight, .int .i64 d.cap, .int .i64 d.pool]) 32], [bx (γ195 0) (#[.slice (some ⟨g75, 0, none⟩) n n, .slice (some ⟨g155, 0, none⟩) m m]) 25], [bx g155 ((sets c155 0 (vs.flatMap Enc.enc))) 43], [bx g75 ((sets c75 0 (ds.flatMap Enc.enc))) 32], [bx (γ3 1) (#[.slice none 0 0, .slice none 0 0]) 25], [bx (γ3 0) (#[.slice p n cap, .slice q m capv]) 25], [bx (γ1 2) (#[.slice none 0 0, .slice none 0 0]) 25], [bx (γ1 1) (#[.int .i64 d.id, .int .i64 d.weight, .int .i64 d.cap, .int .i64 d.pool]) 32], [bx (γ1 0) (#[.slice p n cap, .slice q m capv]) 25]] [0, 1, 2, 4, 5, 6, 7, 8, 3] [] ([bx (γ328 0) (#[.int .i64 d.id, .int .i64 d.weight, .int .i64 d.cap, .int .i64 d.pool]) 32, bx (γ195 0) (#[.slice (some ⟨g75, 0, none⟩) n n, .slice (some ⟨g155, 0, none⟩) m m]) 25, bx g155 ((sets c155 0 (vs.flatMap Enc.enc))) 43, bx (γ3 1) (#[.slice none 0 0, .slice none 0 0]) 25, bx (γ3 0) (#[.slice p n cap, .slice q m capv]) 25, bx (γ1 2) (#[.slice none 0 0, .slice none 0 0]) 25, bx (γ1 1) (#[.int .i64 d.id, .int .i64 d.weight, .int .i64 d.cap, .int .i64 d.pool]) 32, bx (γ1 0) (#[.slice p n cap, .slice q m capv]) 25, bx g75 ((sets c75 0 (ds.flatMap Enc.enc))) 32]) (by kernel_rfl) rfl rfl (cP (fun v L' => ∃ q_ capq_ Y_, v = .slice q_ (n + 1) capq_ ∧ L' = [bx (γ195 0) (#[.slice (some ⟨g75, 0, none⟩) n n, .slice (some ⟨g155, 0, none⟩) m m]) 25, bx g155 ((sets c155 0 (vs.flatMap Enc.enc))) 43, bx (γ3 1) (#[.slice none 0 0, .slice none 0 0]) 25, bx (γ3 0) (#[.slice p n cap, .slice q m capv]) 25, bx (γ1 2) (#[.slice none 0 0, .slice none 0 0]) 25, bx (γ1 1) (#[.int .i64 d.id, .int .i64 d.weight, .int .i64 d.cap, .int .i64 d.pool]) 32, bx (γ1 0) (#[.slice p n cap, .slice q m capv]) 25] ++ (Y_ ++ []) ∧ SlO 32 Y_ q_ (n + 1) capq_ (ds.take (posK Dom.id ds d.id) ++ [⟨d.id, d.weight, d.cap, d.pool⟩] ++ ds.drop (posK Dom.id ds d.id))) Try.call62 (fun w hw => (insertD_d _ ([bx (γ195 0) (#[.slice (some ⟨g75, 0, none⟩) n n, .slice (some ⟨g155, 0, none⟩) m m]) 25, bx g155 ((sets c155 0 (vs.flatMap Enc.enc))) 43, bx (γ3 1) (#[.slice none 0 0, .slice none 0 0]) 25, bx (γ3 0) (#[.slice p n cap, .slice q m capv]) 25, bx (γ1 2) (#[.slice none 0 0, .slice none 0 0]) 25, bx (γ1 1) (#[.int .i64 d.id, .int .i64 d.weight, .int .i64 d.cap, .int .i64 d.pool]) 32, bx (γ1 0) (#[.slice p n cap, .slice q m capv]) 25] ++ []) [bx g75 ((sets c75 0 (ds.flatMap Enc.enc))) 32] (some ⟨g75, 0, none⟩) n n ds (posK Dom.id ds d.id) (γ328 0) (#[.int .i64 d.id, .int .i64 d.weight, .int .i64 d.cap, .int .i64 d.pool]) 1 ([⟨d.id, d.weight, d.cap, d.pool⟩]) w (hw.pull (A := [bx (γ195 0) (#[.slice (some ⟨g75, 0, none⟩) n n, .slice (some ⟨g155, 0, none⟩) m m]) 25, bx g155 ((sets c155 0 (vs.flatMap Enc.enc))) 43, bx (γ3 1) (#[.slice none 0 0, .slice none 0 0]) 25, bx (γ3 0) (#[.slice p n cap, .slice q m capv]) 25, bx (γ1 2) (#[.slice none 0 0, .slice none 0 0]) 25, bx (γ1 1) (#[.int .i64 d.id, .int .i64 d.weight, .int .i64 d.cap, .int .i64 d.pool]) 32, bx (γ1 0) (#[.slice p n cap, .slice q m capv]) 25]) (Y := [bx g75 ((sets c75 0 (ds.flatMap Enc.enc))) 32]) (R := [])) hO303 (by rfl) (by rfl) (by omega) (by omega) (by omega) (by omega)).mono fun e w' ⟨q_, capq_, Y_, he, hO, hY⟩ => ⟨_, _, he, ⟨q_, capq_, Y_, rfl, rfl, hO⟩, hY.push⟩) ?_)
    rintro v337 L337 ⟨q337, cq337, Y337, rfl, rfl, hO337⟩
    refine od_ ?_
    refine tk (m := 1) [9, 10] [] [30] [(32, .pointer (some ⟨γ195 0, 0, none⟩))] ([]) #[true, true, true, true, true, true, true, true, true, true, true, false] al0 ?_
    refine a1 11 rfl ?_
    refine mo0 1 [(11, .go (owns 0 0 1))] [] (fun _ => []) (fun _ L => (L.set 0 (bx (γ195 0) (#[.slice q337 (n + 1) cq337, .slice (some ⟨g155, 0, none⟩) m m]) 25))) (fun _ => ?_)
    refine od_ ?_
    refine any_nil (by kernel_rfl) ?_
    refine ds_ (sq_ (qa0 [] [] [(3, .int .i64 0)] (ds_ (bk ([]) (.int .i64 0) (qo0 1 [] [4, 7] [(8, .int .i64 0)] (on_ (ds_ (sq_ (qa0 [] [4, 7, 8] [(37, .bool false)] (ds_ (f_ (at_skip (ds_ (sq_ (ma0 [(0, .go (owns 0 0 2)), (1, .go (owns 2 0 2))] [4] (fun _ => [(5, .int .i64 0)]) (fun _ L => (L.set 2 (bx (γ3 1) (#[.slice q337 (n + 1) cq337, .slice (some ⟨g155, 0, none⟩) m m]) 25))) (fun _ => ds_ (bk (owns 2 0 2) (.tuple #[.agg #[.slice q337 (n + 1) cq337, .slice (some ⟨g155, 0, none⟩) m m], .int .i64 0]) (mo0 4 [(5, .go (owns 4 0 2))] [4] (fun _ => [(5, .int .i64 0)]) (fun _ L => (L.set 4 (bx (γ1 2) (#[.slice q337 (n + 1) cq337, .slice (some ⟨g155, 0, none⟩) m m]) 25))) (fun _ => on_ (ds_ (rt (owns 4 0 2) (.tuple #[.agg #[.slice q337 (n + 1) cq337, .slice (some ⟨g155, 0, none⟩) m m], .int .i64 0]) ?_)))))))))))))))))))))
    exact fun w' hw => by rw [createV_ok q5 q314 hg311]; exact ⟨_, _, _, _, _, _, _, _, rfl, hO337, hO306, hw.below, two_tails (Hs.pick [[bx (γ195 0) (#[.slice q337 (n + 1) cq337, .slice (some ⟨g155, 0, none⟩) m m]) 25], [bx g155 ((sets c155 0 (vs.flatMap Enc.enc))) 43], [bx (γ3 1) (#[.slice q337 (n + 1) cq337, .slice (some ⟨g155, 0, none⟩) m m]) 25], [bx (γ3 0) (#[.slice p n cap, .slice q m capv]) 25], [bx (γ1 2) (#[.slice q337 (n + 1) cq337, .slice (some ⟨g155, 0, none⟩) m m]) 25], [bx (γ1 1) (#[.int .i64 d.id, .int .i64 d.weight, .int .i64 d.cap, .int .i64 d.pool]) 32], [bx (γ1 0) (#[.slice p n cap, .slice q m capv]) 25], Y337] [7, 1] [0, 2, 3, 4, 5, 6] (by kernel_rfl) hw)⟩
  ·
   have hp_y311 := pos_getK (guests_iff.1 q5).dr hg311
   have hl_y311 := (List.getElem?_eq_some_iff.1 hp_y311).1
   refine cK (.tuple #[.int .i64 ((posK Dom.id ds d.id : Nat)), .bool true]) Try.call47 (fun w hw => by have := placed_d (some ⟨g75, 0, none⟩) n n ds d.id w (hO303.atN (A := [_, _]) hw) hn (by omega) (guests_iff.1 q5).dr; rw [hasK_some hg311] at this; exact this) ?_
   refine cm 5 [] [0, 1] [(4, .int .i64 ((posK Dom.id ds d.id : Nat))), (5, .bool true)] ([]) (by kernel_rfl) rfl al0 ?_
   refine calm_nil' ?_
   refine ds_ (sq_ (at_block (sq_ (ao_ (qo0 1 [(0, .go (owns 6 0 4))] [0, 1, 4, 5] [(17, .agg #[.int .i64 d.id, .int .i64 d.weight, .int .i64 d.cap, .int .i64 d.pool])] ?_)))))
   rcases q347 : mayB d with _ | _
   ·
    refine cD (.bool false) Try.call45 (fun w hw => by have := may_d d w; rw [q347] at this; exact this) (qo0 2 [] [0, 1, 4, 5] [(16, .bool true)] (on_ (ds_ (t_ (sq_ (qa0 [] [] [(3, .int .i64 2)] (ds_ (bk ([]) (.int .i64 2) (qo0 1 [] [4, 7] [(8, .int .i64 2)] (on_ (ds_ (sq_ (qa0 [] [4, 7, 8] [(37, .bool true)] (ds_ (t_ (sq_ (qa0 [(2, .go (owns 3 0 2))] [4] [(5, .int .i64 2)] (ds_ (bk (owns 3 0 2) (.tuple #[.agg #[.slice none 0 0, .slice none 0 0], .int .i64 2]) (qo0 4 [(5, .go (owns 5 0 2))] [4] [(5, .int .i64 2)] (on_ (ds_ (rt (owns 5 0 2) (.tuple #[.agg #[.slice none 0 0, .slice none 0 0], .int .i64 2]) ?_)))))))))))))))))))))))
    exact fun w' hw => by rw [createV_arg q5 q347]; exact ⟨none, 0, 0, [], none, 0, 0, [], rfl, SlO.nil, SlO.nil, hw.below, hw.sub (List.nil_sublist _)⟩
   ·
    refine cD (.bool true) Try.call45 (fun w hw => by have := may_d d w; rw [q347] at this; exact this) (qo0 2 [] [0, 1, 4, 5] [(16, .bool false)] (on_ (ds_ (f_ (sq_ (qa0 [] [0, 1, 4] [(20, .bool true)] (ds_ (t_ (sq_ (qa0 [] [] [(3, .int .i64 5)] (ds_ (bk ([]) (.int .i64 5) (qo0 1 [] [4, 7] [(8, .int .i64 5)] (on_ (ds_ (sq_ (qa0 [] [4, 7, 8] [(37, .bool true)] (ds_ (t_ (sq_ (qa0 [(2, .go (owns 3 0 2))] [4] [(5, .int .i64 5)] (ds_ (bk (owns 3 0 2) (.tuple #[.agg #[.slice none 0 0, .slice none 0 0], .int .i64 5]) (qo0 4 [(5, .go (owns 5 0 2))] [4] [(5, .int .i64 5)] (on_ (ds_ (rt (owns 5 0 2) (.tuple #[.agg #[.slice none 0 0, .slice none 0 0], .int .i64 5]) ?_)))))))))))))))))))))))))))
    exact fun w' hw => by rw [createV_there q5 q347 hg311]; exact ⟨none, 0, 0, [], none, 0, 0, [], rfl, SlO.nil, SlO.nil, hw.below, hw.sub (List.nil_sublist _)⟩
end Go.Proofs.Ytnoefldpkfpglaa

/-! Domains: Add. -/
namespace Go.Proofs.Ytnoefldpkfpglaa
open Go Go.RowKit

set_option maxRecDepth 100000 in
theorem add_d (p : Option Addr) (n cap : Nat) (ds : List Dom) (q : Option Addr) (m capv : Nat) (vs : List Vcp) (k h s : Int) (w : World)
 (hds : Sv w p ds) (hn : n = ds.length) (hb : n ≤ 1000)
 (hvs : Sv w q vs) (hm : m = vs.length) (hmb : m ≤ 1000)
 : Calls Try.prog 16 #[.agg #[.slice p n cap, .slice q m capv], .int .i64 k, .agg #[.int .u32 h, .int .u32 s]] w fun e w' => ∃ q m capq Y q2 m2 capq2 X, e = .returned (.tuple #[.agg #[.slice q m capq, .slice q2 m2 capq2], .int .i64 (addN ds vs k h s), .int .i64 (addV ds vs k h s).2.2]) ∧ SlO 32 Y q m capq (addV ds vs k h s).1 ∧ SlO 43 X q2 m2 capq2 (addV ds vs k h s).2.1 ∧ Below w.heap.size w w' ∧ Hs w (Y ++ X) w' := by
 refine enter (Hs.start w) Try.func16 rfl Try.ntmps16 rfl (sq_ (ma0 [] [] (fun γ1 => [(3, .pointer (some ⟨γ1 0, 0, none⟩)), (4, .pointer (some ⟨γ1 1, 0, none⟩)), (5, .pointer (some ⟨γ1 2, 0, none⟩)), (6, .pointer (some ⟨γ1 3, 0, none⟩))]) (fun γ1 L => bx (γ1 3) (#[.slice none 0 0, .slice none 0 0]) 25 :: bx (γ1 2) (#[.int .u32 h, .int .u32 s]) 41 :: bx (γ1 1) (#[.int .i64 k]) 3 :: bx (γ1 0) (#[.slice p n cap, .slice q m capv]) 25 :: L) (fun γ1 => ds_ (sq_ (ma0 [(1, .go (owns 0 0 1))] [3, 4, 5, 6] (fun γ2 => [(9, .pointer (some ⟨γ2 0, 0, none⟩))]) (fun γ2 L => bx (γ2 0) (#[.int .i64 0]) 3 :: L) (fun γ2 => ds_ (sq_ (ao_ (qo0 2 [(0, .go (owns 4 0 2))] [6, 9] [(13, .agg #[.slice p n cap, .slice q m capv]), (14, .func (.func 53) #[] #[.pointer (some ⟨γ1 1, 0, none⟩), .pointer (some ⟨γ1 2, 0, none⟩), .pointer (some ⟨γ2 0, 0, none⟩)])] (ops_inline (g := 52) (args := #[.agg #[.slice p n cap, .slice q m capv], .func (.func 53) #[] #[.pointer (some ⟨γ1 1, 0, none⟩), .pointer (some ⟨γ1 2, 0, none⟩), .pointer (some ⟨γ2 0, 0, none⟩)]]) (by kernel_rfl) (by kernel_rfl) (by kernel_rfl) (fun args w => Try.call52 args w) Try.func52 rfl Try.ntmps52 rfl (sq_ (ma0 [] [1] (fun γ4 => [(2, .pointer (some ⟨γ4 0, 0, none⟩)), (4, .pointer (some ⟨γ4 1, 0, none⟩))]) (fun γ4 L => bx (γ4 1) (#[.slice none 0 0, .slice none 0 0]) 25 :: bx (γ4 0) (#[.slice p n cap, .slice q m capv]) 25 :: L) (fun γ4 => ds_ (sq_ (sq_ (ao_ (qo0 1 [(0, .go (owns 1 0 2))] [1, 2, 4] [(9, .agg #[.slice p n cap, .slice q m capv])] ?_)))))))))))))))))
 rcases q6 : guestsB ds vs with _ | _
 ·
  refine cD (.int .i64 190) Try.call10 (fun w hw => by have := gcheck_d p n cap ds q m capv vs w (hds.kept hw.below) hn (by omega) (hvs.kept hw.below) hm (by omega); rw [q6] at this; exact this) (qo0 1 [] [1, 2, 4] [(6, .int .i64 190)] (on_ (ds_ (sq_ (qa0 [] [1, 2, 4, 6] [(12, .bool true)] (ds_ (t_ (sq_ (qa0 [(2, .go (owns 0 0 2))] [4] [(5, .int .i64 190)] (ds_ (bk (owns 0 0 2) (.tuple #[.agg #[.slice none 0 0, .slice none 0 0], .int .i64 190]) (mo0 6 [(7, .go (owns 0 0 2))] [6, 9] (fun γ10 => [(10, .pointer (some ⟨γ10 0, 0, none⟩)), (11, .int .i64 190)]) (fun γ10 L => bx (γ10 0) (#[.slice none 0 0, .slice none 0 0]) 25 :: L) (fun γ10 => on_ (ds_ (sq_ ?_)))))))))))))))
  refine at_any (by kernel_rfl) ?_
  refine tk (m := 5) [2] [] [6, 9, 10] [(20, .int .i64 190)] ([]) #[false, false, true, false, false, false] al0 ?_
  refine any_cut 0 #[true, true, true, true, true, true] ([(6, .pointer (some ⟨γ1 3, 0, none⟩)), (7, .int .i64 0), (8, .int .i64 190)]) ([bx (γ10 0) (#[.slice none 0 0, .slice none 0 0]) 25, bx (γ4 1) (#[.slice none 0 0, .slice none 0 0]) 25, bx (γ4 0) (#[.slice p n cap, .slice q m capv]) 25, bx (γ2 0) (#[.int .i64 0]) 3, bx (γ1 3) (#[.slice none 0 0, .slice none 0 0]) 25, bx (γ1 2) (#[.int .u32 h, .int .u32 s]) 41, bx (γ1 1) (#[.int .i64 k]) 3, bx (γ1 0) (#[.slice p n cap, .slice q m capv]) 25]) ?_ (fun hm => ?_)
  rotate_left
  ·
   refine any_fork [0, 1] (by kernel_rfl) (by simp) (each_cons _ rfl ?_ (each_cons _ rfl ?_ (each_nil)))
   ·
    refine qo0 1 [(0, .go (owns 0 0 2))] [6, 9, 20] [(18, .agg #[.slice none 0 0, .slice none 0 0])] ?_
    refine od_ ?_
    refine any_fork [1, 3] (by kernel_rfl) (by simp) (each_cons _ rfl ?_ (each_cons _ rfl ?_ (each_nil)))
    ·
     refine qo0 1 [(1, .go (owns 3 0 1))] [6, 18, 20] [(19, .int .i64 0)] ?_
     refine od_ ?_
     refine a1 3 rfl ?_
     refine qo0 1 [(3, .go (owns 4 0 2))] [6, 19, 20] [] ?_
     refine od_ ?_
     refine tk (m := 0) [4, 5] [] [6] [(7, .int .i64 0), (8, .int .i64 190)] ([]) #[true, true, true, true, true, true] al0 ?_
     exact any_weak hm [6, 7, 8] (by kernel_rfl) rfl rfl rfl
    ·
     refine qo0 1 [(3, .go (owns 4 0 2))] [6, 9, 20] [] ?_
     refine od_ ?_
     refine a1 1 rfl ?_
     refine qo0 1 [(1, .go (owns 3 0 1))] [6, 20] [(19, .int .i64 0)] ?_
     refine od_ ?_
     refine tk (m := 0) [4, 5] [] [6] [(7, .int .i64 0), (8, .int .i64 190)] ([]) #[true, true, true, true, true, true] al0 ?_
     exact any_weak hm [6, 7, 8] (by kernel_rfl) rfl rfl rfl
   ·
    refine qo0 1 [(1, .go (owns 3 0 1))] [6, 10, 20] [(19, .int .i64 0)] ?_
    refine od_ ?_
    refine a1 0 rfl ?_
    refine qo0 1 [(0, .go (owns 0 0 2))] [6, 19, 20] [(18, .agg #[.slice none 0 0, .slice none 0 0])] ?_
    refine od_ ?_
    refine a1 3 rfl ?_
    refine qo0 1 [(3, .go (owns 4 0 2))] [6, 19, 20] [] ?_
    refine od_ ?_
    refine tk (m := 0) [4, 5] [] [6] [(7, .int .i64 0), (8, .int .i64 190)] ([]) #[true, true, true, true, true, true] al0 ?_
    exact any_weak hm [6, 7, 8] (by kernel_rfl) rfl rfl rfl
  refine any_nil (by kernel_rfl) ?_
  refine ds_ (rt (owns 4 0 2) (.tuple #[.agg #[.slice none 0 0, .slice none 0 0], .int .i64 0, .int .i64 190]) ?_)
  exact fun w' hw => by rw [(addN_no (addV_bad q6) (by decide)), addV_bad q6]; exact ⟨none, 0, 0, [], none, 0, 0, [], rfl, SlO.nil, SlO.nil, hw.below, hw.sub (List.nil_sublist _)⟩
 ·
  refine cD (.int .i64 0) Try.call10 (fun w hw => by have := gcheck_d p n cap ds q m capv vs w (hds.kept hw.below) hn (by omega) (hvs.kept hw.below) hm (by omega); rw [q6] at this; exact this) (qo0 1 [] [1, 2, 4] [(6, .int .i64 0)] (on_ (ds_ (sq_ (qa0 [] [1, 2, 4, 6] [(12, .bool false)] (ds_ (f_ (at_skip (ds_ (sq_ ?_))))))))))
  refine at_any (by kernel_rfl) ?_
  refine tk (m := 9) [0, 4] [] [1, 2, 4] [(15, .pointer (some ⟨γ4 0, 0, none⟩)), (19, .pointer (some ⟨γ4 0, 1, none⟩))] ([]) #[true, false, false, false, true, false, false, false, false, false, false] al0 ?_
  refine any_cutX (V := (Array Value) × (Array Value) × (Nat) × (Nat) × (Nat → Nat)) (fun ⟨c173, c93, g173, g93, γ213⟩ => c173.size = m * 4 ∧ c93.size = n * 4) 0 #[true, true, true, true, true, true, true, true, true, true, true] (fun ⟨c173, c93, g173, g93, γ213⟩ => [(1, .func (.func 53) #[] #[.pointer (some ⟨γ1 1, 0, none⟩), .pointer (some ⟨γ1 2, 0, none⟩), .pointer (some ⟨γ2 0, 0, none⟩)]), (2, .pointer (some ⟨γ4 0, 0, none⟩)), (4, .pointer (some ⟨γ4 1, 0, none⟩)), (7, .pointer (some ⟨γ213 0, 0, none⟩))]) (fun ⟨c173, c93, g173, g93, γ213⟩ => [bx (γ213 0) (#[.slice (some ⟨g93, 0, none⟩) n n, .slice (some ⟨g173, 0, none⟩) m m]) 25, bx g173 c173 43, bx g93 c93 32, bx (γ4 1) (#[.slice none 0 0, .slice none 0 0]) 25, bx (γ4 0) (#[.slice p n cap, .slice q m capv]) 25, bx (γ2 0) (#[.int .i64 0]) 3, bx (γ1 3) (#[.slice none 0 0, .slice none 0 0]) 25, bx (γ1 2) (#[.int .u32 h, .int .u32 s]) 41, bx (γ1 1) (#[.int .i64 k]) 3, bx (γ1 0) (#[.slice p n cap, .slice q m capv]) 25]) ?_ (fun hmx18 => ?_)
  rotate_left
  ·
   refine any_cutX (V := (Array Value) × (Array Value) × (Nat) × (Nat) × (Nat → Nat)) (fun ⟨c173, c93, g173, g93, γ213⟩ => c173.size = m * 4 ∧ c93.size = n * 4) 1 #[true, true, true, true, true, true, true, true, true, true, false] (fun ⟨c173, c93, g173, g93, γ213⟩ => [(1, .func (.func 53) #[] #[.pointer (some ⟨γ1 1, 0, none⟩), .pointer (some ⟨γ1 2, 0, none⟩), .pointer (some ⟨γ2 0, 0, none⟩)]), (2, .pointer (some ⟨γ4 0, 0, none⟩)), (4, .pointer (some ⟨γ4 1, 0, none⟩)), (7, .pointer (some ⟨γ213 0, 0, none⟩)), (23, .agg #[.slice (some ⟨g93, 0, none⟩) n n, .slice (some ⟨g173, 0, none⟩) m m])]) (fun ⟨c173, c93, g173, g93, γ213⟩ => [bx (γ213 0) (#[.slice none 0 0, .slice none 0 0]) 25, bx g173 c173 43, bx g93 c93 32, bx (γ4 1) (#[.slice none 0 0, .slice none 0 0]) 25, bx (γ4 0) (#[.slice p n cap, .slice q m capv]) 25, bx (γ2 0) (#[.int .i64 0]) 3, bx (γ1 3) (#[.slice none 0 0, .slice none 0 0]) 25, bx (γ1 2) (#[.int .u32 h, .int .u32 s]) 41, bx (γ1 1) (#[.int .i64 k]) 3, bx (γ1 0) (#[.slice p n cap, .slice q m capv]) 25]) ?_ (fun hmx17 => ?_)
   ·
    rintro ⟨c173, c93, g173, g93, γ213⟩ ⟨hc173, hc93⟩
    refine a1 10 rfl ?_
    refine mo0 1 [(10, .go (owns 0 0 2))] [1, 2, 4, 7] (fun _ => []) (fun _ L => (L.set 0 (bx (γ213 0) (#[.slice (some ⟨g93, 0, none⟩) n n, .slice (some ⟨g173, 0, none⟩) m m]) 25))) (fun _ => ?_)
    refine od_ ?_
    exact wk (hmx18 (c173, c93, g173, g93, γ213) ⟨hc173, hc93⟩) [1, 2, 4, 7] [[_], [_], [_], [_], [_], [_], [_], [_], [_], [_]] [0, 1, 2, 3, 4, 5, 6, 7, 8, 9] rfl rfl
   refine any_cutX (V := (Array Value) × (Array Value) × (Nat) × (Nat)) (fun ⟨c173, c93, g173, g93⟩ => c173.size = m * 4 ∧ c93.size = n * 4) 2 #[true, true, true, true, true, true, true, true, true, false, false] (fun ⟨c173, c93, g173, g93⟩ => [(1, .func (.func 53) #[] #[.pointer (some ⟨γ1 1, 0, none⟩), .pointer (some ⟨γ1 2, 0, none⟩), .pointer (some ⟨γ2 0, 0, none⟩)]), (2, .pointer (some ⟨γ4 0, 0, none⟩)), (4, .pointer (some ⟨γ4 1, 0, none⟩)), (23, .agg #[.slice (some ⟨g93, 0, none⟩) n n, .slice (some ⟨g173, 0, none⟩) m m])]) (fun ⟨c173, c93, g173, g93⟩ => [bx g173 c173 43, bx g93 c93 32, bx (γ4 1) (#[.slice none 0 0, .slice none 0 0]) 25, bx (γ4 0) (#[.slice p n cap, .slice q m capv]) 25, bx (γ2 0) (#[.int .i64 0]) 3, bx (γ1 3) (#[.slice none 0 0, .slice none 0 0]) 25, bx (γ1 2) (#[.int .u32 h, .int .u32 s]) 41, bx (γ1 1) (#[.int .i64 k]) 3, bx (γ1 0) (#[.slice p n cap, .slice q m capv]) 25]) ?_ (fun hmx16 => ?_)
   ·
    rintro ⟨c173, c93, g173, g93⟩ ⟨hc173, hc93⟩
    refine a1 9 rfl ?_
    refine mo0 1 [] [1, 2, 4, 23] (fun γ213 => [(7, .pointer (some ⟨γ213 0, 0, none⟩))]) (fun γ213 L => bx (γ213 0) (#[.slice none 0 0, .slice none 0 0]) 25 :: L) (fun γ213 => ?_)
    refine od_ ?_
    exact wk (hmx17 (c173, c93, g173, g93, γ213) ⟨hc173, hc93⟩) [1, 2, 4, 7, 23] [[_], [_], [_], [_], [_], [_], [_], [_], [_], [_]] [0, 1, 2, 3, 4, 5, 6, 7, 8, 9] rfl rfl
   refine any_cutX (V := (Array Value) × (Nat) × (Nat → Nat)) (fun ⟨c173, g173, γ213⟩ => c173.size = m * 4) 3 #[true, true, true, false, true, true, true, true, false, true, false] (fun ⟨c173, g173, γ213⟩ => [(1, .func (.func 53) #[] #[.pointer (some ⟨γ1 1, 0, none⟩), .pointer (some ⟨γ1 2, 0, none⟩), .pointer (some ⟨γ2 0, 0, none⟩)]), (2, .pointer (some ⟨γ4 0, 0, none⟩)), (4, .pointer (some ⟨γ4 1, 0, none⟩)), (7, .pointer (some ⟨γ213 0, 0, none⟩)), (17, .int .i64 ((n : Nat))), (22, .slice (some ⟨g173, 0, none⟩) m m)]) (fun ⟨c173, g173, γ213⟩ => [bx (γ213 0) (#[.slice none 0 0, .slice none 0 0]) 25, bx g173 c173 43, bx (γ4 1) (#[.slice none 0 0, .slice none 0 0]) 25, bx (γ4 0) (#[.slice p n cap, .slice q m capv]) 25, bx (γ2 0) (#[.int .i64 0]) 3, bx (γ1 3) (#[.slice none 0 0, .slice none 0 0]) 25, bx (γ1 2) (#[.int .u32 h, .int .u32 s]) 41, bx (γ1 1) (#[.int .i64 k]) 3, bx (γ1 0) (#[.slice p n cap, .slice q m capv]) 25]) ?_ (fun hmx15 => ?_)
   ·
    rintro ⟨c173, g173, γ213⟩ hc173
    refine a1 3 rfl ?_
    refine ops_make (T := 32) (ks := 4) (by_ := 32) (n := n) rfl (by kernel_rfl) (by kernel_rfl) (by kernel_rfl) (by kernel_rfl) (by kernel_rfl) (by omega) (by have hmx : maxLen = 9223372036854775807 := rfl; omega) (fun g93 c93 hc93 => ?_)
    refine od_ ?_
    refine tk (m := 1) [8] [] [1, 2, 4, 7] [(23, .agg #[.slice (some ⟨g93, 0, none⟩) n n, .slice (some ⟨g173, 0, none⟩) m m])] ([]) #[true, true, true, true, true, true, true, true, true, true, false] al0 ?_
    exact wk (hmx17 (c173, c93, g173, g93, γ213) ⟨hc173, hc93⟩) [1, 2, 4, 7, 23] [[_], [_], [_], [_], [_], [_], [_], [_], [_], [_]] [1, 2, 0, 3, 4, 5, 6, 7, 8, 9] rfl rfl
   refine any_cutX (V := (Array Value) × (Nat) × (Nat → Nat)) (fun ⟨c93, g93, γ213⟩ => c93.size = n * 4) 3 #[true, true, true, true, true, true, true, false, false, true, false] (fun ⟨c93, g93, γ213⟩ => [(1, .func (.func 53) #[] #[.pointer (some ⟨γ1 1, 0, none⟩), .pointer (some ⟨γ1 2, 0, none⟩), .pointer (some ⟨γ2 0, 0, none⟩)]), (2, .pointer (some ⟨γ4 0, 0, none⟩)), (4, .pointer (some ⟨γ4 1, 0, none⟩)), (7, .pointer (some ⟨γ213 0, 0, none⟩)), (18, .slice (some ⟨g93, 0, none⟩) n n), (21, .int .i64 ((m : Nat)))]) (fun ⟨c93, g93, γ213⟩ => [bx (γ213 0) (#[.slice none 0 0, .slice none 0 0]) 25, bx g93 c93 32, bx (γ4 1) (#[.slice none 0 0, .slice none 0 0]) 25, bx (γ4 0) (#[.slice p n cap, .slice q m capv]) 25, bx (γ2 0) (#[.int .i64 0]) 3, bx (γ1 3) (#[.slice none 0 0, .slice none 0 0]) 25, bx (γ1 2) (#[.int .u32 h, .int .u32 s]) 41, bx (γ1 1) (#[.int .i64 k]) 3, bx (γ1 0) (#[.slice p n cap, .slice q m capv]) 25]) ?_ (fun hmx14 => ?_)
   ·
    rintro ⟨c93, g93, γ213⟩ hc93
    refine a1 7 rfl ?_
    refine ops_make (T := 43) (ks := 4) (by_ := 24) (n := m) rfl (by kernel_rfl) (by kernel_rfl) (by kernel_rfl) (by kernel_rfl) (by kernel_rfl) (by omega) (by have hmx : maxLen = 9223372036854775807 := rfl; omega) (fun g173 c173 hc173 => ?_)
    refine od_ ?_
    refine tk (m := 1) [8] [] [1, 2, 4, 7] [(23, .agg #[.slice (some ⟨g93, 0, none⟩) n n, .slice (some ⟨g173, 0, none⟩) m m])] ([]) #[true, true, true, true, true, true, true, true, true, true, false] al0 ?_
    exact wk (hmx17 (c173, c93, g173, g93, γ213) ⟨hc173, hc93⟩) [1, 2, 4, 7, 23] [[_], [_], [_], [_], [_], [_], [_], [_], [_], [_]] [1, 0, 2, 3, 4, 5, 6, 7, 8, 9] rfl rfl
   refine any_cutX (V := (Array Value) × (Nat)) (fun ⟨c173, g173⟩ => c173.size = m * 4) 4 #[true, true, true, false, true, true, true, true, false, false, false] (fun ⟨c173, g173⟩ => [(1, .func (.func 53) #[] #[.pointer (some ⟨γ1 1, 0, none⟩), .pointer (some ⟨γ1 2, 0, none⟩), .pointer (some ⟨γ2 0, 0, none⟩)]), (2, .pointer (some ⟨γ4 0, 0, none⟩)), (4, .pointer (some ⟨γ4 1, 0, none⟩)), (17, .int .i64 ((n : Nat))), (22, .slice (some ⟨g173, 0, none⟩) m m)]) (fun ⟨c173, g173⟩ => [bx g173 c173 43, bx (γ4 1) (#[.slice none 0 0, .slice none 0 0]) 25, bx (γ4 0) (#[.slice p n cap, .slice q m capv]) 25, bx (γ2 0) (#[.int .i64 0]) 3, bx (γ1 3) (#[.slice none 0 0, .slice none 0 0]) 25, bx (γ1 2) (#[.int .u32 h, .int .u32 s]) 41, bx (γ1 1) (#[.int .i64 k]) 3, bx (γ1 0) (#[.slice p n cap, .slice q m capv]) 25]) ?_ (fun hmx13 => ?_)
   ·
    rintro ⟨c173, g173⟩ hc173
    refine any_fork [3, 9] (by kernel_rfl) (by simp) (each_cons _ rfl ?_ (each_cons _ rfl ?_ (each_nil)))
    ·
     refine ops_make (T := 32) (ks := 4) (by_ := 32) (n := n) rfl (by kernel_rfl) (by kernel_rfl) (by kernel_rfl) (by kernel_rfl) (by kernel_rfl) (by omega) (by have hmx : maxLen = 9223372036854775807 := rfl; omega) (fun g93 c93 hc93 => ?_)
     refine od_ ?_
     refine tk (m := 2) [8] [] [1, 2, 4] [(23, .agg #[.slice (some ⟨g93, 0, none⟩) n n, .slice (some ⟨g173, 0, none⟩) m m])] ([]) #[true, true, true, true, true, true, true, true, true, false, false] al0 ?_
     exact wk (hmx16 (c173, c93, g173, g93) ⟨hc173, hc93⟩) [1, 2, 4, 23] [[_], [_], [_], [_], [_], [_], [_], [_], [_]] [1, 0, 2, 3, 4, 5, 6, 7, 8] rfl rfl
    ·
     refine mo0 1 [] [1, 2, 4, 17, 22] (fun γ213 => [(7, .pointer (some ⟨γ213 0, 0, none⟩))]) (fun γ213 L => bx (γ213 0) (#[.slice none 0 0, .slice none 0 0]) 25 :: L) (fun γ213 => ?_)
     refine od_ ?_
     exact wk (hmx15 (c173, g173, γ213) hc173) [1, 2, 4, 7, 17, 22] [[_], [_], [_], [_], [_], [_], [_], [_], [_]] [0, 1, 2, 3, 4, 5, 6, 7, 8] rfl rfl
   refine any_cutX (V := (Array Value) × (Nat)) (fun ⟨c93, g93⟩ => c93.size = n * 4) 4 #[true, true, true, true, true, true, true, false, false, false, false] (fun ⟨c93, g93⟩ => [(1, .func (.func 53) #[] #[.pointer (some ⟨γ1 1, 0, none⟩), .pointer (some ⟨γ1 2, 0, none⟩), .pointer (some ⟨γ2 0, 0, none⟩)]), (2, .pointer (some ⟨γ4 0, 0, none⟩)), (4, .pointer (some ⟨γ4 1, 0, none⟩)), (18, .slice (some ⟨g93, 0, none⟩) n n), (21, .int .i64 ((m : Nat)))]) (fun ⟨c93, g93⟩ => [bx g93 c93 32, bx (γ4 1) (#[.slice none 0 0, .slice none 0 0]) 25, bx (γ4 0) (#[.slice p n cap, .slice q m capv]) 25, bx (γ2 0) (#[.int .i64 0]) 3, bx (γ1 3) (#[.slice none 0 0, .slice none 0 0]) 25, bx (γ1 2) (#[.int .u32 h, .int .u32 s]) 41, bx (γ1 1) (#[.int .i64 k]) 3, bx (γ1 0) (#[.slice p n cap, .slice q m capv]) 25]) ?_ (fun hmx12 => ?_)
   ·
    rintro ⟨c93, g93⟩ hc93
    refine any_fork [7, 9] (by kernel_rfl) (by simp) (each_cons _ rfl ?_ (each_cons _ rfl ?_ (each_nil)))
    ·
     refine ops_make (T := 43) (ks := 4) (by_ := 24) (n := m) rfl (by kernel_rfl) (by kernel_rfl) (by kernel_rfl) (by kernel_rfl) (by kernel_rfl) (by omega) (by have hmx : maxLen = 9223372036854775807 := rfl; omega) (fun g173 c173 hc173 => ?_)
     refine od_ ?_
     refine tk (m := 2) [8] [] [1, 2, 4] [(23, .agg #[.slice (some ⟨g93, 0, none⟩) n n, .slice (some ⟨g173, 0, none⟩) m m])] ([]) #[true, true, true, true, true, true, true, true, true, false, false] al0 ?_
     exact wk (hmx16 (c173, c93, g173, g93) ⟨hc173, hc93⟩) [1, 2, 4, 23] [[_], [_], [_], [_], [_], [_], [_], [_], [_]] [0, 1, 2, 3, 4, 5, 6, 7, 8] rfl rfl
    ·
     refine mo0 1 [] [1, 2, 4, 18, 21] (fun γ213 => [(7, .pointer (some ⟨γ213 0, 0, none⟩))]) (fun γ213 L => bx (γ213 0) (#[.slice none 0 0, .slice none 0 0]) 25 :: L) (fun γ213 => ?_)
     refine od_ ?_
     exact wk (hmx14 (c93, g93, γ213) hc93) [1, 2, 4, 7, 18, 21] [[_], [_], [_], [_], [_], [_], [_], [_], [_]] [0, 1, 2, 3, 4, 5, 6, 7, 8] rfl rfl
   refine any_cutX (V := (Nat → Nat)) (fun γ213 => True) 4 #[true, true, true, false, true, true, true, false, false, true, false] (fun γ213 => [(1, .func (.func 53) #[] #[.pointer (some ⟨γ1 1, 0, none⟩), .pointer (some ⟨γ1 2, 0, none⟩), .pointer (some ⟨γ2 0, 0, none⟩)]), (2, .pointer (some ⟨γ4 0, 0, none⟩)), (4, .pointer (some ⟨γ4 1, 0, none⟩)), (7, .pointer (some ⟨γ213 0, 0, none⟩)), (17, .int .i64 ((n : Nat))), (21, .int .i64 ((m : Nat)))]) (fun γ213 => [bx (γ213 0) (#[.slice none 0 0, .slice none 0 0]) 25, bx (γ4 1) (#[.slice none 0 0, .slice none 0 0]) 25, bx (γ4 0) (#[.slice p n cap, .slice q m capv]) 25, bx (γ2 0) (#[.int .i64 0]) 3, bx (γ1 3) (#[.slice none 0 0, .slice none 0 0]) 25, bx (γ1 2) (#[.int .u32 h, .int .u32 s]) 41, bx (γ1 1) (#[.int .i64 k]) 3, bx (γ1 0) (#[.slice p n cap, .slice q m capv]) 25]) ?_ (fun hmx11 => ?_)
   ·
    rintro γ213 _
    refine any_fork [3, 7] (by kernel_rfl) (by simp) (each_cons _ rfl ?_ (each_cons _ rfl ?_ (each_nil)))
    ·
     refine ops_make (T := 32) (ks := 4) (by_ := 32) (n := n) rfl (by kernel_rfl) (by kernel_rfl) (by kernel_rfl) (by kernel_rfl) (by kernel_rfl) (by omega) (by have hmx : maxLen = 9223372036854775807 := rfl; omega) (fun g93 c93 hc93 => ?_)
     refine od_ ?_
     exact wk (hmx14 (c93, g93, γ213) hc93) [1, 2, 4, 7, 18, 21] [[_], [_], [_], [_], [_], [_], [_], [_], [_]] [1, 0, 2, 3, 4, 5, 6, 7, 8] rfl rfl
    ·
     refine ops_make (T := 43) (ks := 4) (by_ := 24) (n := m) rfl (by kernel_rfl) (by kernel_rfl) (by kernel_rfl) (by kernel_rfl) (by kernel_rfl) (by omega) (by have hmx : maxLen = 9223372036854775807 := rfl; omega) (fun g173 c173 hc173 => ?_)
     refine od_ ?_
     exact wk (hmx15 (c173, g173, γ213) hc173) [1, 2, 4, 7, 17, 22] [[_], [_], [_], [_], [_], [_], [_], [_], [_]] [1, 0, 2, 3, 4, 5, 6, 7, 8] rfl rfl
   refine any_cutX (V := (Array Value) × (Nat) × (Nat → Nat)) (fun ⟨c173, g173, γ213⟩ => c173.size = m * 4) 5 #[true, false, false, false, true, true, true, true, false, true, false] (fun ⟨c173, g173, γ213⟩ => [(1, .func (.func 53) #[] #[.pointer (some ⟨γ1 1, 0, none⟩), .pointer (some ⟨γ1 2, 0, none⟩), .pointer (some ⟨γ2 0, 0, none⟩)]), (2, .pointer (some ⟨γ4 0, 0, none⟩)), (4, .pointer (some ⟨γ4 1, 0, none⟩)), (7, .pointer (some ⟨γ213 0, 0, none⟩)), (15, .pointer (some ⟨γ4 0, 0, none⟩)), (22, .slice (some ⟨g173, 0, none⟩) m m)]) (fun ⟨c173, g173, γ213⟩ => [bx (γ213 0) (#[.slice none 0 0, .slice none 0 0]) 25, bx g173 c173 43, bx (γ4 1) (#[.slice none 0 0, .slice none 0 0]) 25, bx (γ4 0) (#[.slice p n cap, .slice q m capv]) 25, bx (γ2 0) (#[.int .i64 0]) 3, bx (γ1 3) (#[.slice none 0 0, .slice none 0 0]) 25, bx (γ1 2) (#[.int .u32 h, .int .u32 s]) 41, bx (γ1 1) (#[.int .i64 k]) 3, bx (γ1 0) (#[.slice p n cap, .slice q m capv]) 25]) ?_ (fun hmx10 => ?_)
   ·
    rintro ⟨c173, g173, γ213⟩ hc173
    refine a1 1 rfl ?_
    refine qo0 1 [(1, .go (owns 3 0 1))] [1, 2, 4, 7, 22] [(16, .slice p n cap)] ?_
    refine od_ ?_
    refine tk (m := 3) [2] [] [1, 2, 4, 7, 22] [(17, .int .i64 ((n : Nat)))] ([]) #[true, true, true, false, true, true, true, true, false, true, false] al0 ?_
    exact wk (hmx15 (c173, g173, γ213) hc173) [1, 2, 4, 7, 17, 22] [[_], [_], [_], [_], [_], [_], [_], [_], [_]] [0, 1, 2, 3, 4, 5, 6, 7, 8] rfl rfl
   refine any_cutX (V := (Array Value) × (Nat) × (Nat → Nat)) (fun ⟨c93, g93, γ213⟩ => c93.size = n * 4) 5 #[true, true, true, true, true, false, false, false, false, true, false] (fun ⟨c93, g93, γ213⟩ => [(1, .func (.func 53) #[] #[.pointer (some ⟨γ1 1, 0, none⟩), .pointer (some ⟨γ1 2, 0, none⟩), .pointer (some ⟨γ2 0, 0, none⟩)]), (2, .pointer (some ⟨γ4 0, 0, none⟩)), (4, .pointer (some ⟨γ4 1, 0, none⟩)), (7, .pointer (some ⟨γ213 0, 0, none⟩)), (18, .slice (some ⟨g93, 0, none⟩) n n), (19, .pointer (some ⟨γ4 0, 1, none⟩))]) (fun ⟨c93, g93, γ213⟩ => [bx (γ213 0) (#[.slice none 0 0, .slice none 0 0]) 25, bx g93 c93 32, bx (γ4 1) (#[.slice none 0 0, .slice none 0 0]) 25, bx (γ4 0) (#[.slice p n cap, .slice q m capv]) 25, bx (γ2 0) (#[.int .i64 0]) 3, bx (γ1 3) (#[.slice none 0 0, .slice none 0 0]) 25, bx (γ1 2) (#[.int .u32 h, .int .u32 s]) 41, bx (γ1 1) (#[.int .i64 k]) 3, bx (γ1 0) (#[.slice p n cap, .slice q m capv]) 25]) ?_ (fun hmx9 => ?_)
   ·
    rintro ⟨c93, g93, γ213⟩ hc93
    refine a1 5 rfl ?_
    refine qo0 1 [(5, .go (owns 3 1 1))] [1, 2, 4, 7, 18] [(20, .slice q m capv)] ?_
    refine od_ ?_
    refine tk (m := 3) [6] [] [1, 2, 4, 7, 18] [(21, .int .i64 ((m : Nat)))] ([]) #[true, true, true, true, true, true, true, false, false, true, false] al0 ?_
    exact wk (hmx14 (c93, g93, γ213) hc93) [1, 2, 4, 7, 18, 21] [[_], [_], [_], [_], [_], [_], [_], [_], [_]] [0, 1, 2, 3, 4, 5, 6, 7, 8] rfl rfl
   refine any_cutX (V := Unit) (fun _ => True) 5 #[true, true, true, false, true, true, true, false, false, false, false] (fun _ => [(1, .func (.func 53) #[] #[.pointer (some ⟨γ1 1, 0, none⟩), .pointer (some ⟨γ1 2, 0, none⟩), .pointer (some ⟨γ2 0, 0, none⟩)]), (2, .pointer (some ⟨γ4 0, 0, none⟩)), (4, .pointer (some ⟨γ4 1, 0, none⟩)), (17, .int .i64 ((n : Nat))), (21, .int .i64 ((m : Nat)))]) (fun _ => [bx (γ4 1) (#[.slice none 0 0, .slice none 0 0]) 25, bx (γ4 0) (#[.slice p n cap, .slice q m capv]) 25, bx (γ2 0) (#[.int .i64 0]) 3, bx (γ1 3) (#[.slice none 0 0, .slice none 0 0]) 25, bx (γ1 2) (#[.int .u32 h, .int .u32 s]) 41, bx (γ1 1) (#[.int .i64 k]) 3, bx (γ1 0) (#[.slice p n cap, .slice q m capv]) 25]) ?_ (fun hmx8 => ?_)
   ·
    rintro _ _
    refine any_fork [3, 7, 9] (by kernel_rfl) (by simp) (each_cons _ rfl ?_ (each_cons _ rfl ?_ (each_cons _ rfl ?_ (each_nil))))
    ·
     refine ops_make (T := 32) (ks := 4) (by_ := 32) (n := n) rfl (by kernel_rfl) (by kernel_rfl) (by kernel_rfl) (by kernel_rfl) (by kernel_rfl) (by omega) (by have hmx : maxLen = 9223372036854775807 := rfl; omega) (fun g93 c93 hc93 => ?_)
     refine od_ ?_
     exact wk (hmx12 (c93, g93) hc93) [1, 2, 4, 18, 21] [[_], [_], [_], [_], [_], [_], [_], [_]] [0, 1, 2, 3, 4, 5, 6, 7] rfl rfl
    ·
     refine ops_make (T := 43) (ks := 4) (by_ := 24) (n := m) rfl (by kernel_rfl) (by kernel_rfl) (by kernel_rfl) (by kernel_rfl) (by kernel_rfl) (by omega) (by have hmx : maxLen = 9223372036854775807 := rfl; omega) (fun g173 c173 hc173 => ?_)
     refine od_ ?_
     exact wk (hmx13 (c173, g173) hc173) [1, 2, 4, 17, 22] [[_], [_], [_], [_], [_], [_], [_], [_]] [0, 1, 2, 3, 4, 5, 6, 7] rfl rfl
    ·
     refine mo0 1 [] [1, 2, 4, 17, 21] (fun γ213 => [(7, .pointer (some ⟨γ213 0, 0, none⟩))]) (fun γ213 L => bx (γ213 0) (#[.slice none 0 0, .slice none 0 0]) 25 :: L) (fun γ213 => ?_)
     refine od_ ?_
     exact wk (hmx11 γ213 trivial) [1, 2, 4, 7, 17, 21] [[_], [_], [_], [_], [_], [_], [_], [_]] [0, 1, 2, 3, 4, 5, 6, 7] rfl rfl
   refine any_cutX (V := (Array Value) × (Nat)) (fun ⟨c173, g173⟩ => c173.size = m * 4) 6 #[true, false, false, false, true, true, true, true, false, false, false] (fun ⟨c173, g173⟩ => [(1, .func (.func 53) #[] #[.pointer (some ⟨γ1 1, 0, none⟩), .pointer (some ⟨γ1 2, 0, none⟩), .pointer (some ⟨γ2 0, 0, none⟩)]), (2, .pointer (some ⟨γ4 0, 0, none⟩)), (4, .pointer (some ⟨γ4 1, 0, none⟩)), (15, .pointer (some ⟨γ4 0, 0, none⟩)), (22, .slice (some ⟨g173, 0, none⟩) m m)]) (fun ⟨c173, g173⟩ => [bx g173 c173 43, bx (γ4 1) (#[.slice none 0 0, .slice none 0 0]) 25, bx (γ4 0) (#[.slice p n cap, .slice q m capv]) 25, bx (γ2 0) (#[.int .i64 0]) 3, bx (γ1 3) (#[.slice none 0 0, .slice none 0 0]) 25, bx (γ1 2) (#[.int .u32 h, .int .u32 s]) 41, bx (γ1 1) (#[.int .i64 k]) 3, bx (γ1 0) (#[.slice p n cap, .slice q m capv]) 25]) ?_ (fun hmx7 => ?_)
   ·
    rintro ⟨c173, g173⟩ hc173
    refine any_fork [1, 9] (by kernel_rfl) (by simp) (each_cons _ rfl ?_ (each_cons _ rfl ?_ (each_nil)))
    ·
     refine qo0 1 [(1, .go (owns 2 0 1))] [1, 2, 4, 22] [(16, .slice p n cap)] ?_
     refine od_ ?_
     refine tk (m := 4) [2] [] [1, 2, 4, 22] [(17, .int .i64 ((n : Nat)))] ([]) #[true, true, true, false, true, true, true, true, false, false, false] al0 ?_
     exact wk (hmx13 (c173, g173) hc173) [1, 2, 4, 17, 22] [[_], [_], [_], [_], [_], [_], [_], [_]] [0, 1, 2, 3, 4, 5, 6, 7] rfl rfl
    ·
     refine mo0 1 [] [1, 2, 4, 15, 22] (fun γ213 => [(7, .pointer (some ⟨γ213 0, 0, none⟩))]) (fun γ213 L => bx (γ213 0) (#[.slice none 0 0, .slice none 0 0]) 25 :: L) (fun γ213 => ?_)
     refine od_ ?_
     exact wk (hmx10 (c173, g173, γ213) hc173) [1, 2, 4, 7, 15, 22] [[_], [_], [_], [_], [_], [_], [_], [_], [_]] [0, 1, 2, 3, 4, 5, 6, 7, 8] rfl rfl
   refine any_cutX (V := (Array Value) × (Nat)) (fun ⟨c93, g93⟩ => c93.size = n * 4) 6 #[true, true, true, true, true, false, false, false, false, false, false] (fun ⟨c93, g93⟩ => [(1, .func (.func 53) #[] #[.pointer (some ⟨γ1 1, 0, none⟩), .pointer (some ⟨γ1 2, 0, none⟩), .pointer (some ⟨γ2 0, 0, none⟩)]), (2, .pointer (some ⟨γ4 0, 0, none⟩)), (4, .pointer (some ⟨γ4 1, 0, none⟩)), (18, .slice (some ⟨g93, 0, none⟩) n n), (19, .pointer (some ⟨γ4 0, 1, none⟩))]) (fun ⟨c93, g93⟩ => [bx g93 c93 32, bx (γ4 1) (#[.slice none 0 0, .slice none 0 0]) 25, bx (γ4 0) (#[.slice p n cap, .slice q m capv]) 25, bx (γ2 0) (#[.int .i64 0]) 3, bx (γ1 3) (#[.slice none 0 0, .slice none 0 0]) 25, bx (γ1 2) (#[.int .u32 h, .int .u32 s]) 41, bx (γ1 1) (#[.int .i64 k]) 3, bx (γ1 0) (#[.slice p n cap, .slice q m capv]) 25]) ?_ (fun hmx6 => ?_)
   ·
    rintro ⟨c93, g93⟩ hc93
    refine any_fork [5, 9] (by kernel_rfl) (by simp) (each_cons _ rfl ?_ (each_cons _ rfl ?_ (each_nil)))
    ·
     refine qo0 1 [(5, .go (owns 2 1 1))] [1, 2, 4, 18] [(20, .slice q m capv)] ?_
     refine od_ ?_
     refine tk (m := 4) [6] [] [1, 2, 4, 18] [(21, .int .i64 ((m : Nat)))] ([]) #[true, true, true, true, true, true, true, false, false, false, false] al0 ?_
     exact wk (hmx12 (c93, g93) hc93) [1, 2, 4, 18, 21] [[_], [_], [_], [_], [_], [_], [_], [_]] [0, 1, 2, 3, 4, 5, 6, 7] rfl rfl
    ·
     refine mo0 1 [] [1, 2, 4, 18, 19] (fun γ213 => [(7, .pointer (some ⟨γ213 0, 0, none⟩))]) (fun γ213 L => bx (γ213 0) (#[.slice none 0 0, .slice none 0 0]) 25 :: L) (fun γ213 => ?_)
     refine od_ ?_
     exact wk (hmx9 (c93, g93, γ213) hc93) [1, 2, 4, 7, 18, 19] [[_], [_], [_], [_], [_], [_], [_], [_], [_]] [0, 1, 2, 3, 4, 5, 6, 7, 8] rfl rfl
   refine any_cutX (V := (Nat → Nat)) (fun γ213 => True) 6 #[true, false, false, false, true, true, true, false, false, true, false] (fun γ213 => [(1, .func (.func 53) #[] #[.pointer (some ⟨γ1 1, 0, none⟩), .pointer (some ⟨γ1 2, 0, none⟩), .pointer (some ⟨γ2 0, 0, none⟩)]), (2, .pointer (some ⟨γ4 0, 0, none⟩)), (4, .pointer (some ⟨γ4 1, 0, none⟩)), (7, .pointer (some ⟨γ213 0, 0, none⟩)), (15, .pointer (some ⟨γ4 0, 0, none⟩)), (21, .int .i64 ((m : Nat)))]) (fun γ213 => [bx (γ213 0) (#[.slice none 0 0, .slice none 0 0]) 25, bx (γ4 1) (#[.slice none 0 0, .slice none 0 0]) 25, bx (γ4 0) (#[.slice p n cap, .slice q m capv]) 25, bx (γ2 0) (#[.int .i64 0]) 3, bx (γ1 3) (#[.slice none 0 0, .slice none 0 0]) 25, bx (γ1 2) (#[.int .u32 h, .int .u32 s]) 41, bx (γ1 1) (#[.int .i64 k]) 3, bx (γ1 0) (#[.slice p n cap, .slice q m capv]) 25]) ?_ (fun hmx5 => ?_)
   ·
    rintro γ213 _
    refine any_fork [1, 7] (by kernel_rfl) (by simp) (each_cons _ rfl ?_ (each_cons _ rfl ?_ (each_nil)))
    ·
     refine qo0 1 [(1, .go (owns 2 0 1))] [1, 2, 4, 7, 21] [(16, .slice p n cap)] ?_
     refine od_ ?_
     refine tk (m := 4) [2] [] [1, 2, 4, 7, 21] [(17, .int .i64 ((n : Nat)))] ([]) #[true, true, true, false, true, true, true, false, false, true, false] al0 ?_
     exact wk (hmx11 γ213 trivial) [1, 2, 4, 7, 17, 21] [[_], [_], [_], [_], [_], [_], [_], [_]] [0, 1, 2, 3, 4, 5, 6, 7] rfl rfl
    ·
     refine ops_make (T := 43) (ks := 4) (by_ := 24) (n := m) rfl (by kernel_rfl) (by kernel_rfl) (by kernel_rfl) (by kernel_rfl) (by kernel_rfl) (by omega) (by have hmx : maxLen = 9223372036854775807 := rfl; omega) (fun g173 c173 hc173 => ?_)
     refine od_ ?_
     exact wk (hmx10 (c173, g173, γ213) hc173) [1, 2, 4, 7, 15, 22] [[_], [_], [_], [_], [_], [_], [_], [_], [_]] [1, 0, 2, 3, 4, 5, 6, 7, 8] rfl rfl
   refine any_cutX (V := (Nat → Nat)) (fun γ213 => True) 6 #[true, true, true, false, true, false, false, false, false, true, false] (fun γ213 => [(1, .func (.func 53) #[] #[.pointer (some ⟨γ1 1, 0, none⟩), .pointer (some ⟨γ1 2, 0, none⟩), .pointer (some ⟨γ2 0, 0, none⟩)]), (2, .pointer (some ⟨γ4 0, 0, none⟩)), (4, .pointer (some ⟨γ4 1, 0, none⟩)), (7, .pointer (some ⟨γ213 0, 0, none⟩)), (17, .int .i64 ((n : Nat))), (19, .pointer (some ⟨γ4 0, 1, none⟩))]) (fun γ213 => [bx (γ213 0) (#[.slice none 0 0, .slice none 0 0]) 25, bx (γ4 1) (#[.slice none 0 0, .slice none 0 0]) 25, bx (γ4 0) (#[.slice p n cap, .slice q m capv]) 25, bx (γ2 0) (#[.int .i64 0]) 3, bx (γ1 3) (#[.slice none 0 0, .slice none 0 0]) 25, bx (γ1 2) (#[.int .u32 h, .int .u32 s]) 41, bx (γ1 1) (#[.int .i64 k]) 3, bx (γ1 0) (#[.slice p n cap, .slice q m capv]) 25]) ?_ (fun hmx4 => ?_)
   ·
    rintro γ213 _
    refine any_fork [3, 5] (by kernel_rfl) (by simp) (each_cons _ rfl ?_ (each_cons _ rfl ?_ (each_nil)))
    ·
     refine ops_make (T := 32) (ks := 4) (by_ := 32) (n := n) rfl (by kernel_rfl) (by kernel_rfl) (by kernel_rfl) (by kernel_rfl) (by kernel_rfl) (by omega) (by have hmx : maxLen = 9223372036854775807 := rfl; omega) (fun g93 c93 hc93 => ?_)
     refine od_ ?_
     exact wk (hmx9 (c93, g93, γ213) hc93) [1, 2, 4, 7, 18, 19] [[_], [_], [_], [_], [_], [_], [_], [_], [_]] [1, 0, 2, 3, 4, 5, 6, 7, 8] rfl rfl
    ·
     refine qo0 1 [(5, .go (owns 2 1 1))] [1, 2, 4, 7, 17] [(20, .slice q m capv)] ?_
     refine od_ ?_
     refine tk (m := 4) [6] [] [1, 2, 4, 7, 17] [(21, .int .i64 ((m : Nat)))] ([]) #[true, true, true, false, true, true, true, false, false, true, false] al0 ?_
     exact wk (hmx11 γ213 trivial) [1, 2, 4, 7, 17, 21] [[_], [_], [_], [_], [_], [_], [_], [_]] [0, 1, 2, 3, 4, 5, 6, 7] rfl rfl
   refine any_cutX (V := Unit) (fun _ => True) 7 #[true, false, false, false, true, true, true, false, false, false, false] (fun _ => [(1, .func (.func 53) #[] #[.pointer (some ⟨γ1 1, 0, none⟩), .pointer (some ⟨γ1 2, 0, none⟩), .pointer (some ⟨γ2 0, 0, none⟩)]), (2, .pointer (some ⟨γ4 0, 0, none⟩)), (4, .pointer (some ⟨γ4 1, 0, none⟩)), (15, .pointer (some ⟨γ4 0, 0, none⟩)), (21, .int .i64 ((m : Nat)))]) (fun _ => [bx (γ4 1) (#[.slice none 0 0, .slice none 0 0]) 25, bx (γ4 0) (#[.slice p n cap, .slice q m capv]) 25, bx (γ2 0) (#[.int .i64 0]) 3, bx (γ1 3) (#[.slice none 0 0, .slice none 0 0]) 25, bx (γ1 2) (#[.int .u32 h, .int .u32 s]) 41, bx (γ1 1) (#[.int .i64 k]) 3, bx (γ1 0) (#[.slice p n cap, .slice q m capv]) 25]) ?_ (fun hmx3 => ?_)
   ·
    rintro _ _
    refine any_fork [1, 7, 9] (by kernel_rfl) (by simp) (each_cons _ rfl ?_ (each_cons _ rfl ?_ (each_cons _ rfl ?_ (each_nil))))
    ·
     refine qo0 1 [(1, .go (owns 1 0 1))] [1, 2, 4, 21] [(16, .slice p n cap)] ?_
     refine od_ ?_
     refine tk (m := 5) [2] [] [1, 2, 4, 21] [(17, .int .i64 ((n : Nat)))] ([]) #[true, true, true, false, true, true, true, false, false, false, false] al0 ?_
     exact wk (hmx8 () trivial) [1, 2, 4, 17, 21] [[_], [_], [_], [_], [_], [_], [_]] [0, 1, 2, 3, 4, 5, 6] rfl rfl
    ·
     refine ops_make (T := 43) (ks := 4) (by_ := 24) (n := m) rfl (by kernel_rfl) (by kernel_rfl) (by kernel_rfl) (by kernel_rfl) (by kernel_rfl) (by omega) (by have hmx : maxLen = 9223372036854775807 := rfl; omega) (fun g173 c173 hc173 => ?_)
     refine od_ ?_
     exact wk (hmx7 (c173, g173) hc173) [1, 2, 4, 15, 22] [[_], [_], [_], [_], [_], [_], [_], [_]] [0, 1, 2, 3, 4, 5, 6, 7] rfl rfl
    ·
     refine mo0 1 [] [1, 2, 4, 15, 21] (fun γ213 => [(7, .pointer (some ⟨γ213 0, 0, none⟩))]) (fun γ213 L => bx (γ213 0) (#[.slice none 0 0, .slice none 0 0]) 25 :: L) (fun γ213 => ?_)
     refine od_ ?_
     exact wk (hmx5 γ213 trivial) [1, 2, 4, 7, 15, 21] [[_], [_], [_], [_], [_], [_], [_], [_]] [0, 1, 2, 3, 4, 5, 6, 7] rfl rfl
   refine any_cutX (V := Unit) (fun _ => True) 7 #[true, true, true, false, true, false, false, false, false, false, false] (fun _ => [(1, .func (.func 53) #[] #[.pointer (some ⟨γ1 1, 0, none⟩), .pointer (some ⟨γ1 2, 0, none⟩), .pointer (some ⟨γ2 0, 0, none⟩)]), (2, .pointer (some ⟨γ4 0, 0, none⟩)), (4, .pointer (some ⟨γ4 1, 0, none⟩)), (17, .int .i64 ((n : Nat))), (19, .pointer (some ⟨γ4 0, 1, none⟩))]) (fun _ => [bx (γ4 1) (#[.slice none 0 0, .slice none 0 0]) 25, bx (γ4 0) (#[.slice p n cap, .slice q m capv]) 25, bx (γ2 0) (#[.int .i64 0]) 3, bx (γ1 3) (#[.slice none 0 0, .slice none 0 0]) 25, bx (γ1 2) (#[.int .u32 h, .int .u32 s]) 41, bx (γ1 1) (#[.int .i64 k]) 3, bx (γ1 0) (#[.slice p n cap, .slice q m capv]) 25]) ?_ (fun hmx2 => ?_)
   ·
    rintro _ _
    refine any_fork [3, 5, 9] (by kernel_rfl) (by simp) (each_cons _ rfl ?_ (each_cons _ rfl ?_ (each_cons _ rfl ?_ (each_nil))))
    ·
     refine ops_make (T := 32) (ks := 4) (by_ := 32) (n := n) rfl (by kernel_rfl) (by kernel_rfl) (by kernel_rfl) (by kernel_rfl) (by kernel_rfl) (by omega) (by have hmx : maxLen = 9223372036854775807 := rfl; omega) (fun g93 c93 hc93 => ?_)
     refine od_ ?_
     exact wk (hmx6 (c93, g93) hc93) [1, 2, 4, 18, 19] [[_], [_], [_], [_], [_], [_], [_], [_]] [0, 1, 2, 3, 4, 5, 6, 7] rfl rfl
    ·
     refine qo0 1 [(5, .go (owns 1 1 1))] [1, 2, 4, 17] [(20, .slice q m capv)] ?_
     refine od_ ?_
     refine tk (m := 5) [6] [] [1, 2, 4, 17] [(21, .int .i64 ((m : Nat)))] ([]) #[true, true, true, false, true, true, true, false, false, false, false] al0 ?_
     exact wk (hmx8 () trivial) [1, 2, 4, 17, 21] [[_], [_], [_], [_], [_], [_], [_]] [0, 1, 2, 3, 4, 5, 6] rfl rfl
    ·
     refine mo0 1 [] [1, 2, 4, 17, 19] (fun γ213 => [(7, .pointer (some ⟨γ213 0, 0, none⟩))]) (fun γ213 L => bx (γ213 0) (#[.slice none 0 0, .slice none 0 0]) 25 :: L) (fun γ213 => ?_)
     refine od_ ?_
     exact wk (hmx4 γ213 trivial) [1, 2, 4, 7, 17, 19] [[_], [_], [_], [_], [_], [_], [_], [_]] [0, 1, 2, 3, 4, 5, 6, 7] rfl rfl
   refine any_cutX (V := (Nat → Nat)) (fun γ213 => True) 8 #[true, false, false, false, true, false, false, false, false, true, false] (fun γ213 => [(1, .func (.func 53) #[] #[.pointer (some ⟨γ1 1, 0, none⟩), .pointer (some ⟨γ1 2, 0, none⟩), .pointer (some ⟨γ2 0, 0, none⟩)]), (2, .pointer (some ⟨γ4 0, 0, none⟩)), (4, .pointer (some ⟨γ4 1, 0, none⟩)), (7, .pointer (some ⟨γ213 0, 0, none⟩)), (15, .pointer (some ⟨γ4 0, 0, none⟩)), (19, .pointer (some ⟨γ4 0, 1, none⟩))]) (fun γ213 => [bx (γ213 0) (#[.slice none 0 0, .slice none 0 0]) 25, bx (γ4 1) (#[.slice none 0 0, .slice none 0 0]) 25, bx (γ4 0) (#[.slice p n cap, .slice q m capv]) 25, bx (γ2 0) (#[.int .i64 0]) 3, bx (γ1 3) (#[.slice none 0 0, .slice none 0 0]) 25, bx (γ1 2) (#[.int .u32 h, .int .u32 s]) 41, bx (γ1 1) (#[.int .i64 k]) 3, bx (γ1 0) (#[.slice p n cap, .slice q m capv]) 25]) ?_ (fun hmx1 => ?_)
   ·
    rintro γ213 _
    refine any_fork [1, 5] (by kernel_rfl) (by simp) (each_cons _ rfl ?_ (each_cons _ rfl ?_ (each_nil)))
    ·
     refine qo0 1 [(1, .go (owns 2 0 1))] [1, 2, 4, 7, 19] [(16, .slice p n cap)] ?_
     refine od_ ?_
     refine tk (m := 6) [2] [] [1, 2, 4, 7, 19] [(17, .int .i64 ((n : Nat)))] ([]) #[true, true, true, false, true, false, false, false, false, true, false] al0 ?_
     exact wk (hmx4 γ213 trivial) [1, 2, 4, 7, 17, 19] [[_], [_], [_], [_], [_], [_], [_], [_]] [0, 1, 2, 3, 4, 5, 6, 7] rfl rfl
    ·
     refine qo0 1 [(5, .go (owns 2 1 1))] [1, 2, 4, 7, 15] [(20, .slice q m capv)] ?_
     refine od_ ?_
     refine tk (m := 6) [6] [] [1, 2, 4, 7, 15] [(21, .int .i64 ((m : Nat)))] ([]) #[true, false, false, false, true, true, true, false, false, true, false] al0 ?_
     exact wk (hmx5 γ213 trivial) [1, 2, 4, 7, 15, 21] [[_], [_], [_], [_], [_], [_], [_], [_]] [0, 1, 2, 3, 4, 5, 6, 7] rfl rfl
   refine any_fork [1, 5, 9] (by kernel_rfl) (by simp) (each_cons _ rfl ?_ (each_cons _ rfl ?_ (each_cons _ rfl ?_ (each_nil))))
   ·
    refine qo0 1 [(1, .go (owns 1 0 1))] [1, 2, 4, 19] [(16, .slice p n cap)] ?_
    refine od_ ?_
    refine tk (m := 7) [2] [] [1, 2, 4, 19] [(17, .int .i64 ((n : Nat)))] ([]) #[true, true, true, false, true, false, false, false, false, false, false] al0 ?_
    exact wk (hmx2 () trivial) [1, 2, 4, 17, 19] [[_], [_], [_], [_], [_], [_], [_]] [0, 1, 2, 3, 4, 5, 6] rfl rfl
   ·
    refine qo0 1 [(5, .go (owns 1 1 1))] [1, 2, 4, 15] [(20, .slice q m capv)] ?_
    refine od_ ?_
    refine tk (m := 7) [6] [] [1, 2, 4, 15] [(21, .int .i64 ((m : Nat)))] ([]) #[true, false, false, false, true, true, true, false, false, false, false] al0 ?_
    exact wk (hmx3 () trivial) [1, 2, 4, 15, 21] [[_], [_], [_], [_], [_], [_], [_]] [0, 1, 2, 3, 4, 5, 6] rfl rfl
   ·
    refine mo0 1 [] [1, 2, 4, 15, 19] (fun γ213 => [(7, .pointer (some ⟨γ213 0, 0, none⟩))]) (fun γ213 L => bx (γ213 0) (#[.slice none 0 0, .slice none 0 0]) 25 :: L) (fun γ213 => ?_)
    refine od_ ?_
    exact wk (hmx1 γ213 trivial) [1, 2, 4, 7, 15, 19] [[_], [_], [_], [_], [_], [_], [_], [_]] [0, 1, 2, 3, 4, 5, 6, 7] rfl rfl
  rintro ⟨c173, c93, g173, g93, γ213⟩ ⟨hc173, hc93⟩
  refine any_nil (by kernel_rfl) ?_
  refine ds_ (sq_ (ao_ (qo0 4 [(1, .go (owns 0 0 1)), (3, .go (owns 4 0 1))] [1, 2, 4, 7] [(25, .slice (some ⟨g93, 0, none⟩) n n), (27, .slice p n cap)] (ops_copy 2 rfl (by kernel_rfl) (by kernel_rfl) (g := g93) (of := 0) (dn := n) (dc := n) (m := n) (cnt := n) (c := c93) (yv := (.slice p n cap)) (ds.flatMap Enc.enc) (by kernel_rfl) (by kernel_rfl) (T := 32) (ks := 4) (by_ := 32) (by kernel_rfl) (T' := 32) (by kernel_rfl) len_slice (by omega) (fun w hw => by have := first_sv (P := Try.prog) (w := w) (p := p) (m := n) (cap := cap) (cnt := n) (hds.kept hw.below) (by omega); rw [List.take_of_length_le (by omega)] at this; exact this) (by first | (rw [flat_len, Nat.zero_add, hc93, ← hn]; exact Nat.le_refl _) | (rw [flat_len, Nat.zero_add, hc93, ← hn])) (flat_one ds) ?_))))
  have hOw321 := OwnS.filled (l := ds) (n := n) hc93 hn (by have hmx : maxLen = 9223372036854775807 := rfl; omega)
  have hO321 := SlO.ofOwn (T := 32) (g := g93) hOw321 hn
  refine on_ (ds_ (sq_ (ao_ (qo0 4 [(1, .go (owns 0 1 1)), (3, .go (owns 4 1 1))] [1, 4, 7] [(30, .slice (some ⟨g173, 0, none⟩) m m), (32, .slice q m capv)] (ops_copy 1 rfl (by kernel_rfl) (by kernel_rfl) (g := g173) (of := 0) (dn := m) (dc := m) (m := m) (cnt := m) (c := c173) (yv := (.slice q m capv)) (vs.flatMap Enc.enc) (by kernel_rfl) (by kernel_rfl) (T := 43) (ks := 4) (by_ := 24) (by kernel_rfl) (T' := 43) (by kernel_rfl) len_slice (by omega) (fun w hw => by have := first_sv (P := Try.prog) (w := w) (p := q) (m := m) (cap := capv) (cnt := m) (hvs.kept hw.below) (by omega); rw [List.take_of_length_le (by omega)] at this; exact this) (by first | (rw [flat_len, Nat.zero_add, hc173, ← hm]; exact Nat.le_refl _) | (rw [flat_len, Nat.zero_add, hc173, ← hm])) (flat_one vs) ?_)))))
  have hOw324 := OwnS.filled (l := vs) (n := m) hc173 hm (by have hmx : maxLen = 9223372036854775807 := rfl; omega)
  have hO324 := SlO.ofOwn (T := 43) (g := g173) hOw324 hm
  refine on_ (ds_ (sq_ (sq_ (ao_ (qo0 1 [] [4, 7] [(34, .func (.func 53) #[] #[.pointer (some ⟨γ1 1, 0, none⟩), .pointer (some ⟨γ1 2, 0, none⟩), .pointer (some ⟨γ2 0, 0, none⟩)])] (ops_inline (g := 53) (args := #[.pointer (some ⟨γ213 0, 0, none⟩), .pointer (some ⟨γ1 1, 0, none⟩), .pointer (some ⟨γ1 2, 0, none⟩), .pointer (some ⟨γ2 0, 0, none⟩)]) (by kernel_rfl) (by kernel_rfl) (by kernel_rfl) (fun args w => Try.call53 args w) Try.func53 rfl Try.ntmps53 rfl (sq_ (qa0 [] [0, 1, 2, 3] [] (ds_ (sq_ ?_))))))))))
  refine at_calm rfl (by kernel_rfl) (by kernel_rfl) ?_
  refine cm 5 [(3, .go (owns 0 0 1)), (4, .go (owns 8 0 1))] [0, 1, 2, 3] [(13, .slice (some ⟨g93, 0, none⟩) n n), (14, .int .i64 k)] ([]) (by kernel_rfl) rfl al0 ?_
  rcases hg329 : getK Dom.id ds k with _ | y329
  ·
   have hpl329 := (pos_cut (k := k) (guests_iff.1 q6).dr).2.2
   refine cK (.tuple #[.int .i64 ((posK Dom.id ds k : Nat)), .bool false]) Try.call47 (fun w hw => by have := placed_d (some ⟨g93, 0, none⟩) n n ds k w (hO321.atN (A := [_, _]) hw) hn (by omega) (guests_iff.1 q6).dr; rw [hasK_none hg329] at this; exact this) ?_
   refine cm 5 [] [0, 1, 2, 3] [(7, .bool false)] ([]) (by kernel_rfl) rfl al0 ?_
   refine calm_nil' ?_
   refine ds_ (sq_ (at_block (sq_ (qa0 [] [0, 1, 2, 3] [(18, .bool true)] (ds_ (t_ (sq_ (qa0 [] [] [(5, .int .i64 4)] (ds_ (bk ([]) (.int .i64 4) (qo0 1 [] [4, 7] [(8, .int .i64 4)] (on_ (ds_ (sq_ (qa0 [] [4, 7, 8] [(37, .bool true)] (ds_ (t_ (sq_ (qa0 [(2, .go (owns 3 0 2))] [4] [(5, .int .i64 4)] (ds_ (bk (owns 3 0 2) (.tuple #[.agg #[.slice none 0 0, .slice none 0 0], .int .i64 4]) (mo0 6 [(7, .go (owns 0 0 2))] [6, 9] (fun γ336 => [(10, .pointer (some ⟨γ336 0, 0, none⟩)), (11, .int .i64 4)]) (fun γ336 L => bx (γ336 0) (#[.slice none 0 0, .slice none 0 0]) 25 :: L) (fun γ336 => on_ (ds_ (sq_ ?_)))))))))))))))))))))))))
   refine at_any (by kernel_rfl) ?_
   refine tk (m := 5) [2] [] [6, 9, 10] [(20, .int .i64 4)] ([]) #[false, false, true, false, false, false] al0 ?_
   refine any_cut 0 #[true, true, true, true, true, true] ([(6, .pointer (some ⟨γ1 3, 0, none⟩)), (7, .int .i64 0), (8, .int .i64 4)]) ([bx (γ336 0) (#[.slice none 0 0, .slice none 0 0]) 25, bx (γ213 0) (#[.slice (some ⟨g93, 0, none⟩) n n, .slice (some ⟨g173, 0, none⟩) m m]) 25, bx g173 ((sets c173 0 (vs.flatMap Enc.enc))) 43, bx g93 ((sets c93 0 (ds.flatMap Enc.enc))) 32, bx (γ4 1) (#[.slice none 0 0, .slice none 0 0]) 25, bx (γ4 0) (#[.slice p n cap, .slice q m capv]) 25, bx (γ2 0) (#[.int .i64 0]) 3, bx (γ1 3) (#[.slice none 0 0, .slice none 0 0]) 25, bx (γ1 2) (#[.int .u32 h, .int .u32 s]) 41, bx (γ1 1) (#[.int .i64 k]) 3, bx (γ1 0) (#[.slice p n cap, .slice q m capv]) 25]) ?_ (fun hm => ?_)
   rotate_left
   ·
    refine any_fork [0, 1] (by kernel_rfl) (by simp) (each_cons _ rfl ?_ (each_cons _ rfl ?_ (each_nil)))
    ·
     refine qo0 1 [(0, .go (owns 0 0 2))] [6, 9, 20] [(18, .agg #[.slice none 0 0, .slice none 0 0])] ?_
     refine od_ ?_
     refine any_fork [1, 3] (by kernel_rfl) (by simp) (each_cons _ rfl ?_ (each_cons _ rfl ?_ (each_nil)))
     ·
      refine qo0 1 [(1, .go (owns 6 0 1))] [6, 18, 20] [(19, .int .i64 0)] ?_
      refine od_ ?_
      refine a1 3 rfl ?_
      refine qo0 1 [(3, .go (owns 7 0 2))] [6, 19, 20] [] ?_
      refine od_ ?_
      refine tk (m := 0) [4, 5] [] [6] [(7, .int .i64 0), (8, .int .i64 4)] ([]) #[true, true, true, true, true, true] al0 ?_
      exact any_weak hm [6, 7, 8] (by kernel_rfl) rfl rfl rfl
     ·
      refine qo0 1 [(3, .go (owns 7 0 2))] [6, 9, 20] [] ?_
      refine od_ ?_
      refine a1 1 rfl ?_
      refine qo0 1 [(1, .go (owns 6 0 1))] [6, 20] [(19, .int .i64 0)] ?_
      refine od_ ?_
      refine tk (m := 0) [4, 5] [] [6] [(7, .int .i64 0), (8, .int .i64 4)] ([]) #[true, true, true, true, true, true] al0 ?_
      exact any_weak hm [6, 7, 8] (by kernel_rfl) rfl rfl rfl
    ·
     refine qo0 1 [(1, .go (owns 6 0 1))] [6, 10, 20] [(19, .int .i64 0)] ?_
     refine od_ ?_
     refine a1 0 rfl ?_
     refine qo0 1 [(0, .go (owns 0 0 2))] [6, 19, 20] [(18, .agg #[.slice none 0 0, .slice none 0 0])] ?_
     refine od_ ?_
     refine a1 3 rfl ?_
     refine qo0 1 [(3, .go (owns 7 0 2))] [6, 19, 20] [] ?_
     refine od_ ?_
     refine tk (m := 0) [4, 5] [] [6] [(7, .int .i64 0), (8, .int .i64 4)] ([]) #[true, true, true, true, true, true] al0 ?_
     exact any_weak hm [6, 7, 8] (by kernel_rfl) rfl rfl rfl
   refine any_nil (by kernel_rfl) ?_
   refine ds_ (rt (owns 7 0 2) (.tuple #[.agg #[.slice none 0 0, .slice none 0 0], .int .i64 0, .int .i64 4]) ?_)
   exact fun w' hw => by rw [(addN_no (addV_none q6 hg329) (by decide)), addV_none q6 hg329]; exact ⟨none, 0, 0, [], none, 0, 0, [], rfl, SlO.nil, SlO.nil, hw.below, hw.sub (List.nil_sublist _)⟩
  ·
   have hp_y329 := pos_getK (guests_iff.1 q6).dr hg329
   have hl_y329 := (List.getElem?_eq_some_iff.1 hp_y329).1
   refine cK (.tuple #[.int .i64 ((posK Dom.id ds k : Nat)), .bool true]) Try.call47 (fun w hw => by have := placed_d (some ⟨g93, 0, none⟩) n n ds k w (hO321.atN (A := [_, _]) hw) hn (by omega) (guests_iff.1 q6).dr; rw [hasK_some hg329] at this; exact this) ?_
   refine cm 5 [] [0, 1, 2, 3] [(7, .bool true)] ([]) (by kernel_rfl) rfl al0 ?_
   refine calm_nil' ?_
   refine ds_ (sq_ (at_block (sq_ (qa0 [] [0, 1, 2, 3] [(18, .bool false)] (ds_ (f_ (sq_ (ao_ (qo0 1 [(0, .go (owns 7 0 2))] [0, 1, 2, 3] [(22, .agg #[.int .u32 h, .int .u32 s])] ?_)))))))))
   rcases q357 : maskB h s with _ | _
   ·
    refine cD (.int .i64 170) Try.call48 (fun w hw => by have := mask_d h s w; rw [q357] at this; exact this) (qo0 2 [] [0, 1, 2, 3] [(21, .bool true)] (on_ (ds_ (t_ (sq_ (qa0 [] [] [(5, .int .i64 170)] (ds_ (bk ([]) (.int .i64 170) (qo0 1 [] [4, 7] [(8, .int .i64 170)] (on_ (ds_ (sq_ (qa0 [] [4, 7, 8] [(37, .bool true)] (ds_ (t_ (sq_ (qa0 [(2, .go (owns 3 0 2))] [4] [(5, .int .i64 170)] (ds_ (bk (owns 3 0 2) (.tuple #[.agg #[.slice none 0 0, .slice none 0 0], .int .i64 170]) (mo0 6 [(7, .go (owns 0 0 2))] [6, 9] (fun γ363 => [(10, .pointer (some ⟨γ363 0, 0, none⟩)), (11, .int .i64 170)]) (fun γ363 L => bx (γ363 0) (#[.slice none 0 0, .slice none 0 0]) 25 :: L) (fun γ363 => on_ (ds_ (sq_ ?_)))))))))))))))))))))))
    refine at_any (by kernel_rfl) ?_
    refine tk (m := 5) [2] [] [6, 9, 10] [(20, .int .i64 170)] ([]) #[false, false, true, false, false, false] al0 ?_
    refine any_cut 0 #[true, true, true, true, true, true] ([(6, .pointer (some ⟨γ1 3, 0, none⟩)), (7, .int .i64 0), (8, .int .i64 170)]) ([bx (γ363 0) (#[.slice none 0 0, .slice none 0 0]) 25, bx (γ213 0) (#[.slice (some ⟨g93, 0, none⟩) n n, .slice (some ⟨g173, 0, none⟩) m m]) 25, bx g173 ((sets c173 0 (vs.flatMap Enc.enc))) 43, bx g93 ((sets c93 0 (ds.flatMap Enc.enc))) 32, bx (γ4 1) (#[.slice none 0 0, .slice none 0 0]) 25, bx (γ4 0) (#[.slice p n cap, .slice q m capv]) 25, bx (γ2 0) (#[.int .i64 0]) 3, bx (γ1 3) (#[.slice none 0 0, .slice none 0 0]) 25, bx (γ1 2) (#[.int .u32 h, .int .u32 s]) 41, bx (γ1 1) (#[.int .i64 k]) 3, bx (γ1 0) (#[.slice p n cap, .slice q m capv]) 25]) ?_ (fun hm => ?_)
    rotate_left
    ·
     refine any_fork [0, 1] (by kernel_rfl) (by simp) (each_cons _ rfl ?_ (each_cons _ rfl ?_ (each_nil)))
     ·
      refine qo0 1 [(0, .go (owns 0 0 2))] [6, 9, 20] [(18, .agg #[.slice none 0 0, .slice none 0 0])] ?_
      refine od_ ?_
      refine any_fork [1, 3] (by kernel_rfl) (by simp) (each_cons _ rfl ?_ (each_cons _ rfl ?_ (each_nil)))
      ·
       refine qo0 1 [(1, .go (owns 6 0 1))] [6, 18, 20] [(19, .int .i64 0)] ?_
       refine od_ ?_
       refine a1 3 rfl ?_
       refine qo0 1 [(3, .go (owns 7 0 2))] [6, 19, 20] [] ?_
       refine od_ ?_
       refine tk (m := 0) [4, 5] [] [6] [(7, .int .i64 0), (8, .int .i64 170)] ([]) #[true, true, true, true, true, true] al0 ?_
       exact any_weak hm [6, 7, 8] (by kernel_rfl) rfl rfl rfl
      ·
       refine qo0 1 [(3, .go (owns 7 0 2))] [6, 9, 20] [] ?_
       refine od_ ?_
       refine a1 1 rfl ?_
       refine qo0 1 [(1, .go (owns 6 0 1))] [6, 20] [(19, .int .i64 0)] ?_
       refine od_ ?_
       refine tk (m := 0) [4, 5] [] [6] [(7, .int .i64 0), (8, .int .i64 170)] ([]) #[true, true, true, true, true, true] al0 ?_
       exact any_weak hm [6, 7, 8] (by kernel_rfl) rfl rfl rfl
     ·
      refine qo0 1 [(1, .go (owns 6 0 1))] [6, 10, 20] [(19, .int .i64 0)] ?_
      refine od_ ?_
      refine a1 0 rfl ?_
      refine qo0 1 [(0, .go (owns 0 0 2))] [6, 19, 20] [(18, .agg #[.slice none 0 0, .slice none 0 0])] ?_
      refine od_ ?_
      refine a1 3 rfl ?_
      refine qo0 1 [(3, .go (owns 7 0 2))] [6, 19, 20] [] ?_
      refine od_ ?_
      refine tk (m := 0) [4, 5] [] [6] [(7, .int .i64 0), (8, .int .i64 170)] ([]) #[true, true, true, true, true, true] al0 ?_
      exact any_weak hm [6, 7, 8] (by kernel_rfl) rfl rfl rfl
    refine any_nil (by kernel_rfl) ?_
    refine ds_ (rt (owns 7 0 2) (.tuple #[.agg #[.slice none 0 0, .slice none 0 0], .int .i64 0, .int .i64 170]) ?_)
    exact fun w' hw => by rw [(addN_no (addV_mask q6 hg329 q357) (by decide)), addV_mask q6 hg329 q357]; exact ⟨none, 0, 0, [], none, 0, 0, [], rfl, SlO.nil, SlO.nil, hw.below, hw.sub (List.nil_sublist _)⟩
   ·
    refine cD (.int .i64 0) Try.call48 (fun w hw => by have := mask_d h s w; rw [q357] at this; exact this) (qo0 2 [] [0, 1, 2, 3] [(21, .bool false)] (on_ (ds_ (f_ (sq_ ?_)))))
    by_cases q383 : ((m : Nat) : Int) = (16 : Int)
    ·
     refine cq [(3, .go (owns 0 1 1)), (5, .yes)] [0, 1, 2, 3] [(25, .bool true)] ([((m : Nat) : Int) = (16 : Int)]) rfl (by kernel_rfl) (by kernel_rfl) (by kernel_rfl) (al1 q383) (ds_ (t_ (sq_ (qa0 [] [] [(5, .int .i64 6)] (ds_ (bk ([]) (.int .i64 6) (qo0 1 [] [4, 7] [(8, .int .i64 6)] (on_ (ds_ (sq_ (qa0 [] [4, 7, 8] [(37, .bool true)] (ds_ (t_ (sq_ (qa0 [(2, .go (owns 3 0 2))] [4] [(5, .int .i64 6)] (ds_ (bk (owns 3 0 2) (.tuple #[.agg #[.slice none 0 0, .slice none 0 0], .int .i64 6]) (mo0 6 [(7, .go (owns 0 0 2))] [6, 9] (fun γ389 => [(10, .pointer (some ⟨γ389 0, 0, none⟩)), (11, .int .i64 6)]) (fun γ389 L => bx (γ389 0) (#[.slice none 0 0, .slice none 0 0]) 25 :: L) (fun γ389 => on_ (ds_ (sq_ ?_)))))))))))))))))))))
     refine at_any (by kernel_rfl) ?_
     refine tk (m := 5) [2] [] [6, 9, 10] [(20, .int .i64 6)] ([]) #[false, false, true, false, false, false] al0 ?_
     refine any_cut 0 #[true, true, true, true, true, true] ([(6, .pointer (some ⟨γ1 3, 0, none⟩)), (7, .int .i64 0), (8, .int .i64 6)]) ([bx (γ389 0) (#[.slice none 0 0, .slice none 0 0]) 25, bx (γ213 0) (#[.slice (some ⟨g93, 0, none⟩) n n, .slice (some ⟨g173, 0, none⟩) m m]) 25, bx g173 ((sets c173 0 (vs.flatMap Enc.enc))) 43, bx g93 ((sets c93 0 (ds.flatMap Enc.enc))) 32, bx (γ4 1) (#[.slice none 0 0, .slice none 0 0]) 25, bx (γ4 0) (#[.slice p n cap, .slice q m capv]) 25, bx (γ2 0) (#[.int .i64 0]) 3, bx (γ1 3) (#[.slice none 0 0, .slice none 0 0]) 25, bx (γ1 2) (#[.int .u32 h, .int .u32 s]) 41, bx (γ1 1) (#[.int .i64 k]) 3, bx (γ1 0) (#[.slice p n cap, .slice q m capv]) 25]) ?_ (fun hm => ?_)
     rotate_left
     ·
      refine any_fork [0, 1] (by kernel_rfl) (by simp) (each_cons _ rfl ?_ (each_cons _ rfl ?_ (each_nil)))
      ·
       refine qo0 1 [(0, .go (owns 0 0 2))] [6, 9, 20] [(18, .agg #[.slice none 0 0, .slice none 0 0])] ?_
       refine od_ ?_
       refine any_fork [1, 3] (by kernel_rfl) (by simp) (each_cons _ rfl ?_ (each_cons _ rfl ?_ (each_nil)))
       ·
        refine qo0 1 [(1, .go (owns 6 0 1))] [6, 18, 20] [(19, .int .i64 0)] ?_
        refine od_ ?_
        refine a1 3 rfl ?_
        refine qo0 1 [(3, .go (owns 7 0 2))] [6, 19, 20] [] ?_
        refine od_ ?_
        refine tk (m := 0) [4, 5] [] [6] [(7, .int .i64 0), (8, .int .i64 6)] ([]) #[true, true, true, true, true, true] al0 ?_
        exact any_weak hm [6, 7, 8] (by kernel_rfl) rfl rfl rfl
       ·
        refine qo0 1 [(3, .go (owns 7 0 2))] [6, 9, 20] [] ?_
        refine od_ ?_
        refine a1 1 rfl ?_
        refine qo0 1 [(1, .go (owns 6 0 1))] [6, 20] [(19, .int .i64 0)] ?_
        refine od_ ?_
        refine tk (m := 0) [4, 5] [] [6] [(7, .int .i64 0), (8, .int .i64 6)] ([]) #[true, true, true, true, true, true] al0 ?_
        exact any_weak hm [6, 7, 8] (by kernel_rfl) rfl rfl rfl
      ·
       refine qo0 1 [(1, .go (owns 6 0 1))] [6, 10, 20] [(19, .int .i64 0)] ?_
       refine od_ ?_
       refine a1 0 rfl ?_
       refine qo0 1 [(0, .go (owns 0 0 2))] [6, 19, 20] [(18, .agg #[.slice none 0 0, .slice none 0 0])] ?_
       refine od_ ?_
       refine a1 3 rfl ?_
       refine qo0 1 [(3, .go (owns 7 0 2))] [6, 19, 20] [] ?_
       refine od_ ?_
       refine tk (m := 0) [4, 5] [] [6] [(7, .int .i64 0), (8, .int .i64 6)] ([]) #[true, true, true, true, true, true] al0 ?_
       exact any_weak hm [6, 7, 8] (by kernel_rfl) rfl rfl rfl
     refine any_nil (by kernel_rfl) ?_
     refine ds_ (rt (owns 7 0 2) (.tuple #[.agg #[.slice none 0 0, .slice none 0 0], .int .i64 0, .int .i64 6]) ?_)
     exact fun w' hw => by rw [(addN_no (addV_full q6 hg329 q357 (.inl (by omega))) (by decide)), addV_full q6 hg329 q357 (.inl (by omega))]; exact ⟨none, 0, 0, [], none, 0, 0, [], rfl, SlO.nil, SlO.nil, hw.below, hw.sub (List.nil_sublist _)⟩
    ·
     refine at_calm rfl (by kernel_rfl) (by kernel_rfl) ?_
     refine cm 11 [(3, .go (owns 0 1 1)), (5, .no), (9, .go (owns 0 0 2)), (10, .go (owns 8 0 1))] [0, 1, 2, 3] [(32, .bool false), (35, .agg #[.slice (some ⟨g93, 0, none⟩) n n, .slice (some ⟨g173, 0, none⟩) m m]), (36, .int .i64 k)] ([¬ (((m : Nat) : Int) = (16 : Int))]) (by kernel_rfl) rfl (al1 q383) ?_
     refine cK (.int .i64 ((cntV vs k : Nat))) Try.call46 (fun w hw => count_d (some ⟨g93, 0, none⟩) n n ds (some ⟨g173, 0, none⟩) m m vs k w (hO324.atN (A := [_]) hw) hm (by omega)) ?_
     by_cases q409 : ((cntV vs k : Nat) : Int) = (8 : Int)
     ·
      refine cm 3 [(12, .yes)] [0, 1, 2, 3] [(25, .bool true)] ([((cntV vs k : Nat) : Int) = (8 : Int)]) (by kernel_rfl) rfl (al1 q409) ?_
      refine calm_nil' ?_
      refine ds_ (t_ (sq_ (qa0 [] [] [(5, .int .i64 6)] (ds_ (bk ([]) (.int .i64 6) (qo0 1 [] [4, 7] [(8, .int .i64 6)] (on_ (ds_ (sq_ (qa0 [] [4, 7, 8] [(37, .bool true)] (ds_ (t_ (sq_ (qa0 [(2, .go (owns 3 0 2))] [4] [(5, .int .i64 6)] (ds_ (bk (owns 3 0 2) (.tuple #[.agg #[.slice none 0 0, .slice none 0 0], .int .i64 6]) (mo0 6 [(7, .go (owns 0 0 2))] [6, 9] (fun γ415 => [(10, .pointer (some ⟨γ415 0, 0, none⟩)), (11, .int .i64 6)]) (fun γ415 L => bx (γ415 0) (#[.slice none 0 0, .slice none 0 0]) 25 :: L) (fun γ415 => on_ (ds_ (sq_ ?_))))))))))))))))))))
      refine at_any (by kernel_rfl) ?_
      refine tk (m := 5) [2] [] [6, 9, 10] [(20, .int .i64 6)] ([]) #[false, false, true, false, false, false] al0 ?_
      refine any_cut 0 #[true, true, true, true, true, true] ([(6, .pointer (some ⟨γ1 3, 0, none⟩)), (7, .int .i64 0), (8, .int .i64 6)]) ([bx (γ415 0) (#[.slice none 0 0, .slice none 0 0]) 25, bx (γ213 0) (#[.slice (some ⟨g93, 0, none⟩) n n, .slice (some ⟨g173, 0, none⟩) m m]) 25, bx g173 ((sets c173 0 (vs.flatMap Enc.enc))) 43, bx g93 ((sets c93 0 (ds.flatMap Enc.enc))) 32, bx (γ4 1) (#[.slice none 0 0, .slice none 0 0]) 25, bx (γ4 0) (#[.slice p n cap, .slice q m capv]) 25, bx (γ2 0) (#[.int .i64 0]) 3, bx (γ1 3) (#[.slice none 0 0, .slice none 0 0]) 25, bx (γ1 2) (#[.int .u32 h, .int .u32 s]) 41, bx (γ1 1) (#[.int .i64 k]) 3, bx (γ1 0) (#[.slice p n cap, .slice q m capv]) 25]) ?_ (fun hm => ?_)
      rotate_left
      ·
       refine any_fork [0, 1] (by kernel_rfl) (by simp) (each_cons _ rfl ?_ (each_cons _ rfl ?_ (each_nil)))
       ·
        refine qo0 1 [(0, .go (owns 0 0 2))] [6, 9, 20] [(18, .agg #[.slice none 0 0, .slice none 0 0])] ?_
        refine od_ ?_
        refine any_fork [1, 3] (by kernel_rfl) (by simp) (each_cons _ rfl ?_ (each_cons _ rfl ?_ (each_nil)))
        ·
         refine qo0 1 [(1, .go (owns 6 0 1))] [6, 18, 20] [(19, .int .i64 0)] ?_
         refine od_ ?_
         refine a1 3 rfl ?_
         refine qo0 1 [(3, .go (owns 7 0 2))] [6, 19, 20] [] ?_
         refine od_ ?_
         refine tk (m := 0) [4, 5] [] [6] [(7, .int .i64 0), (8, .int .i64 6)] ([]) #[true, true, true, true, true, true] al0 ?_
         exact any_weak hm [6, 7, 8] (by kernel_rfl) rfl rfl rfl
        ·
         refine qo0 1 [(3, .go (owns 7 0 2))] [6, 9, 20] [] ?_
         refine od_ ?_
         refine a1 1 rfl ?_
         refine qo0 1 [(1, .go (owns 6 0 1))] [6, 20] [(19, .int .i64 0)] ?_
         refine od_ ?_
         refine tk (m := 0) [4, 5] [] [6] [(7, .int .i64 0), (8, .int .i64 6)] ([]) #[true, true, true, true, true, true] al0 ?_
         exact any_weak hm [6, 7, 8] (by kernel_rfl) rfl rfl rfl
       ·
        refine qo0 1 [(1, .go (owns 6 0 1))] [6, 10, 20] [(19, .int .i64 0)] ?_
        refine od_ ?_
        refine a1 0 rfl ?_
        refine qo0 1 [(0, .go (owns 0 0 2))] [6, 19, 20] [(18, .agg #[.slice none 0 0, .slice none 0 0])] ?_
        refine od_ ?_
        refine a1 3 rfl ?_
        refine qo0 1 [(3, .go (owns 7 0 2))] [6, 19, 20] [] ?_
        refine od_ ?_
        refine tk (m := 0) [4, 5] [] [6] [(7, .int .i64 0), (8, .int .i64 6)] ([]) #[true, true, true, true, true, true] al0 ?_
        exact any_weak hm [6, 7, 8] (by kernel_rfl) rfl rfl rfl
      refine any_nil (by kernel_rfl) ?_
      refine ds_ (rt (owns 7 0 2) (.tuple #[.agg #[.slice none 0 0, .slice none 0 0], .int .i64 0, .int .i64 6]) ?_)
      exact fun w' hw => by rw [(addN_no (addV_full q6 hg329 q357 (.inr (by omega))) (by decide)), addV_full q6 hg329 q357 (.inr (by omega))]; exact ⟨none, 0, 0, [], none, 0, 0, [], rfl, SlO.nil, SlO.nil, hw.below, hw.sub (List.nil_sublist _)⟩
     ·
      refine cm 3 [(12, .no)] [0, 1, 2, 3] [(25, .bool false)] ([¬ (((cntV vs k : Nat) : Int) = (8 : Int))]) (by kernel_rfl) rfl (al1 q409) ?_
      refine calm_nil' ?_
      refine ds_ (f_ (at_skip (done_block (ds_ (sq_ (qa0 [] [0, 1, 2, 3] [(8, .int .i64 0)] (ds_ (sq_ (at_block (at_loop (α := Nat) [0, 1, 2, 3, 8] (fun j => [(0, .pointer (some ⟨γ213 0, 0, none⟩)), (1, .pointer (some ⟨γ1 1, 0, none⟩)), (2, .pointer (some ⟨γ1 2, 0, none⟩)), (3, .pointer (some ⟨γ2 0, 0, none⟩)), (8, .int .i64 ((j : Nat)))]) (fun j => [bx (γ213 0) (#[.slice (some ⟨g93, 0, none⟩) n n, .slice (some ⟨g173, 0, none⟩) m m]) 25, bx g173 ((sets c173 0 (vs.flatMap Enc.enc))) 43, bx g93 ((sets c93 0 (ds.flatMap Enc.enc))) 32, bx (γ4 1) (#[.slice none 0 0, .slice none 0 0]) 25, bx (γ4 0) (#[.slice p n cap, .slice q m capv]) 25, bx (γ2 0) (#[.int .i64 0]) 3, bx (γ1 3) (#[.slice none 0 0, .slice none 0 0]) 25, bx (γ1 2) (#[.int .u32 h, .int .u32 s]) 41, bx (γ1 1) (#[.int .i64 k]) 3, bx (γ1 0) (#[.slice p n cap, .slice q m capv]) 25]) (fun j => j ≤ m ∧ gapV (vs.drop j) j = gapV vs 0) (fun j => m - j) 0 (by kernel_rfl) rfl ⟨Nat.zero_le _, by rw [List.drop_zero]⟩ ?_))))))))))
      rintro j
      rintro ⟨hj, hI⟩
      refine sq_ (sq_ ?_)
      by_cases q436 : ((j : Nat) : Int) < ((m : Nat) : Int)
      ·
       obtain ⟨x438, hx438⟩ := get_some (l := vs) (m := j) (by omega)
       by_cases q440 : (x438.id : Int) = ((j + 1 : Nat) : Int)
       ·
        refine qa [(4, .go (owns 0 1 1)), (6, .yes), (11, .go (owns 0 1 1)), (13, .at g173 0 j), (15, .go (ownps 1 (0 + j * 4) [.int .i64 x438.id])), (17, .fit), (18, .yes)] [0, 1, 2, 3, 8] [(59, .bool true)] ([((j : Nat) : Int) < ((m : Nat) : Int)] ++ ([(some ⟨g173, 0, none⟩ : Option Addr) = some ⟨g173, 0, none⟩, ((j : Nat)) = ((j : Nat) : Int), j < m] ++ (acellsP ((sets c173 0 (vs.flatMap Enc.enc))) (0 + j * 4) [.int .i64 x438.id] ++ ([Fit .i64 ((j + 1 : Nat))] ++ ([(x438.id : Int) = ((j + 1 : Nat) : Int)]))))) (alA (al1 q436) (alA (al2 rfl (al2 rfl (al1 (by omega)))) (alA (rda_pre ((hOw324.rdx hm hx438)) _ rfl) (alA (al1 (fit64 (by omega) (by omega))) (al1 q440))))) (ds_ (t_ (at_skip (ds_ (at_block (qa [(1, .fit)] [0, 1, 2, 3] [(8, .int .i64 ((j + 1 : Nat)))] ([Fit .i64 ((j + 1 : Nat))]) (al1 (fit64 (by omega) (by omega))) (done_block ?_)))))))
        exact dr [0, 1, 2, 3, 8] (j + 1) ⟨by omega, gap_on hI hx438 (by omega)⟩
       ·
        refine qa [(4, .go (owns 0 1 1)), (6, .yes), (11, .go (owns 0 1 1)), (13, .at g173 0 j), (15, .go (ownps 1 (0 + j * 4) [.int .i64 x438.id])), (17, .fit), (18, .no)] [0, 1, 2, 3, 8] [(59, .bool false)] ([((j : Nat) : Int) < ((m : Nat) : Int)] ++ ([(some ⟨g173, 0, none⟩ : Option Addr) = some ⟨g173, 0, none⟩, ((j : Nat)) = ((j : Nat) : Int), j < m] ++ (acellsP ((sets c173 0 (vs.flatMap Enc.enc))) (0 + j * 4) [.int .i64 x438.id] ++ ([Fit .i64 ((j + 1 : Nat))] ++ ([¬ ((x438.id : Int) = ((j + 1 : Nat) : Int))]))))) (alA (al1 q436) (alA (al2 rfl (al2 rfl (al1 (by omega)))) (alA (rda_pre ((hOw324.rdx hm hx438)) _ rfl) (alA (al1 (fit64 (by omega) (by omega))) (al1 q440))))) (ds_ (f_ (at_leave _ rfl (ds_ (sq_ (ma [(1, .fit), (2, .go (owns 5 0 1))] [0, 1, 2, 3, 8] (fun _ => []) (fun _ L => (L.set 5 (bx (γ2 0) (#[.int .i64 ((j + 1 : Nat))]) 3))) (fun _ => [Fit .i64 ((j + 1 : Nat))]) (fun _ => (al1 (fit64 (by omega) (by omega)))) (fun _ => ds_ (sq_ ?_))))))))
        refine at_any (by kernel_rfl) ?_
        refine tk (m := 10) [0, 1, 2, 3, 5] [] [1, 2, 3] [(64, .pointer (some ⟨γ213 0, 0, none⟩)), (67, .pointer (some ⟨γ213 0, 1, none⟩)), (69, .int .i64 ((j : Nat)))] ([]) #[true, true, true, true, false, true, false, false, false, false, false, false, false, false, false] al0 ?_
        refine any_cutG 4 #[true, true, true, true, true, true, true, true, true, true, true, false, false, false, false] (fun γ452 => [(64, .pointer (some ⟨γ213 0, 0, none⟩)), (68, .slice (some ⟨g173, 0, none⟩) m m), (69, .int .i64 ((j : Nat))), (74, .slice (some ⟨γ452 0, 0, none⟩) 1 1)]) (fun γ452 => [bx (γ452 0) (#[.int .i64 ((j + 1 : Nat)), .int .i64 k, .int .u32 h, .int .u32 s]) 43, bx (γ213 0) (#[.slice (some ⟨g93, 0, none⟩) n n, .slice (some ⟨g173, 0, none⟩) m m]) 25, bx g173 ((sets c173 0 (vs.flatMap Enc.enc))) 43, bx g93 ((sets c93 0 (ds.flatMap Enc.enc))) 32, bx (γ4 1) (#[.slice none 0 0, .slice none 0 0]) 25, bx (γ4 0) (#[.slice p n cap, .slice q m capv]) 25, bx (γ2 0) (#[.int .i64 ((j + 1 : Nat))]) 3, bx (γ1 3) (#[.slice none 0 0, .slice none 0 0]) 25, bx (γ1 2) (#[.int .u32 h, .int .u32 s]) 41, bx (γ1 1) (#[.int .i64 k]) 3, bx (γ1 0) (#[.slice p n cap, .slice q m capv]) 25]) (fun γ452 => ?_) (fun hm => ?_)
        rotate_left
        ·
         refine any_fork [4, 6, 7, 8] (by kernel_rfl) (by simp) (each_cons _ rfl ?_ (each_cons _ rfl ?_ (each_cons _ rfl ?_ (each_cons _ rfl ?_ (each_nil)))))
         ·
          refine qo0 1 [(4, .go (owns 0 1 1))] [1, 2, 3, 64, 69] [(68, .slice (some ⟨g173, 0, none⟩) m m)] ?_
          refine od_ ?_
          refine any_fork [6, 7, 8] (by kernel_rfl) (by simp) (each_cons _ rfl ?_ (each_cons _ rfl ?_ (each_cons _ rfl ?_ (each_nil))))
          ·
           refine qo0 1 [(6, .go (owns 5 0 1))] [1, 2, 64, 68, 69] [(70, .int .i64 ((j + 1 : Nat)))] ?_
           refine od_ ?_
           refine any_fork [7, 8] (by kernel_rfl) (by simp) (each_cons _ rfl ?_ (each_cons _ rfl ?_ (each_nil)))
           ·
            refine qo0 1 [(7, .go (owns 8 0 1))] [2, 64, 68, 69, 70] [(71, .int .i64 k)] ?_
            refine od_ ?_
            refine a1 8 rfl ?_
            refine qo0 1 [(8, .go (owns 7 0 2))] [64, 68, 69, 70, 71] [(72, .agg #[.int .u32 h, .int .u32 s])] ?_
            refine od_ ?_
            refine tk (m := 5) [9] [] [64, 68, 69] [(73, .agg #[.int .i64 ((j + 1 : Nat)), .int .i64 k, .int .u32 h, .int .u32 s])] ([]) #[true, true, true, true, true, true, true, true, true, true, false, false, false, false, false] al0 ?_
            refine a1 10 rfl ?_
            refine mo0 1 [] [64, 68, 69] (fun γ458 => [(74, .slice (some ⟨γ458 0, 0, none⟩) 1 1)]) (fun γ458 L => bx (γ458 0) (#[.int .i64 ((j + 1 : Nat)), .int .i64 k, .int .u32 h, .int .u32 s]) 43 :: L) (fun γ458 => ?_)
            refine od_ ?_
            exact any_weak (hm fun i => [γ458 0].getD i 0) [64, 68, 69, 74] (by kernel_rfl) rfl rfl rfl
           ·
            refine qo0 1 [(8, .go (owns 7 0 2))] [1, 64, 68, 69, 70] [(72, .agg #[.int .u32 h, .int .u32 s])] ?_
            refine od_ ?_
            refine a1 7 rfl ?_
            refine qo0 1 [(7, .go (owns 8 0 1))] [64, 68, 69, 70, 72] [(71, .int .i64 k)] ?_
            refine od_ ?_
            refine tk (m := 5) [9] [] [64, 68, 69] [(73, .agg #[.int .i64 ((j + 1 : Nat)), .int .i64 k, .int .u32 h, .int .u32 s])] ([]) #[true, true, true, true, true, true, true, true, true, true, false, false, false, false, false] al0 ?_
            refine a1 10 rfl ?_
            refine mo0 1 [] [64, 68, 69] (fun γ462 => [(74, .slice (some ⟨γ462 0, 0, none⟩) 1 1)]) (fun γ462 L => bx (γ462 0) (#[.int .i64 ((j + 1 : Nat)), .int .i64 k, .int .u32 h, .int .u32 s]) 43 :: L) (fun γ462 => ?_)
            refine od_ ?_
            exact any_weak (hm fun i => [γ462 0].getD i 0) [64, 68, 69, 74] (by kernel_rfl) rfl rfl rfl
          ·
           refine qo0 1 [(7, .go (owns 8 0 1))] [2, 3, 64, 68, 69] [(71, .int .i64 k)] ?_
           refine od_ ?_
           refine any_fork [6, 8] (by kernel_rfl) (by simp) (each_cons _ rfl ?_ (each_cons _ rfl ?_ (each_nil)))
           ·
            refine qo0 1 [(6, .go (owns 5 0 1))] [2, 64, 68, 69, 71] [(70, .int .i64 ((j + 1 : Nat)))] ?_
            refine od_ ?_
            refine a1 8 rfl ?_
            refine qo0 1 [(8, .go (owns 7 0 2))] [64, 68, 69, 70, 71] [(72, .agg #[.int .u32 h, .int .u32 s])] ?_
            refine od_ ?_
            refine tk (m := 5) [9] [] [64, 68, 69] [(73, .agg #[.int .i64 ((j + 1 : Nat)), .int .i64 k, .int .u32 h, .int .u32 s])] ([]) #[true, true, true, true, true, true, true, true, true, true, false, false, false, false, false] al0 ?_
            refine a1 10 rfl ?_
            refine mo0 1 [] [64, 68, 69] (fun γ467 => [(74, .slice (some ⟨γ467 0, 0, none⟩) 1 1)]) (fun γ467 L => bx (γ467 0) (#[.int .i64 ((j + 1 : Nat)), .int .i64 k, .int .u32 h, .int .u32 s]) 43 :: L) (fun γ467 => ?_)
            refine od_ ?_
            exact any_weak (hm fun i => [γ467 0].getD i 0) [64, 68, 69, 74] (by kernel_rfl) rfl rfl rfl
           ·
            refine qo0 1 [(8, .go (owns 7 0 2))] [3, 64, 68, 69, 71] [(72, .agg #[.int .u32 h, .int .u32 s])] ?_
            refine od_ ?_
            refine a1 6 rfl ?_
            refine qo0 1 [(6, .go (owns 5 0 1))] [64, 68, 69, 71, 72] [(70, .int .i64 ((j + 1 : Nat)))] ?_
            refine od_ ?_
            refine tk (m := 5) [9] [] [64, 68, 69] [(73, .agg #[.int .i64 ((j + 1 : Nat)), .int .i64 k, .int .u32 h, .int .u32 s])] ([]) #[true, true, true, true, true, true, true, true, true, true, false, false, false, false, false] al0 ?_
            refine a1 10 rfl ?_
            refine mo0 1 [] [64, 68, 69] (fun γ471 => [(74, .slice (some ⟨γ471 0, 0, none⟩) 1 1)]) (fun γ471 L => bx (γ471 0) (#[.int .i64 ((j + 1 : Nat)), .int .i64 k, .int .u32 h, .int .u32 s]) 43 :: L) (fun γ471 => ?_)
            refine od_ ?_
            exact any_weak (hm fun i => [γ471 0].getD i 0) [64, 68, 69, 74] (by kernel_rfl) rfl rfl rfl
          ·
           refine qo0 1 [(8, .go (owns 7 0 2))] [1, 3, 64, 68, 69] [(72, .agg #[.int .u32 h, .int .u32 s])] ?_
           refine od_ ?_
           refine any_fork [6, 7] (by kernel_rfl) (by simp) (each_cons _ rfl ?_ (each_cons _ rfl ?_ (each_nil)))
           ·
            refine qo0 1 [(6, .go (owns 5 0 1))] [1, 64, 68, 69, 72] [(70, .int .i64 ((j + 1 : Nat)))] ?_
            refine od_ ?_
            refine a1 7 rfl ?_
            refine qo0 1 [(7, .go (owns 8 0 1))] [64, 68, 69, 70, 72] [(71, .int .i64 k)] ?_
            refine od_ ?_
            refine tk (m := 5) [9] [] [64, 68, 69] [(73, .agg #[.int .i64 ((j + 1 : Nat)), .int .i64 k, .int .u32 h, .int .u32 s])] ([]) #[true, true, true, true, true, true, true, true, true, true, false, false, false, false, false] al0 ?_
            refine a1 10 rfl ?_
            refine mo0 1 [] [64, 68, 69] (fun γ476 => [(74, .slice (some ⟨γ476 0, 0, none⟩) 1 1)]) (fun γ476 L => bx (γ476 0) (#[.int .i64 ((j + 1 : Nat)), .int .i64 k, .int .u32 h, .int .u32 s]) 43 :: L) (fun γ476 => ?_)
            refine od_ ?_
            exact any_weak (hm fun i => [γ476 0].getD i 0) [64, 68, 69, 74] (by kernel_rfl) rfl rfl rfl
           ·
            refine qo0 1 [(7, .go (owns 8 0 1))] [3, 64, 68, 69, 72] [(71, .int .i64 k)] ?_
            refine od_ ?_
            refine a1 6 rfl ?_
            refine qo0 1 [(6, .go (owns 5 0 1))] [64, 68, 69, 71, 72] [(70, .int .i64 ((j + 1 : Nat)))] ?_
            refine od_ ?_
            refine tk (m := 5) [9] [] [64, 68, 69] [(73, .agg #[.int .i64 ((j + 1 : Nat)), .int .i64 k, .int .u32 h, .int .u32 s])] ([]) #[true, true, true, true, true, true, true, true, true, true, false, false, false, false, false] al0 ?_
            refine a1 10 rfl ?_
            refine mo0 1 [] [64, 68, 69] (fun γ480 => [(74, .slice (some ⟨γ480 0, 0, none⟩) 1 1)]) (fun γ480 L => bx (γ480 0) (#[.int .i64 ((j + 1 : Nat)), .int .i64 k, .int .u32 h, .int .u32 s]) 43 :: L) (fun γ480 => ?_)
            refine od_ ?_
            exact any_weak (hm fun i => [γ480 0].getD i 0) [64, 68, 69, 74] (by kernel_rfl) rfl rfl rfl
         ·
          refine qo0 1 [(6, .go (owns 5 0 1))] [1, 2, 64, 67, 69] [(70, .int .i64 ((j + 1 : Nat)))] ?_
          refine od_ ?_
          refine any_fork [4, 7, 8] (by kernel_rfl) (by simp) (each_cons _ rfl ?_ (each_cons _ rfl ?_ (each_cons _ rfl ?_ (each_nil))))
          ·
           refine qo0 1 [(4, .go (owns 0 1 1))] [1, 2, 64, 69, 70] [(68, .slice (some ⟨g173, 0, none⟩) m m)] ?_
           refine od_ ?_
           refine any_fork [7, 8] (by kernel_rfl) (by simp) (each_cons _ rfl ?_ (each_cons _ rfl ?_ (each_nil)))
           ·
            refine qo0 1 [(7, .go (owns 8 0 1))] [2, 64, 68, 69, 70] [(71, .int .i64 k)] ?_
            refine od_ ?_
            refine a1 8 rfl ?_
            refine qo0 1 [(8, .go (owns 7 0 2))] [64, 68, 69, 70, 71] [(72, .agg #[.int .u32 h, .int .u32 s])] ?_
            refine od_ ?_
            refine tk (m := 5) [9] [] [64, 68, 69] [(73, .agg #[.int .i64 ((j + 1 : Nat)), .int .i64 k, .int .u32 h, .int .u32 s])] ([]) #[true, true, true, true, true, true, true, true, true, true, false, false, false, false, false] al0 ?_
            refine a1 10 rfl ?_
            refine mo0 1 [] [64, 68, 69] (fun γ486 => [(74, .slice (some ⟨γ486 0, 0, none⟩) 1 1)]) (fun γ486 L => bx (γ486 0) (#[.int .i64 ((j + 1 : Nat)), .int .i64 k, .int .u32 h, .int .u32 s]) 43 :: L) (fun γ486 => ?_)
            refine od_ ?_
            exact any_weak (hm fun i => [γ486 0].getD i 0) [64, 68, 69, 74] (by kernel_rfl) rfl rfl rfl
           ·
            refine qo0 1 [(8, .go (owns 7 0 2))] [1, 64, 68, 69, 70] [(72, .agg #[.int .u32 h, .int .u32 s])] ?_
            refine od_ ?_
            refine a1 7 rfl ?_
            refine qo0 1 [(7, .go (owns 8 0 1))] [64, 68, 69, 70, 72] [(71, .int .i64 k)] ?_
            refine od_ ?_
            refine tk (m := 5) [9] [] [64, 68, 69] [(73, .agg #[.int .i64 ((j + 1 : Nat)), .int .i64 k, .int .u32 h, .int .u32 s])] ([]) #[true, true, true, true, true, true, true, true, true, true, false, false, false, false, false] al0 ?_
            refine a1 10 rfl ?_
            refine mo0 1 [] [64, 68, 69] (fun γ490 => [(74, .slice (some ⟨γ490 0, 0, none⟩) 1 1)]) (fun γ490 L => bx (γ490 0) (#[.int .i64 ((j + 1 : Nat)), .int .i64 k, .int .u32 h, .int .u32 s]) 43 :: L) (fun γ490 => ?_)
            refine od_ ?_
            exact any_weak (hm fun i => [γ490 0].getD i 0) [64, 68, 69, 74] (by kernel_rfl) rfl rfl rfl
          ·
           refine qo0 1 [(7, .go (owns 8 0 1))] [2, 64, 67, 69, 70] [(71, .int .i64 k)] ?_
           refine od_ ?_
           refine any_fork [4, 8] (by kernel_rfl) (by simp) (each_cons _ rfl ?_ (each_cons _ rfl ?_ (each_nil)))
           ·
            refine qo0 1 [(4, .go (owns 0 1 1))] [2, 64, 69, 70, 71] [(68, .slice (some ⟨g173, 0, none⟩) m m)] ?_
            refine od_ ?_
            refine a1 8 rfl ?_
            refine qo0 1 [(8, .go (owns 7 0 2))] [64, 68, 69, 70, 71] [(72, .agg #[.int .u32 h, .int .u32 s])] ?_
            refine od_ ?_
            refine tk (m := 5) [9] [] [64, 68, 69] [(73, .agg #[.int .i64 ((j + 1 : Nat)), .int .i64 k, .int .u32 h, .int .u32 s])] ([]) #[true, true, true, true, true, true, true, true, true, true, false, false, false, false, false] al0 ?_
            refine a1 10 rfl ?_
            refine mo0 1 [] [64, 68, 69] (fun γ495 => [(74, .slice (some ⟨γ495 0, 0, none⟩) 1 1)]) (fun γ495 L => bx (γ495 0) (#[.int .i64 ((j + 1 : Nat)), .int .i64 k, .int .u32 h, .int .u32 s]) 43 :: L) (fun γ495 => ?_)
            refine od_ ?_
            exact any_weak (hm fun i => [γ495 0].getD i 0) [64, 68, 69, 74] (by kernel_rfl) rfl rfl rfl
           ·
            refine qo0 1 [(8, .go (owns 7 0 2))] [64, 67, 69, 70, 71] [(72, .agg #[.int .u32 h, .int .u32 s])] ?_
            refine od_ ?_
            refine tk (m := 6) [9] [] [64, 67, 69] [(73, .agg #[.int .i64 ((j + 1 : Nat)), .int .i64 k, .int .u32 h, .int .u32 s])] ([]) #[true, true, true, true, false, true, true, true, true, true, false, false, false, false, false] al0 ?_
            refine any_fork [4, 10] (by kernel_rfl) (by simp) (each_cons _ rfl ?_ (each_cons _ rfl ?_ (each_nil)))
            ·
             refine qo0 1 [(4, .go (owns 0 1 1))] [64, 69, 73] [(68, .slice (some ⟨g173, 0, none⟩) m m)] ?_
             refine od_ ?_
             refine a1 10 rfl ?_
             refine mo0 1 [] [64, 68, 69] (fun γ499 => [(74, .slice (some ⟨γ499 0, 0, none⟩) 1 1)]) (fun γ499 L => bx (γ499 0) (#[.int .i64 ((j + 1 : Nat)), .int .i64 k, .int .u32 h, .int .u32 s]) 43 :: L) (fun γ499 => ?_)
             refine od_ ?_
             exact any_weak (hm fun i => [γ499 0].getD i 0) [64, 68, 69, 74] (by kernel_rfl) rfl rfl rfl
            ·
             refine mo0 1 [] [64, 67, 69] (fun γ500 => [(74, .slice (some ⟨γ500 0, 0, none⟩) 1 1)]) (fun γ500 L => bx (γ500 0) (#[.int .i64 ((j + 1 : Nat)), .int .i64 k, .int .u32 h, .int .u32 s]) 43 :: L) (fun γ500 => ?_)
             refine od_ ?_
             refine a1 4 rfl ?_
             refine qo0 1 [(4, .go (owns 1 1 1))] [64, 69, 74] [(68, .slice (some ⟨g173, 0, none⟩) m m)] ?_
             refine od_ ?_
             exact any_weak (hm fun i => [γ500 0].getD i 0) [64, 68, 69, 74] (by kernel_rfl) rfl rfl rfl
          ·
           refine qo0 1 [(8, .go (owns 7 0 2))] [1, 64, 67, 69, 70] [(72, .agg #[.int .u32 h, .int .u32 s])] ?_
           refine od_ ?_
           refine any_fork [4, 7] (by kernel_rfl) (by simp) (each_cons _ rfl ?_ (each_cons _ rfl ?_ (each_nil)))
           ·
            refine qo0 1 [(4, .go (owns 0 1 1))] [1, 64, 69, 70, 72] [(68, .slice (some ⟨g173, 0, none⟩) m m)] ?_
            refine od_ ?_
            refine a1 7 rfl ?_
            refine qo0 1 [(7, .go (owns 8 0 1))] [64, 68, 69, 70, 72] [(71, .int .i64 k)] ?_
            refine od_ ?_
            refine tk (m := 5) [9] [] [64, 68, 69] [(73, .agg #[.int .i64 ((j + 1 : Nat)), .int .i64 k, .int .u32 h, .int .u32 s])] ([]) #[true, true, true, true, true, true, true, true, true, true, false, false, false, false, false] al0 ?_
            refine a1 10 rfl ?_
            refine mo0 1 [] [64, 68, 69] (fun γ506 => [(74, .slice (some ⟨γ506 0, 0, none⟩) 1 1)]) (fun γ506 L => bx (γ506 0) (#[.int .i64 ((j + 1 : Nat)), .int .i64 k, .int .u32 h, .int .u32 s]) 43 :: L) (fun γ506 => ?_)
            refine od_ ?_
            exact any_weak (hm fun i => [γ506 0].getD i 0) [64, 68, 69, 74] (by kernel_rfl) rfl rfl rfl
           ·
            refine qo0 1 [(7, .go (owns 8 0 1))] [64, 67, 69, 70, 72] [(71, .int .i64 k)] ?_
            refine od_ ?_
            refine tk (m := 6) [9] [] [64, 67, 69] [(73, .agg #[.int .i64 ((j + 1 : Nat)), .int .i64 k, .int .u32 h, .int .u32 s])] ([]) #[true, true, true, true, false, true, true, true, true, true, false, false, false, false, false] al0 ?_
            refine any_fork [4, 10] (by kernel_rfl) (by simp) (each_cons _ rfl ?_ (each_cons _ rfl ?_ (each_nil)))
            ·
             refine qo0 1 [(4, .go (owns 0 1 1))] [64, 69, 73] [(68, .slice (some ⟨g173, 0, none⟩) m m)] ?_
             refine od_ ?_
             refine a1 10 rfl ?_
             refine mo0 1 [] [64, 68, 69] (fun γ510 => [(74, .slice (some ⟨γ510 0, 0, none⟩) 1 1)]) (fun γ510 L => bx (γ510 0) (#[.int .i64 ((j + 1 : Nat)), .int .i64 k, .int .u32 h, .int .u32 s]) 43 :: L) (fun γ510 => ?_)
             refine od_ ?_
             exact any_weak (hm fun i => [γ510 0].getD i 0) [64, 68, 69, 74] (by kernel_rfl) rfl rfl rfl
            ·
             refine mo0 1 [] [64, 67, 69] (fun γ511 => [(74, .slice (some ⟨γ511 0, 0, none⟩) 1 1)]) (fun γ511 L => bx (γ511 0) (#[.int .i64 ((j + 1 : Nat)), .int .i64 k, .int .u32 h, .int .u32 s]) 43 :: L) (fun γ511 => ?_)
             refine od_ ?_
             refine a1 4 rfl ?_
             refine qo0 1 [(4, .go (owns 1 1 1))] [64, 69, 74] [(68, .slice (some ⟨g173, 0, none⟩) m m)] ?_
             refine od_ ?_
             exact any_weak (hm fun i => [γ511 0].getD i 0) [64, 68, 69, 74] (by kernel_rfl) rfl rfl rfl
         ·
          refine qo0 1 [(7, .go (owns 8 0 1))] [2, 3, 64, 67, 69] [(71, .int .i64 k)] ?_
          refine od_ ?_
          refine any_fork [4, 6, 8] (by kernel_rfl) (by simp) (each_cons _ rfl ?_ (each_cons _ rfl ?_ (each_cons _ rfl ?_ (each_nil))))
          ·
           refine qo0 1 [(4, .go (owns 0 1 1))] [2, 3, 64, 69, 71] [(68, .slice (some ⟨g173, 0, none⟩) m m)] ?_
           refine od_ ?_
           refine any_fork [6, 8] (by kernel_rfl) (by simp) (each_cons _ rfl ?_ (each_cons _ rfl ?_ (each_nil)))
           ·
            refine qo0 1 [(6, .go (owns 5 0 1))] [2, 64, 68, 69, 71] [(70, .int .i64 ((j + 1 : Nat)))] ?_
            refine od_ ?_
            refine a1 8 rfl ?_
            refine qo0 1 [(8, .go (owns 7 0 2))] [64, 68, 69, 70, 71] [(72, .agg #[.int .u32 h, .int .u32 s])] ?_
            refine od_ ?_
            refine tk (m := 5) [9] [] [64, 68, 69] [(73, .agg #[.int .i64 ((j + 1 : Nat)), .int .i64 k, .int .u32 h, .int .u32 s])] ([]) #[true, true, true, true, true, true, true, true, true, true, false, false, false, false, false] al0 ?_
            refine a1 10 rfl ?_
            refine mo0 1 [] [64, 68, 69] (fun γ518 => [(74, .slice (some ⟨γ518 0, 0, none⟩) 1 1)]) (fun γ518 L => bx (γ518 0) (#[.int .i64 ((j + 1 : Nat)), .int .i64 k, .int .u32 h, .int .u32 s]) 43 :: L) (fun γ518 => ?_)
            refine od_ ?_
            exact any_weak (hm fun i => [γ518 0].getD i 0) [64, 68, 69, 74] (by kernel_rfl) rfl rfl rfl
           ·
            refine qo0 1 [(8, .go (owns 7 0 2))] [3, 64, 68, 69, 71] [(72, .agg #[.int .u32 h, .int .u32 s])] ?_
            refine od_ ?_
            refine a1 6 rfl ?_
            refine qo0 1 [(6, .go (owns 5 0 1))] [64, 68, 69, 71, 72] [(70, .int .i64 ((j + 1 : Nat)))] ?_
            refine od_ ?_
            refine tk (m := 5) [9] [] [64, 68, 69] [(73, .agg #[.int .i64 ((j + 1 : Nat)), .int .i64 k, .int .u32 h, .int .u32 s])] ([]) #[true, true, true, true, true, true, true, true, true, true, false, false, false, false, false] al0 ?_
            refine a1 10 rfl ?_
            refine mo0 1 [] [64, 68, 69] (fun γ522 => [(74, .slice (some ⟨γ522 0, 0, none⟩) 1 1)]) (fun γ522 L => bx (γ522 0) (#[.int .i64 ((j + 1 : Nat)), .int .i64 k, .int .u32 h, .int .u32 s]) 43 :: L) (fun γ522 => ?_)
            refine od_ ?_
            exact any_weak (hm fun i => [γ522 0].getD i 0) [64, 68, 69, 74] (by kernel_rfl) rfl rfl rfl
          ·
           refine qo0 1 [(6, .go (owns 5 0 1))] [2, 64, 67, 69, 71] [(70, .int .i64 ((j + 1 : Nat)))] ?_
           refine od_ ?_
           refine any_fork [4, 8] (by kernel_rfl) (by simp) (each_cons _ rfl ?_ (each_cons _ rfl ?_ (each_nil)))
           ·
            refine qo0 1 [(4, .go (owns 0 1 1))] [2, 64, 69, 70, 71] [(68, .slice (some ⟨g173, 0, none⟩) m m)] ?_
            refine od_ ?_
            refine a1 8 rfl ?_
            refine qo0 1 [(8, .go (owns 7 0 2))] [64, 68, 69, 70, 71] [(72, .agg #[.int .u32 h, .int .u32 s])] ?_
            refine od_ ?_
            refine tk (m := 5) [9] [] [64, 68, 69] [(73, .agg #[.int .i64 ((j + 1 : Nat)), .int .i64 k, .int .u32 h, .int .u32 s])] ([]) #[true, true, true, true, true, true, true, true, true, true, false, false, false, false, false] al0 ?_
            refine a1 10 rfl ?_
            refine mo0 1 [] [64, 68, 69] (fun γ527 => [(74, .slice (some ⟨γ527 0, 0, none⟩) 1 1)]) (fun γ527 L => bx (γ527 0) (#[.int .i64 ((j + 1 : Nat)), .int .i64 k, .int .u32 h, .int .u32 s]) 43 :: L) (fun γ527 => ?_)
            refine od_ ?_
            exact any_weak (hm fun i => [γ527 0].getD i 0) [64, 68, 69, 74] (by kernel_rfl) rfl rfl rfl
           ·
            refine qo0 1 [(8, .go (owns 7 0 2))] [64, 67, 69, 70, 71] [(72, .agg #[.int .u32 h, .int .u32 s])] ?_
            refine od_ ?_
            refine tk (m := 6) [9] [] [64, 67, 69] [(73, .agg #[.int .i64 ((j + 1 : Nat)), .int .i64 k, .int .u32 h, .int .u32 s])] ([]) #[true, true, true, true, false, true, true, true, true, true, false, false, false, false, false] al0 ?_
            refine any_fork [4, 10] (by kernel_rfl) (by simp) (each_cons _ rfl ?_ (each_cons _ rfl ?_ (each_nil)))
            ·
             refine qo0 1 [(4, .go (owns 0 1 1))] [64, 69, 73] [(68, .slice (some ⟨g173, 0, none⟩) m m)] ?_
             refine od_ ?_
             refine a1 10 rfl ?_
             refine mo0 1 [] [64, 68, 69] (fun γ531 => [(74, .slice (some ⟨γ531 0, 0, none⟩) 1 1)]) (fun γ531 L => bx (γ531 0) (#[.int .i64 ((j + 1 : Nat)), .int .i64 k, .int .u32 h, .int .u32 s]) 43 :: L) (fun γ531 => ?_)
             refine od_ ?_
             exact any_weak (hm fun i => [γ531 0].getD i 0) [64, 68, 69, 74] (by kernel_rfl) rfl rfl rfl
            ·
             refine mo0 1 [] [64, 67, 69] (fun γ532 => [(74, .slice (some ⟨γ532 0, 0, none⟩) 1 1)]) (fun γ532 L => bx (γ532 0) (#[.int .i64 ((j + 1 : Nat)), .int .i64 k, .int .u32 h, .int .u32 s]) 43 :: L) (fun γ532 => ?_)
             refine od_ ?_
             refine a1 4 rfl ?_
             refine qo0 1 [(4, .go (owns 1 1 1))] [64, 69, 74] [(68, .slice (some ⟨g173, 0, none⟩) m m)] ?_
             refine od_ ?_
             exact any_weak (hm fun i => [γ532 0].getD i 0) [64, 68, 69, 74] (by kernel_rfl) rfl rfl rfl
          ·
           refine qo0 1 [(8, .go (owns 7 0 2))] [3, 64, 67, 69, 71] [(72, .agg #[.int .u32 h, .int .u32 s])] ?_
           refine od_ ?_
           refine any_fork [4, 6] (by kernel_rfl) (by simp) (each_cons _ rfl ?_ (each_cons _ rfl ?_ (each_nil)))
           ·
            refine qo0 1 [(4, .go (owns 0 1 1))] [3, 64, 69, 71, 72] [(68, .slice (some ⟨g173, 0, none⟩) m m)] ?_
            refine od_ ?_
            refine a1 6 rfl ?_
            refine qo0 1 [(6, .go (owns 5 0 1))] [64, 68, 69, 71, 72] [(70, .int .i64 ((j + 1 : Nat)))] ?_
            refine od_ ?_
            refine tk (m := 5) [9] [] [64, 68, 69] [(73, .agg #[.int .i64 ((j + 1 : Nat)), .int .i64 k, .int .u32 h, .int .u32 s])] ([]) #[true, true, true, true, true, true, true, true, true, true, false, false, false, false, false] al0 ?_
            refine a1 10 rfl ?_
            refine mo0 1 [] [64, 68, 69] (fun γ538 => [(74, .slice (some ⟨γ538 0, 0, none⟩) 1 1)]) (fun γ538 L => bx (γ538 0) (#[.int .i64 ((j + 1 : Nat)), .int .i64 k, .int .u32 h, .int .u32 s]) 43 :: L) (fun γ538 => ?_)
            refine od_ ?_
            exact any_weak (hm fun i => [γ538 0].getD i 0) [64, 68, 69, 74] (by kernel_rfl) rfl rfl rfl
           ·
            refine qo0 1 [(6, .go (owns 5 0 1))] [64, 67, 69, 71, 72] [(70, .int .i64 ((j + 1 : Nat)))] ?_
            refine od_ ?_
            refine tk (m := 6) [9] [] [64, 67, 69] [(73, .agg #[.int .i64 ((j + 1 : Nat)), .int .i64 k, .int .u32 h, .int .u32 s])] ([]) #[true, true, true, true, false, true, true, true, true, true, false, false, false, false, false] al0 ?_
            refine any_fork [4, 10] (by kernel_rfl) (by simp) (each_cons _ rfl ?_ (each_cons _ rfl ?_ (each_nil)))
            ·
             refine qo0 1 [(4, .go (owns 0 1 1))] [64, 69, 73] [(68, .slice (some ⟨g173, 0, none⟩) m m)] ?_
             refine od_ ?_
             refine a1 10 rfl ?_
             refine mo0 1 [] [64, 68, 69] (fun γ542 => [(74, .slice (some ⟨γ542 0, 0, none⟩) 1 1)]) (fun γ542 L => bx (γ542 0) (#[.int .i64 ((j + 1 : Nat)), .int .i64 k, .int .u32 h, .int .u32 s]) 43 :: L) (fun γ542 => ?_)
             refine od_ ?_
             exact any_weak (hm fun i => [γ542 0].getD i 0) [64, 68, 69, 74] (by kernel_rfl) rfl rfl rfl
            ·
             refine mo0 1 [] [64, 67, 69] (fun γ543 => [(74, .slice (some ⟨γ543 0, 0, none⟩) 1 1)]) (fun γ543 L => bx (γ543 0) (#[.int .i64 ((j + 1 : Nat)), .int .i64 k, .int .u32 h, .int .u32 s]) 43 :: L) (fun γ543 => ?_)
             refine od_ ?_
             refine a1 4 rfl ?_
             refine qo0 1 [(4, .go (owns 1 1 1))] [64, 69, 74] [(68, .slice (some ⟨g173, 0, none⟩) m m)] ?_
             refine od_ ?_
             exact any_weak (hm fun i => [γ543 0].getD i 0) [64, 68, 69, 74] (by kernel_rfl) rfl rfl rfl
         ·
          refine qo0 1 [(8, .go (owns 7 0 2))] [1, 3, 64, 67, 69] [(72, .agg #[.int .u32 h, .int .u32 s])] ?_
          refine od_ ?_
          refine any_fork [4, 6, 7] (by kernel_rfl) (by simp) (each_cons _ rfl ?_ (each_cons _ rfl ?_ (each_cons _ rfl ?_ (each_nil))))
          ·
           refine qo0 1 [(4, .go (owns 0 1 1))] [1, 3, 64, 69, 72] [(68, .slice (some ⟨g173, 0, none⟩) m m)] ?_
           refine od_ ?_
           refine any_fork [6, 7] (by kernel_rfl) (by simp) (each_cons _ rfl ?_ (each_cons _ rfl ?_ (each_nil)))
           ·
            refine qo0 1 [(6, .go (owns 5 0 1))] [1, 64, 68, 69, 72] [(70, .int .i64 ((j + 1 : Nat)))] ?_
            refine od_ ?_
            refine a1 7 rfl ?_
            refine qo0 1 [(7, .go (owns 8 0 1))] [64, 68, 69, 70, 72] [(71, .int .i64 k)] ?_
            refine od_ ?_
            refine tk (m := 5) [9] [] [64, 68, 69] [(73, .agg #[.int .i64 ((j + 1 : Nat)), .int .i64 k, .int .u32 h, .int .u32 s])] ([]) #[true, true, true, true, true, true, true, true, true, true, false, false, false, false, false] al0 ?_
            refine a1 10 rfl ?_
            refine mo0 1 [] [64, 68, 69] (fun γ550 => [(74, .slice (some ⟨γ550 0, 0, none⟩) 1 1)]) (fun γ550 L => bx (γ550 0) (#[.int .i64 ((j + 1 : Nat)), .int .i64 k, .int .u32 h, .int .u32 s]) 43 :: L) (fun γ550 => ?_)
            refine od_ ?_
            exact any_weak (hm fun i => [γ550 0].getD i 0) [64, 68, 69, 74] (by kernel_rfl) rfl rfl rfl
           ·
            refine qo0 1 [(7, .go (owns 8 0 1))] [3, 64, 68, 69, 72] [(71, .int .i64 k)] ?_
            refine od_ ?_
            refine a1 6 rfl ?_
            refine qo0 1 [(6, .go (owns 5 0 1))] [64, 68, 69, 71, 72] [(70, .int .i64 ((j + 1 : Nat)))] ?_
            refine od_ ?_
            refine tk (m := 5) [9] [] [64, 68, 69] [(73, .agg #[.int .i64 ((j + 1 : Nat)), .int .i64 k, .int .u32 h, .int .u32 s])] ([]) #[true, true, true, true, true, true, true, true, true, true, false, false, false, false, false] al0 ?_
            refine a1 10 rfl ?_
            refine mo0 1 [] [64, 68, 69] (fun γ554 => [(74, .slice (some ⟨γ554 0, 0, none⟩) 1 1)]) (fun γ554 L => bx (γ554 0) (#[.int .i64 ((j + 1 : Nat)), .int .i64 k, .int .u32 h, .int .u32 s]) 43 :: L) (fun γ554 => ?_)
            refine od_ ?_
            exact any_weak (hm fun i => [γ554 0].getD i 0) [64, 68, 69, 74] (by kernel_rfl) rfl rfl rfl
          ·
           refine qo0 1 [(6, .go (owns 5 0 1))] [1, 64, 67, 69, 72] [(70, .int .i64 ((j + 1 : Nat)))] ?_
           refine od_ ?_
           refine any_fork [4, 7] (by kernel_rfl) (by simp) (each_cons _ rfl ?_ (each_cons _ rfl ?_ (each_nil)))
           ·
            refine qo0 1 [(4, .go (owns 0 1 1))] [1, 64, 69, 70, 72] [(68, .slice (some ⟨g173, 0, none⟩) m m)] ?_
            refine od_ ?_
            refine a1 7 rfl ?_
            refine qo0 1 [(7, .go (owns 8 0 1))] [64, 68, 69, 70, 72] [(71, .int .i64 k)] ?_
            refine od_ ?_
            refine tk (m := 5) [9] [] [64, 68, 69] [(73, .agg #[.int .i64 ((j + 1 : Nat)), .int .i64 k, .int .u32 h, .int .u32 s])] ([]) #[true, true, true, true, true, true, true, true, true, true, false, false, false, false, false] al0 ?_
            refine a1 10 rfl ?_
            refine mo0 1 [] [64, 68, 69] (fun γ559 => [(74, .slice (some ⟨γ559 0, 0, none⟩) 1 1)]) (fun γ559 L => bx (γ559 0) (#[.int .i64 ((j + 1 : Nat)), .int .i64 k, .int .u32 h, .int .u32 s]) 43 :: L) (fun γ559 => ?_)
            refine od_ ?_
            exact any_weak (hm fun i => [γ559 0].getD i 0) [64, 68, 69, 74] (by kernel_rfl) rfl rfl rfl
           ·
            refine qo0 1 [(7, .go (owns 8 0 1))] [64, 67, 69, 70, 72] [(71, .int .i64 k)] ?_
            refine od_ ?_
            refine tk (m := 6) [9] [] [64, 67, 69] [(73, .agg #[.int .i64 ((j + 1 : Nat)), .int .i64 k, .int .u32 h, .int .u32 s])] ([]) #[true, true, true, true, false, true, true, true, true, true, false, false, false, false, false] al0 ?_
            refine any_fork [4, 10] (by kernel_rfl) (by simp) (each_cons _ rfl ?_ (each_cons _ rfl ?_ (each_nil)))
            ·
             refine qo0 1 [(4, .go (owns 0 1 1))] [64, 69, 73] [(68, .slice (some ⟨g173, 0, none⟩) m m)] ?_
             refine od_ ?_
             refine a1 10 rfl ?_
             refine mo0 1 [] [64, 68, 69] (fun γ563 => [(74, .slice (some ⟨γ563 0, 0, none⟩) 1 1)]) (fun γ563 L => bx (γ563 0) (#[.int .i64 ((j + 1 : Nat)), .int .i64 k, .int .u32 h, .int .u32 s]) 43 :: L) (fun γ563 => ?_)
             refine od_ ?_
             exact any_weak (hm fun i => [γ563 0].getD i 0) [64, 68, 69, 74] (by kernel_rfl) rfl rfl rfl
            ·
             refine mo0 1 [] [64, 67, 69] (fun γ564 => [(74, .slice (some ⟨γ564 0, 0, none⟩) 1 1)]) (fun γ564 L => bx (γ564 0) (#[.int .i64 ((j + 1 : Nat)), .int .i64 k, .int .u32 h, .int .u32 s]) 43 :: L) (fun γ564 => ?_)
             refine od_ ?_
             refine a1 4 rfl ?_
             refine qo0 1 [(4, .go (owns 1 1 1))] [64, 69, 74] [(68, .slice (some ⟨g173, 0, none⟩) m m)] ?_
             refine od_ ?_
             exact any_weak (hm fun i => [γ564 0].getD i 0) [64, 68, 69, 74] (by kernel_rfl) rfl rfl rfl
          ·
           refine qo0 1 [(7, .go (owns 8 0 1))] [3, 64, 67, 69, 72] [(71, .int .i64 k)] ?_
           refine od_ ?_
           refine any_fork [4, 6] (by kernel_rfl) (by simp) (each_cons _ rfl ?_ (each_cons _ rfl ?_ (each_nil)))
           ·
            refine qo0 1 [(4, .go (owns 0 1 1))] [3, 64, 69, 71, 72] [(68, .slice (some ⟨g173, 0, none⟩) m m)] ?_
            refine od_ ?_
            refine a1 6 rfl ?_
            refine qo0 1 [(6, .go (owns 5 0 1))] [64, 68, 69, 71, 72] [(70, .int .i64 ((j + 1 : Nat)))] ?_
            refine od_ ?_
            refine tk (m := 5) [9] [] [64, 68, 69] [(73, .agg #[.int .i64 ((j + 1 : Nat)), .int .i64 k, .int .u32 h, .int .u32 s])] ([]) #[true, true, true, true, true, true, true, true, true, true, false, false, false, false, false] al0 ?_
            refine a1 10 rfl ?_
            refine mo0 1 [] [64, 68, 69] (fun γ570 => [(74, .slice (some ⟨γ570 0, 0, none⟩) 1 1)]) (fun γ570 L => bx (γ570 0) (#[.int .i64 ((j + 1 : Nat)), .int .i64 k, .int .u32 h, .int .u32 s]) 43 :: L) (fun γ570 => ?_)
            refine od_ ?_
            exact any_weak (hm fun i => [γ570 0].getD i 0) [64, 68, 69, 74] (by kernel_rfl) rfl rfl rfl
           ·
            refine qo0 1 [(6, .go (owns 5 0 1))] [64, 67, 69, 71, 72] [(70, .int .i64 ((j + 1 : Nat)))] ?_
            refine od_ ?_
            refine tk (m := 6) [9] [] [64, 67, 69] [(73, .agg #[.int .i64 ((j + 1 : Nat)), .int .i64 k, .int .u32 h, .int .u32 s])] ([]) #[true, true, true, true, false, true, true, true, true, true, false, false, false, false, false] al0 ?_
            refine any_fork [4, 10] (by kernel_rfl) (by simp) (each_cons _ rfl ?_ (each_cons _ rfl ?_ (each_nil)))
            ·
             refine qo0 1 [(4, .go (owns 0 1 1))] [64, 69, 73] [(68, .slice (some ⟨g173, 0, none⟩) m m)] ?_
             refine od_ ?_
             refine a1 10 rfl ?_
             refine mo0 1 [] [64, 68, 69] (fun γ574 => [(74, .slice (some ⟨γ574 0, 0, none⟩) 1 1)]) (fun γ574 L => bx (γ574 0) (#[.int .i64 ((j + 1 : Nat)), .int .i64 k, .int .u32 h, .int .u32 s]) 43 :: L) (fun γ574 => ?_)
             refine od_ ?_
             exact any_weak (hm fun i => [γ574 0].getD i 0) [64, 68, 69, 74] (by kernel_rfl) rfl rfl rfl
            ·
             refine mo0 1 [] [64, 67, 69] (fun γ575 => [(74, .slice (some ⟨γ575 0, 0, none⟩) 1 1)]) (fun γ575 L => bx (γ575 0) (#[.int .i64 ((j + 1 : Nat)), .int .i64 k, .int .u32 h, .int .u32 s]) 43 :: L) (fun γ575 => ?_)
             refine od_ ?_
             refine a1 4 rfl ?_
             refine qo0 1 [(4, .go (owns 1 1 1))] [64, 69, 74] [(68, .slice (some ⟨g173, 0, none⟩) m m)] ?_
             refine od_ ?_
             exact any_weak (hm fun i => [γ575 0].getD i 0) [64, 68, 69, 74] (by kernel_rfl) rfl rfl rfl
        refine a1 11 rfl ?_
        refine Ops.pick [[bx (γ452 0) (#[.int .i64 ((j + 1 : Nat)), .int .i64 k, .int .u32 h, .int .u32 s]) 43], [bx (γ213 0) (#[.slice (some ⟨g93, 0, none⟩) n n, .slice (some ⟨g173, 0, none⟩) m m]) 25], [bx g173 ((sets c173 0 (vs.flatMap Enc.enc))) 43], [bx g93 ((sets c93 0 (ds.flatMap Enc.enc))) 32], [bx (γ4 1) (#[.slice none 0 0, .slice none 0 0]) 25], [bx (γ4 0) (#[.slice p n cap, .slice q m capv]) 25], [bx (γ2 0) (#[.int .i64 ((j + 1 : Nat))]) 3], [bx (γ1 3) (#[.slice none 0 0, .slice none 0 0]) 25], [bx (γ1 2) (#[.int .u32 h, .int .u32 s]) 41], [bx (γ1 1) (#[.int .i64 k]) 3], [bx (γ1 0) (#[.slice p n cap, .slice q m capv]) 25]] [0, 1, 3, 4, 5, 6, 7, 8, 9, 10, 2] [] ([bx (γ452 0) (#[.int .i64 ((j + 1 : Nat)), .int .i64 k, .int .u32 h, .int .u32 s]) 43, bx (γ213 0) (#[.slice (some ⟨g93, 0, none⟩) n n, .slice (some ⟨g173, 0, none⟩) m m]) 25, bx g93 ((sets c93 0 (ds.flatMap Enc.enc))) 32, bx (γ4 1) (#[.slice none 0 0, .slice none 0 0]) 25, bx (γ4 0) (#[.slice p n cap, .slice q m capv]) 25, bx (γ2 0) (#[.int .i64 ((j + 1 : Nat))]) 3, bx (γ1 3) (#[.slice none 0 0, .slice none 0 0]) 25, bx (γ1 2) (#[.int .u32 h, .int .u32 s]) 41, bx (γ1 1) (#[.int .i64 k]) 3, bx (γ1 0) (#[.slice p n cap, .slice q m capv]) 25, bx g173 ((sets c173 0 (vs.flatMap Enc.enc))) 43]) (by kernel_rfl) rfl rfl (cP (fun v L' => ∃ q_ capq_ Y_, v = .slice q_ (m + 1) capq_ ∧ L' = [bx (γ213 0) (#[.slice (some ⟨g93, 0, none⟩) n n, .slice (some ⟨g173, 0, none⟩) m m]) 25, bx g93 ((sets c93 0 (ds.flatMap Enc.enc))) 32, bx (γ4 1) (#[.slice none 0 0, .slice none 0 0]) 25, bx (γ4 0) (#[.slice p n cap, .slice q m capv]) 25, bx (γ2 0) (#[.int .i64 ((j + 1 : Nat))]) 3, bx (γ1 3) (#[.slice none 0 0, .slice none 0 0]) 25, bx (γ1 2) (#[.int .u32 h, .int .u32 s]) 41, bx (γ1 1) (#[.int .i64 k]) 3, bx (γ1 0) (#[.slice p n cap, .slice q m capv]) 25] ++ (Y_ ++ []) ∧ SlO 43 Y_ q_ (m + 1) capq_ (vs.take j ++ [⟨(j + 1 : Nat), k, h, s⟩] ++ vs.drop j)) Try.call54 (fun w hw => (insertV_d _ ([bx (γ213 0) (#[.slice (some ⟨g93, 0, none⟩) n n, .slice (some ⟨g173, 0, none⟩) m m]) 25, bx g93 ((sets c93 0 (ds.flatMap Enc.enc))) 32, bx (γ4 1) (#[.slice none 0 0, .slice none 0 0]) 25, bx (γ4 0) (#[.slice p n cap, .slice q m capv]) 25, bx (γ2 0) (#[.int .i64 ((j + 1 : Nat))]) 3, bx (γ1 3) (#[.slice none 0 0, .slice none 0 0]) 25, bx (γ1 2) (#[.int .u32 h, .int .u32 s]) 41, bx (γ1 1) (#[.int .i64 k]) 3, bx (γ1 0) (#[.slice p n cap, .slice q m capv]) 25] ++ []) [bx g173 ((sets c173 0 (vs.flatMap Enc.enc))) 43] (some ⟨g173, 0, none⟩) m m vs j (γ452 0) (#[.int .i64 ((j + 1 : Nat)), .int .i64 k, .int .u32 h, .int .u32 s]) 1 ([⟨(j + 1 : Nat), k, h, s⟩]) w (hw.pull (A := [bx (γ213 0) (#[.slice (some ⟨g93, 0, none⟩) n n, .slice (some ⟨g173, 0, none⟩) m m]) 25, bx g93 ((sets c93 0 (ds.flatMap Enc.enc))) 32, bx (γ4 1) (#[.slice none 0 0, .slice none 0 0]) 25, bx (γ4 0) (#[.slice p n cap, .slice q m capv]) 25, bx (γ2 0) (#[.int .i64 ((j + 1 : Nat))]) 3, bx (γ1 3) (#[.slice none 0 0, .slice none 0 0]) 25, bx (γ1 2) (#[.int .u32 h, .int .u32 s]) 41, bx (γ1 1) (#[.int .i64 k]) 3, bx (γ1 0) (#[.slice p n cap, .slice q m capv]) 25]) (Y := [bx g173 ((sets c173 0 (vs.flatMap Enc.enc))) 43]) (R := [])) hO324 (by rfl) (by rfl) (by omega) (by omega) (by omega) (by omega)).mono fun e w' ⟨q_, capq_, Y_, he, hO, hY⟩ => ⟨_, _, he, ⟨q_, capq_, Y_, rfl, rfl, hO⟩, hY.push⟩) ?_)
        rintro v577 L577 ⟨q577, cq577, Y577, rfl, rfl, hO577⟩
        refine od_ ?_
        refine tk (m := 1) [12, 13] [] [75] [(77, .pointer (some ⟨γ213 0, 1, none⟩))] ([]) #[true, true, true, true, true, true, true, true, true, true, true, true, true, true, false] al0 ?_
        refine a1 14 rfl ?_
        refine mo0 1 [(14, .go (owns 0 1 1))] [] (fun _ => []) (fun _ L => (L.set 0 (bx (γ213 0) (#[.slice (some ⟨g93, 0, none⟩) n n, .slice q577 (m + 1) cq577]) 25))) (fun _ => ?_)
        refine od_ ?_
        refine any_nil (by kernel_rfl) ?_
        refine ds_ (sq_ (qa0 [] [] [(5, .int .i64 0)] (ds_ (bk ([]) (.int .i64 0) (qo0 1 [] [4, 7] [(8, .int .i64 0)] (on_ (ds_ (sq_ (qa0 [] [4, 7, 8] [(37, .bool false)] (ds_ (f_ (at_skip (ds_ (sq_ (ma0 [(0, .go (owns 0 0 2)), (1, .go (owns 2 0 2))] [4] (fun _ => [(5, .int .i64 0)]) (fun _ L => (L.set 2 (bx (γ4 1) (#[.slice (some ⟨g93, 0, none⟩) n n, .slice q577 (m + 1) cq577]) 25))) (fun _ => ds_ (bk (owns 2 0 2) (.tuple #[.agg #[.slice (some ⟨g93, 0, none⟩) n n, .slice q577 (m + 1) cq577], .int .i64 0]) (mo0 6 [(7, .go (owns 0 0 2))] [6, 9] (fun γ584 => [(10, .pointer (some ⟨γ584 0, 0, none⟩)), (11, .int .i64 0)]) (fun γ584 L => bx (γ584 0) (#[.slice (some ⟨g93, 0, none⟩) n n, .slice q577 (m + 1) cq577]) 25 :: L) (fun γ584 => on_ (ds_ (sq_ ?_)))))))))))))))))))))
        refine at_any (by kernel_rfl) ?_
        refine tk (m := 5) [2] [] [6, 9, 10] [(20, .int .i64 0)] ([]) #[false, false, true, false, false, false] al0 ?_
        refine any_cut 0 #[true, true, true, true, true, true] ([(6, .pointer (some ⟨γ1 3, 0, none⟩)), (7, .int .i64 ((j + 1 : Nat))), (8, .int .i64 0)]) (bx (γ584 0) (#[.slice (some ⟨g93, 0, none⟩) n n, .slice q577 (m + 1) cq577]) 25 :: bx (γ213 0) (#[.slice (some ⟨g93, 0, none⟩) n n, .slice q577 (m + 1) cq577]) 25 :: bx g93 ((sets c93 0 (ds.flatMap Enc.enc))) 32 :: bx (γ4 1) (#[.slice (some ⟨g93, 0, none⟩) n n, .slice q577 (m + 1) cq577]) 25 :: bx (γ4 0) (#[.slice p n cap, .slice q m capv]) 25 :: bx (γ2 0) (#[.int .i64 ((j + 1 : Nat))]) 3 :: bx (γ1 3) (#[.slice (some ⟨g93, 0, none⟩) n n, .slice q577 (m + 1) cq577]) 25 :: bx (γ1 2) (#[.int .u32 h, .int .u32 s]) 41 :: bx (γ1 1) (#[.int .i64 k]) 3 :: bx (γ1 0) (#[.slice p n cap, .slice q m capv]) 25 :: (Y577 ++ [])) ?_ (fun hm => ?_)
        rotate_left
        ·
         refine any_fork [0, 1] (by kernel_rfl) (by simp) (each_cons _ rfl ?_ (each_cons _ rfl ?_ (each_nil)))
         ·
          refine qo0 1 [(0, .go (owns 0 0 2))] [6, 9, 20] [(18, .agg #[.slice (some ⟨g93, 0, none⟩) n n, .slice q577 (m + 1) cq577])] ?_
          refine od_ ?_
          refine any_fork [1, 3] (by kernel_rfl) (by simp) (each_cons _ rfl ?_ (each_cons _ rfl ?_ (each_nil)))
          ·
           refine qo0 1 [(1, .go (owns 5 0 1))] [6, 18, 20] [(19, .int .i64 ((j + 1 : Nat)))] ?_
           refine od_ ?_
           refine a1 3 rfl ?_
           refine mo0 1 [(3, .go (owns 6 0 2))] [6, 19, 20] (fun _ => []) (fun _ L => (L.set 6 (bx (γ1 3) (#[.slice (some ⟨g93, 0, none⟩) n n, .slice q577 (m + 1) cq577]) 25))) (fun _ => ?_)
           refine od_ ?_
           refine tk (m := 0) [4, 5] [] [6] [(7, .int .i64 ((j + 1 : Nat))), (8, .int .i64 0)] ([]) #[true, true, true, true, true, true] al0 ?_
           exact any_weak hm [6, 7, 8] (by kernel_rfl) rfl rfl rfl
          ·
           refine mo0 1 [(3, .go (owns 6 0 2))] [6, 9, 20] (fun _ => []) (fun _ L => (L.set 6 (bx (γ1 3) (#[.slice (some ⟨g93, 0, none⟩) n n, .slice q577 (m + 1) cq577]) 25))) (fun _ => ?_)
           refine od_ ?_
           refine a1 1 rfl ?_
           refine qo0 1 [(1, .go (owns 5 0 1))] [6, 20] [(19, .int .i64 ((j + 1 : Nat)))] ?_
           refine od_ ?_
           refine tk (m := 0) [4, 5] [] [6] [(7, .int .i64 ((j + 1 : Nat))), (8, .int .i64 0)] ([]) #[true, true, true, true, true, true] al0 ?_
           exact any_weak hm [6, 7, 8] (by kernel_rfl) rfl rfl rfl
         ·
          refine qo0 1 [(1, .go (owns 5 0 1))] [6, 10, 20] [(19, .int .i64 ((j + 1 : Nat)))] ?_
          refine od_ ?_
          refine a1 0 rfl ?_
          refine qo0 1 [(0, .go (owns 0 0 2))] [6, 19, 20] [(18, .agg #[.slice (some ⟨g93, 0, none⟩) n n, .slice q577 (m + 1) cq577])] ?_
          refine od_ ?_
          refine a1 3 rfl ?_
          refine mo0 1 [(3, .go (owns 6 0 2))] [6, 19, 20] (fun _ => []) (fun _ L => (L.set 6 (bx (γ1 3) (#[.slice (some ⟨g93, 0, none⟩) n n, .slice q577 (m + 1) cq577]) 25))) (fun _ => ?_)
          refine od_ ?_
          refine tk (m := 0) [4, 5] [] [6] [(7, .int .i64 ((j + 1 : Nat))), (8, .int .i64 0)] ([]) #[true, true, true, true, true, true] al0 ?_
          exact any_weak hm [6, 7, 8] (by kernel_rfl) rfl rfl rfl
        refine any_nil (by kernel_rfl) ?_
        refine ds_ (rt (owns 6 0 2) (.tuple #[.agg #[.slice (some ⟨g93, 0, none⟩) n n, .slice q577 (m + 1) cq577], .int .i64 ((j + 1 : Nat)), .int .i64 0]) ?_)
        exact fun w' hw => by rw [(addN_ok (addV_ok q6 hg329 q357 (by omega) (gap_at hI hx438 (by omega))) (gap_at hI hx438 (by omega))), addV_ok q6 hg329 q357 (by omega) (gap_at hI hx438 (by omega))]; exact ⟨_, _, _, _, _, _, _, _, rfl, hO321, hO577, hw.below, two_tails (Hs.pick [[bx (γ584 0) (#[.slice (some ⟨g93, 0, none⟩) n n, .slice q577 (m + 1) cq577]) 25], [bx (γ213 0) (#[.slice (some ⟨g93, 0, none⟩) n n, .slice q577 (m + 1) cq577]) 25], [bx g93 ((sets c93 0 (ds.flatMap Enc.enc))) 32], [bx (γ4 1) (#[.slice (some ⟨g93, 0, none⟩) n n, .slice q577 (m + 1) cq577]) 25], [bx (γ4 0) (#[.slice p n cap, .slice q m capv]) 25], [bx (γ2 0) (#[.int .i64 ((j + 1 : Nat))]) 3], [bx (γ1 3) (#[.slice (some ⟨g93, 0, none⟩) n n, .slice q577 (m + 1) cq577]) 25], [bx (γ1 2) (#[.int .u32 h, .int .u32 s]) 41], [bx (γ1 1) (#[.int .i64 k]) 3], [bx (γ1 0) (#[.slice p n cap, .slice q m capv]) 25], Y577] [2, 10] [0, 1, 3, 4, 5, 6, 7, 8, 9] (by kernel_rfl) hw)⟩
      ·
       refine qa [(4, .go (owns 0 1 1)), (6, .no)] [0, 1, 2, 3, 8] [(59, .bool false)] ([¬ (((j : Nat) : Int) < ((m : Nat) : Int))]) (al1 q436) (ds_ (f_ (at_leave _ rfl (ds_ (sq_ (ma [(1, .fit), (2, .go (owns 5 0 1))] [0, 1, 2, 3, 8] (fun _ => []) (fun _ L => (L.set 5 (bx (γ2 0) (#[.int .i64 ((j + 1 : Nat))]) 3))) (fun _ => [Fit .i64 ((j + 1 : Nat))]) (fun _ => (al1 (fit64 (by omega) (by omega)))) (fun _ => ds_ (sq_ ?_))))))))
       refine at_any (by kernel_rfl) ?_
       refine tk (m := 10) [0, 1, 2, 3, 5] [] [1, 2, 3] [(64, .pointer (some ⟨γ213 0, 0, none⟩)), (67, .pointer (some ⟨γ213 0, 1, none⟩)), (69, .int .i64 ((j : Nat)))] ([]) #[true, true, true, true, false, true, false, false, false, false, false, false, false, false, false] al0 ?_
       refine any_cutG 4 #[true, true, true, true, true, true, true, true, true, true, true, false, false, false, false] (fun γ611 => [(64, .pointer (some ⟨γ213 0, 0, none⟩)), (68, .slice (some ⟨g173, 0, none⟩) m m), (69, .int .i64 ((j : Nat))), (74, .slice (some ⟨γ611 0, 0, none⟩) 1 1)]) (fun γ611 => [bx (γ611 0) (#[.int .i64 ((j + 1 : Nat)), .int .i64 k, .int .u32 h, .int .u32 s]) 43, bx (γ213 0) (#[.slice (some ⟨g93, 0, none⟩) n n, .slice (some ⟨g173, 0, none⟩) m m]) 25, bx g173 ((sets c173 0 (vs.flatMap Enc.enc))) 43, bx g93 ((sets c93 0 (ds.flatMap Enc.enc))) 32, bx (γ4 1) (#[.slice none 0 0, .slice none 0 0]) 25, bx (γ4 0) (#[.slice p n cap, .slice q m capv]) 25, bx (γ2 0) (#[.int .i64 ((j + 1 : Nat))]) 3, bx (γ1 3) (#[.slice none 0 0, .slice none 0 0]) 25, bx (γ1 2) (#[.int .u32 h, .int .u32 s]) 41, bx (γ1 1) (#[.int .i64 k]) 3, bx (γ1 0) (#[.slice p n cap, .slice q m capv]) 25]) (fun γ611 => ?_) (fun hm => ?_)
       rotate_left
       ·
        refine any_fork [4, 6, 7, 8] (by kernel_rfl) (by simp) (each_cons _ rfl ?_ (each_cons _ rfl ?_ (each_cons _ rfl ?_ (each_cons _ rfl ?_ (each_nil)))))
        ·
         refine qo0 1 [(4, .go (owns 0 1 1))] [1, 2, 3, 64, 69] [(68, .slice (some ⟨g173, 0, none⟩) m m)] ?_
         refine od_ ?_
         refine any_fork [6, 7, 8] (by kernel_rfl) (by simp) (each_cons _ rfl ?_ (each_cons _ rfl ?_ (each_cons _ rfl ?_ (each_nil))))
         ·
          refine qo0 1 [(6, .go (owns 5 0 1))] [1, 2, 64, 68, 69] [(70, .int .i64 ((j + 1 : Nat)))] ?_
          refine od_ ?_
          refine any_fork [7, 8] (by kernel_rfl) (by simp) (each_cons _ rfl ?_ (each_cons _ rfl ?_ (each_nil)))
          ·
           refine qo0 1 [(7, .go (owns 8 0 1))] [2, 64, 68, 69, 70] [(71, .int .i64 k)] ?_
           refine od_ ?_
           refine a1 8 rfl ?_
           refine qo0 1 [(8, .go (owns 7 0 2))] [64, 68, 69, 70, 71] [(72, .agg #[.int .u32 h, .int .u32 s])] ?_
           refine od_ ?_
           refine tk (m := 5) [9] [] [64, 68, 69] [(73, .agg #[.int .i64 ((j + 1 : Nat)), .int .i64 k, .int .u32 h, .int .u32 s])] ([]) #[true, true, true, true, true, true, true, true, true, true, false, false, false, false, false] al0 ?_
           refine a1 10 rfl ?_
           refine mo0 1 [] [64, 68, 69] (fun γ617 => [(74, .slice (some ⟨γ617 0, 0, none⟩) 1 1)]) (fun γ617 L => bx (γ617 0) (#[.int .i64 ((j + 1 : Nat)), .int .i64 k, .int .u32 h, .int .u32 s]) 43 :: L) (fun γ617 => ?_)
           refine od_ ?_
           exact any_weak (hm fun i => [γ617 0].getD i 0) [64, 68, 69, 74] (by kernel_rfl) rfl rfl rfl
          ·
           refine qo0 1 [(8, .go (owns 7 0 2))] [1, 64, 68, 69, 70] [(72, .agg #[.int .u32 h, .int .u32 s])] ?_
           refine od_ ?_
           refine a1 7 rfl ?_
           refine qo0 1 [(7, .go (owns 8 0 1))] [64, 68, 69, 70, 72] [(71, .int .i64 k)] ?_
           refine od_ ?_
           refine tk (m := 5) [9] [] [64, 68, 69] [(73, .agg #[.int .i64 ((j + 1 : Nat)), .int .i64 k, .int .u32 h, .int .u32 s])] ([]) #[true, true, true, true, true, true, true, true, true, true, false, false, false, false, false] al0 ?_
           refine a1 10 rfl ?_
           refine mo0 1 [] [64, 68, 69] (fun γ621 => [(74, .slice (some ⟨γ621 0, 0, none⟩) 1 1)]) (fun γ621 L => bx (γ621 0) (#[.int .i64 ((j + 1 : Nat)), .int .i64 k, .int .u32 h, .int .u32 s]) 43 :: L) (fun γ621 => ?_)
           refine od_ ?_
           exact any_weak (hm fun i => [γ621 0].getD i 0) [64, 68, 69, 74] (by kernel_rfl) rfl rfl rfl
         ·
          refine qo0 1 [(7, .go (owns 8 0 1))] [2, 3, 64, 68, 69] [(71, .int .i64 k)] ?_
          refine od_ ?_
          refine any_fork [6, 8] (by kernel_rfl) (by simp) (each_cons _ rfl ?_ (each_cons _ rfl ?_ (each_nil)))
          ·
           refine qo0 1 [(6, .go (owns 5 0 1))] [2, 64, 68, 69, 71] [(70, .int .i64 ((j + 1 : Nat)))] ?_
           refine od_ ?_
           refine a1 8 rfl ?_
           refine qo0 1 [(8, .go (owns 7 0 2))] [64, 68, 69, 70, 71] [(72, .agg #[.int .u32 h, .int .u32 s])] ?_
           refine od_ ?_
           refine tk (m := 5) [9] [] [64, 68, 69] [(73, .agg #[.int .i64 ((j + 1 : Nat)), .int .i64 k, .int .u32 h, .int .u32 s])] ([]) #[true, true, true, true, true, true, true, true, true, true, false, false, false, false, false] al0 ?_
           refine a1 10 rfl ?_
           refine mo0 1 [] [64, 68, 69] (fun γ626 => [(74, .slice (some ⟨γ626 0, 0, none⟩) 1 1)]) (fun γ626 L => bx (γ626 0) (#[.int .i64 ((j + 1 : Nat)), .int .i64 k, .int .u32 h, .int .u32 s]) 43 :: L) (fun γ626 => ?_)
           refine od_ ?_
           exact any_weak (hm fun i => [γ626 0].getD i 0) [64, 68, 69, 74] (by kernel_rfl) rfl rfl rfl
          ·
           refine qo0 1 [(8, .go (owns 7 0 2))] [3, 64, 68, 69, 71] [(72, .agg #[.int .u32 h, .int .u32 s])] ?_
           refine od_ ?_
           refine a1 6 rfl ?_
           refine qo0 1 [(6, .go (owns 5 0 1))] [64, 68, 69, 71, 72] [(70, .int .i64 ((j + 1 : Nat)))] ?_
           refine od_ ?_
           refine tk (m := 5) [9] [] [64, 68, 69] [(73, .agg #[.int .i64 ((j + 1 : Nat)), .int .i64 k, .int .u32 h, .int .u32 s])] ([]) #[true, true, true, true, true, true, true, true, true, true, false, false, false, false, false] al0 ?_
           refine a1 10 rfl ?_
           refine mo0 1 [] [64, 68, 69] (fun γ630 => [(74, .slice (some ⟨γ630 0, 0, none⟩) 1 1)]) (fun γ630 L => bx (γ630 0) (#[.int .i64 ((j + 1 : Nat)), .int .i64 k, .int .u32 h, .int .u32 s]) 43 :: L) (fun γ630 => ?_)
           refine od_ ?_
           exact any_weak (hm fun i => [γ630 0].getD i 0) [64, 68, 69, 74] (by kernel_rfl) rfl rfl rfl
         ·
          refine qo0 1 [(8, .go (owns 7 0 2))] [1, 3, 64, 68, 69] [(72, .agg #[.int .u32 h, .int .u32 s])] ?_
          refine od_ ?_
          refine any_fork [6, 7] (by kernel_rfl) (by simp) (each_cons _ rfl ?_ (each_cons _ rfl ?_ (each_nil)))
          ·
           refine qo0 1 [(6, .go (owns 5 0 1))] [1, 64, 68, 69, 72] [(70, .int .i64 ((j + 1 : Nat)))] ?_
           refine od_ ?_
           refine a1 7 rfl ?_
           refine qo0 1 [(7, .go (owns 8 0 1))] [64, 68, 69, 70, 72] [(71, .int .i64 k)] ?_
           refine od_ ?_
           refine tk (m := 5) [9] [] [64, 68, 69] [(73, .agg #[.int .i64 ((j + 1 : Nat)), .int .i64 k, .int .u32 h, .int .u32 s])] ([]) #[true, true, true, true, true, true, true, true, true, true, false, false, false, false, false] al0 ?_
           refine a1 10 rfl ?_
           refine mo0 1 [] [64, 68, 69] (fun γ635 => [(74, .slice (some ⟨γ635 0, 0, none⟩) 1 1)]) (fun γ635 L => bx (γ635 0) (#[.int .i64 ((j + 1 : Nat)), .int .i64 k, .int .u32 h, .int .u32 s]) 43 :: L) (fun γ635 => ?_)
           refine od_ ?_
           exact any_weak (hm fun i => [γ635 0].getD i 0) [64, 68, 69, 74] (by kernel_rfl) rfl rfl rfl
          ·
           refine qo0 1 [(7, .go (owns 8 0 1))] [3, 64, 68, 69, 72] [(71, .int .i64 k)] ?_
           refine od_ ?_
           refine a1 6 rfl ?_
           refine qo0 1 [(6, .go (owns 5 0 1))] [64, 68, 69, 71, 72] [(70, .int .i64 ((j + 1 : Nat)))] ?_
           refine od_ ?_
           refine tk (m := 5) [9] [] [64, 68, 69] [(73, .agg #[.int .i64 ((j + 1 : Nat)), .int .i64 k, .int .u32 h, .int .u32 s])] ([]) #[true, true, true, true, true, true, true, true, true, true, false, false, false, false, false] al0 ?_
           refine a1 10 rfl ?_
           refine mo0 1 [] [64, 68, 69] (fun γ639 => [(74, .slice (some ⟨γ639 0, 0, none⟩) 1 1)]) (fun γ639 L => bx (γ639 0) (#[.int .i64 ((j + 1 : Nat)), .int .i64 k, .int .u32 h, .int .u32 s]) 43 :: L) (fun γ639 => ?_)
           refine od_ ?_
           exact any_weak (hm fun i => [γ639 0].getD i 0) [64, 68, 69, 74] (by kernel_rfl) rfl rfl rfl
        ·
         refine qo0 1 [(6, .go (owns 5 0 1))] [1, 2, 64, 67, 69] [(70, .int .i64 ((j + 1 : Nat)))] ?_
         refine od_ ?_
         refine any_fork [4, 7, 8] (by kernel_rfl) (by simp) (each_cons _ rfl ?_ (each_cons _ rfl ?_ (each_cons _ rfl ?_ (each_nil))))
         ·
          refine qo0 1 [(4, .go (owns 0 1 1))] [1, 2, 64, 69, 70] [(68, .slice (some ⟨g173, 0, none⟩) m m)] ?_
          refine od_ ?_
          refine any_fork [7, 8] (by kernel_rfl) (by simp) (each_cons _ rfl ?_ (each_cons _ rfl ?_ (each_nil)))
          ·
           refine qo0 1 [(7, .go (owns 8 0 1))] [2, 64, 68, 69, 70] [(71, .int .i64 k)] ?_
           refine od_ ?_
           refine a1 8 rfl ?_
           refine qo0 1 [(8, .go (owns 7 0 2))] [64, 68, 69, 70, 71] [(72, .agg #[.int .u32 h, .int .u32 s])] ?_
           refine od_ ?_
           refine tk (m := 5) [9] [] [64, 68, 69] [(73, .agg #[.int .i64 ((j + 1 : Nat)), .int .i64 k, .int .u32 h, .int .u32 s])] ([]) #[true, true, true, true, true, true, true, true, true, true, false, false, false, false, false] al0 ?_
           refine a1 10 rfl ?_
           refine mo0 1 [] [64, 68, 69] (fun γ645 => [(74, .slice (some ⟨γ645 0, 0, none⟩) 1 1)]) (fun γ645 L => bx (γ645 0) (#[.int .i64 ((j + 1 : Nat)), .int .i64 k, .int .u32 h, .int .u32 s]) 43 :: L) (fun γ645 => ?_)
           refine od_ ?_
           exact any_weak (hm fun i => [γ645 0].getD i 0) [64, 68, 69, 74] (by kernel_rfl) rfl rfl rfl
          ·
           refine qo0 1 [(8, .go (owns 7 0 2))] [1, 64, 68, 69, 70] [(72, .agg #[.int .u32 h, .int .u32 s])] ?_
           refine od_ ?_
           refine a1 7 rfl ?_
           refine qo0 1 [(7, .go (owns 8 0 1))] [64, 68, 69, 70, 72] [(71, .int .i64 k)] ?_
           refine od_ ?_
           refine tk (m := 5) [9] [] [64, 68, 69] [(73, .agg #[.int .i64 ((j + 1 : Nat)), .int .i64 k, .int .u32 h, .int .u32 s])] ([]) #[true, true, true, true, true, true, true, true, true, true, false, false, false, false, false] al0 ?_
           refine a1 10 rfl ?_
           refine mo0 1 [] [64, 68, 69] (fun γ649 => [(74, .slice (some ⟨γ649 0, 0, none⟩) 1 1)]) (fun γ649 L => bx (γ649 0) (#[.int .i64 ((j + 1 : Nat)), .int .i64 k, .int .u32 h, .int .u32 s]) 43 :: L) (fun γ649 => ?_)
           refine od_ ?_
           exact any_weak (hm fun i => [γ649 0].getD i 0) [64, 68, 69, 74] (by kernel_rfl) rfl rfl rfl
         ·
          refine qo0 1 [(7, .go (owns 8 0 1))] [2, 64, 67, 69, 70] [(71, .int .i64 k)] ?_
          refine od_ ?_
          refine any_fork [4, 8] (by kernel_rfl) (by simp) (each_cons _ rfl ?_ (each_cons _ rfl ?_ (each_nil)))
          ·
           refine qo0 1 [(4, .go (owns 0 1 1))] [2, 64, 69, 70, 71] [(68, .slice (some ⟨g173, 0, none⟩) m m)] ?_
           refine od_ ?_
           refine a1 8 rfl ?_
           refine qo0 1 [(8, .go (owns 7 0 2))] [64, 68, 69, 70, 71] [(72, .agg #[.int .u32 h, .int .u32 s])] ?_
           refine od_ ?_
           refine tk (m := 5) [9] [] [64, 68, 69] [(73, .agg #[.int .i64 ((j + 1 : Nat)), .int .i64 k, .int .u32 h, .int .u32 s])] ([]) #[true, true, true, true, true, true, true, true, true, true, false, false, false, false, false] al0 ?_
           refine a1 10 rfl ?_
           refine mo0 1 [] [64, 68, 69] (fun γ654 => [(74, .slice (some ⟨γ654 0, 0, none⟩) 1 1)]) (fun γ654 L => bx (γ654 0) (#[.int .i64 ((j + 1 : Nat)), .int .i64 k, .int .u32 h, .int .u32 s]) 43 :: L) (fun γ654 => ?_)
           refine od_ ?_
           exact any_weak (hm fun i => [γ654 0].getD i 0) [64, 68, 69, 74] (by kernel_rfl) rfl rfl rfl
          ·
           refine qo0 1 [(8, .go (owns 7 0 2))] [64, 67, 69, 70, 71] [(72, .agg #[.int .u32 h, .int .u32 s])] ?_
           refine od_ ?_
           refine tk (m := 6) [9] [] [64, 67, 69] [(73, .agg #[.int .i64 ((j + 1 : Nat)), .int .i64 k, .int .u32 h, .int .u32 s])] ([]) #[true, true, true, true, false, true, true, true, true, true, false, false, false, false, false] al0 ?_
           refine any_fork [4, 10] (by kernel_rfl) (by simp) (each_cons _ rfl ?_ (each_cons _ rfl ?_ (each_nil)))
           ·
            refine qo0 1 [(4, .go (owns 0 1 1))] [64, 69, 73] [(68, .slice (some ⟨g173, 0, none⟩) m m)] ?_
            refine od_ ?_
            refine a1 10 rfl ?_
            refine mo0 1 [] [64, 68, 69] (fun γ658 => [(74, .slice (some ⟨γ658 0, 0, none⟩) 1 1)]) (fun γ658 L => bx (γ658 0) (#[.int .i64 ((j + 1 : Nat)), .int .i64 k, .int .u32 h, .int .u32 s]) 43 :: L) (fun γ658 => ?_)
            refine od_ ?_
            exact any_weak (hm fun i => [γ658 0].getD i 0) [64, 68, 69, 74] (by kernel_rfl) rfl rfl rfl
           ·
            refine mo0 1 [] [64, 67, 69] (fun γ659 => [(74, .slice (some ⟨γ659 0, 0, none⟩) 1 1)]) (fun γ659 L => bx (γ659 0) (#[.int .i64 ((j + 1 : Nat)), .int .i64 k, .int .u32 h, .int .u32 s]) 43 :: L) (fun γ659 => ?_)
            refine od_ ?_
            refine a1 4 rfl ?_
            refine qo0 1 [(4, .go (owns 1 1 1))] [64, 69, 74] [(68, .slice (some ⟨g173, 0, none⟩) m m)] ?_
            refine od_ ?_
            exact any_weak (hm fun i => [γ659 0].getD i 0) [64, 68, 69, 74] (by kernel_rfl) rfl rfl rfl
         ·
          refine qo0 1 [(8, .go (owns 7 0 2))] [1, 64, 67, 69, 70] [(72, .agg #[.int .u32 h, .int .u32 s])] ?_
          refine od_ ?_
          refine any_fork [4, 7] (by kernel_rfl) (by simp) (each_cons _ rfl ?_ (each_cons _ rfl ?_ (each_nil)))
          ·
           refine qo0 1 [(4, .go (owns 0 1 1))] [1, 64, 69, 70, 72] [(68, .slice (some ⟨g173, 0, none⟩) m m)] ?_
           refine od_ ?_
           refine a1 7 rfl ?_
           refine qo0 1 [(7, .go (owns 8 0 1))] [64, 68, 69, 70, 72] [(71, .int .i64 k)] ?_
           refine od_ ?_
           refine tk (m := 5) [9] [] [64, 68, 69] [(73, .agg #[.int .i64 ((j + 1 : Nat)), .int .i64 k, .int .u32 h, .int .u32 s])] ([]) #[true, true, true, true, true, true, true, true, true, true, false, false, false, false, false] al0 ?_
           refine a1 10 rfl ?_
           refine mo0 1 [] [64, 68, 69] (fun γ665 => [(74, .slice (some ⟨γ665 0, 0, none⟩) 1 1)]) (fun γ665 L => bx (γ665 0) (#[.int .i64 ((j + 1 : Nat)), .int .i64 k, .int .u32 h, .int .u32 s]) 43 :: L) (fun γ665 => ?_)
           refine od_ ?_
           exact any_weak (hm fun i => [γ665 0].getD i 0) [64, 68, 69, 74] (by kernel_rfl) rfl rfl rfl
          ·
           refine qo0 1 [(7, .go (owns 8 0 1))] [64, 67, 69, 70, 72] [(71, .int .i64 k)] ?_
           refine od_ ?_
           refine tk (m := 6) [9] [] [64, 67, 69] [(73, .agg #[.int .i64 ((j + 1 : Nat)), .int .i64 k, .int .u32 h, .int .u32 s])] ([]) #[true, true, true, true, false, true, true, true, true, true, false, false, false, false, false] al0 ?_
           refine any_fork [4, 10] (by kernel_rfl) (by simp) (each_cons _ rfl ?_ (each_cons _ rfl ?_ (each_nil)))
           ·
            refine qo0 1 [(4, .go (owns 0 1 1))] [64, 69, 73] [(68, .slice (some ⟨g173, 0, none⟩) m m)] ?_
            refine od_ ?_
            refine a1 10 rfl ?_
            refine mo0 1 [] [64, 68, 69] (fun γ669 => [(74, .slice (some ⟨γ669 0, 0, none⟩) 1 1)]) (fun γ669 L => bx (γ669 0) (#[.int .i64 ((j + 1 : Nat)), .int .i64 k, .int .u32 h, .int .u32 s]) 43 :: L) (fun γ669 => ?_)
            refine od_ ?_
            exact any_weak (hm fun i => [γ669 0].getD i 0) [64, 68, 69, 74] (by kernel_rfl) rfl rfl rfl
           ·
            refine mo0 1 [] [64, 67, 69] (fun γ670 => [(74, .slice (some ⟨γ670 0, 0, none⟩) 1 1)]) (fun γ670 L => bx (γ670 0) (#[.int .i64 ((j + 1 : Nat)), .int .i64 k, .int .u32 h, .int .u32 s]) 43 :: L) (fun γ670 => ?_)
            refine od_ ?_
            refine a1 4 rfl ?_
            refine qo0 1 [(4, .go (owns 1 1 1))] [64, 69, 74] [(68, .slice (some ⟨g173, 0, none⟩) m m)] ?_
            refine od_ ?_
            exact any_weak (hm fun i => [γ670 0].getD i 0) [64, 68, 69, 74] (by kernel_rfl) rfl rfl rfl
        ·
         refine qo0 1 [(7, .go (owns 8 0 1))] [2, 3, 64, 67, 69] [(71, .int .i64 k)] ?_
         refine od_ ?_
         refine any_fork [4, 6, 8] (by kernel_rfl) (by simp) (each_cons _ rfl ?_ (each_cons _ rfl ?_ (each_cons _ rfl ?_ (each_nil))))
         ·
          refine qo0 1 [(4, .go (owns 0 1 1))] [2, 3, 64, 69, 71] [(68, .slice (some ⟨g173, 0, none⟩) m m)] ?_
          refine od_ ?_
          refine any_fork [6, 8] (by kernel_rfl) (by simp) (each_cons _ rfl ?_ (each_cons _ rfl ?_ (each_nil)))
          ·
           refine qo0 1 [(6, .go (owns 5 0 1))] [2, 64, 68, 69, 71] [(70, .int .i64 ((j + 1 : Nat)))] ?_
           refine od_ ?_
           refine a1 8 rfl ?_
           refine qo0 1 [(8, .go (owns 7 0 2))] [64, 68, 69, 70, 71] [(72, .agg #[.int .u32 h, .int .u32 s])] ?_
           refine od_ ?_
           refine tk (m := 5) [9] [] [64, 68, 69] [(73, .agg #[.int .i64 ((j + 1 : Nat)), .int .i64 k, .int .u32 h, .int .u32 s])] ([]) #[true, true, true, true, true, true, true, true, true, true, false, false, false, false, false] al0 ?_
           refine a1 10 rfl ?_
           refine mo0 1 [] [64, 68, 69] (fun γ677 => [(74, .slice (some ⟨γ677 0, 0, none⟩) 1 1)]) (fun γ677 L => bx (γ677 0) (#[.int .i64 ((j + 1 : Nat)), .int .i64 k, .int .u32 h, .int .u32 s]) 43 :: L) (fun γ677 => ?_)
           refine od_ ?_
           exact any_weak (hm fun i => [γ677 0].getD i 0) [64, 68, 69, 74] (by kernel_rfl) rfl rfl rfl
          ·
           refine qo0 1 [(8, .go (owns 7 0 2))] [3, 64, 68, 69, 71] [(72, .agg #[.int .u32 h, .int .u32 s])] ?_
           refine od_ ?_
           refine a1 6 rfl ?_
           refine qo0 1 [(6, .go (owns 5 0 1))] [64, 68, 69, 71, 72] [(70, .int .i64 ((j + 1 : Nat)))] ?_
           refine od_ ?_
           refine tk (m := 5) [9] [] [64, 68, 69] [(73, .agg #[.int .i64 ((j + 1 : Nat)), .int .i64 k, .int .u32 h, .int .u32 s])] ([]) #[true, true, true, true, true, true, true, true, true, true, false, false, false, false, false] al0 ?_
           refine a1 10 rfl ?_
           refine mo0 1 [] [64, 68, 69] (fun γ681 => [(74, .slice (some ⟨γ681 0, 0, none⟩) 1 1)]) (fun γ681 L => bx (γ681 0) (#[.int .i64 ((j + 1 : Nat)), .int .i64 k, .int .u32 h, .int .u32 s]) 43 :: L) (fun γ681 => ?_)
           refine od_ ?_
           exact any_weak (hm fun i => [γ681 0].getD i 0) [64, 68, 69, 74] (by kernel_rfl) rfl rfl rfl
         ·
          refine qo0 1 [(6, .go (owns 5 0 1))] [2, 64, 67, 69, 71] [(70, .int .i64 ((j + 1 : Nat)))] ?_
          refine od_ ?_
          refine any_fork [4, 8] (by kernel_rfl) (by simp) (each_cons _ rfl ?_ (each_cons _ rfl ?_ (each_nil)))
          ·
           refine qo0 1 [(4, .go (owns 0 1 1))] [2, 64, 69, 70, 71] [(68, .slice (some ⟨g173, 0, none⟩) m m)] ?_
           refine od_ ?_
           refine a1 8 rfl ?_
           refine qo0 1 [(8, .go (owns 7 0 2))] [64, 68, 69, 70, 71] [(72, .agg #[.int .u32 h, .int .u32 s])] ?_
           refine od_ ?_
           refine tk (m := 5) [9] [] [64, 68, 69] [(73, .agg #[.int .i64 ((j + 1 : Nat)), .int .i64 k, .int .u32 h, .int .u32 s])] ([]) #[true, true, true, true, true, true, true, true, true, true, false, false, false, false, false] al0 ?_
           refine a1 10 rfl ?_
           refine mo0 1 [] [64, 68, 69] (fun γ686 => [(74, .slice (some ⟨γ686 0, 0, none⟩) 1 1)]) (fun γ686 L => bx (γ686 0) (#[.int .i64 ((j + 1 : Nat)), .int .i64 k, .int .u32 h, .int .u32 s]) 43 :: L) (fun γ686 => ?_)
           refine od_ ?_
           exact any_weak (hm fun i => [γ686 0].getD i 0) [64, 68, 69, 74] (by kernel_rfl) rfl rfl rfl
          ·
           refine qo0 1 [(8, .go (owns 7 0 2))] [64, 67, 69, 70, 71] [(72, .agg #[.int .u32 h, .int .u32 s])] ?_
           refine od_ ?_
           refine tk (m := 6) [9] [] [64, 67, 69] [(73, .agg #[.int .i64 ((j + 1 : Nat)), .int .i64 k, .int .u32 h, .int .u32 s])] ([]) #[true, true, true, true, false, true, true, true, true, true, false, false, false, false, false] al0 ?_
           refine any_fork [4, 10] (by kernel_rfl) (by simp) (each_cons _ rfl ?_ (each_cons _ rfl ?_ (each_nil)))
           ·
            refine qo0 1 [(4, .go (owns 0 1 1))] [64, 69, 73] [(68, .slice (some ⟨g173, 0, none⟩) m m)] ?_
            refine od_ ?_
            refine a1 10 rfl ?_
            refine mo0 1 [] [64, 68, 69] (fun γ690 => [(74, .slice (some ⟨γ690 0, 0, none⟩) 1 1)]) (fun γ690 L => bx (γ690 0) (#[.int .i64 ((j + 1 : Nat)), .int .i64 k, .int .u32 h, .int .u32 s]) 43 :: L) (fun γ690 => ?_)
            refine od_ ?_
            exact any_weak (hm fun i => [γ690 0].getD i 0) [64, 68, 69, 74] (by kernel_rfl) rfl rfl rfl
           ·
            refine mo0 1 [] [64, 67, 69] (fun γ691 => [(74, .slice (some ⟨γ691 0, 0, none⟩) 1 1)]) (fun γ691 L => bx (γ691 0) (#[.int .i64 ((j + 1 : Nat)), .int .i64 k, .int .u32 h, .int .u32 s]) 43 :: L) (fun γ691 => ?_)
            refine od_ ?_
            refine a1 4 rfl ?_
            refine qo0 1 [(4, .go (owns 1 1 1))] [64, 69, 74] [(68, .slice (some ⟨g173, 0, none⟩) m m)] ?_
            refine od_ ?_
            exact any_weak (hm fun i => [γ691 0].getD i 0) [64, 68, 69, 74] (by kernel_rfl) rfl rfl rfl
         ·
          refine qo0 1 [(8, .go (owns 7 0 2))] [3, 64, 67, 69, 71] [(72, .agg #[.int .u32 h, .int .u32 s])] ?_
          refine od_ ?_
          refine any_fork [4, 6] (by kernel_rfl) (by simp) (each_cons _ rfl ?_ (each_cons _ rfl ?_ (each_nil)))
          ·
           refine qo0 1 [(4, .go (owns 0 1 1))] [3, 64, 69, 71, 72] [(68, .slice (some ⟨g173, 0, none⟩) m m)] ?_
           refine od_ ?_
           refine a1 6 rfl ?_
           refine qo0 1 [(6, .go (owns 5 0 1))] [64, 68, 69, 71, 72] [(70, .int .i64 ((j + 1 : Nat)))] ?_
           refine od_ ?_
           refine tk (m := 5) [9] [] [64, 68, 69] [(73, .agg #[.int .i64 ((j + 1 : Nat)), .int .i64 k, .int .u32 h, .int .u32 s])] ([]) #[true, true, true, true, true, true, true, true, true, true, false, false, false, false, false] al0 ?_
           refine a1 10 rfl ?_
           refine mo0 1 [] [64, 68, 69] (fun γ697 => [(74, .slice (some ⟨γ697 0, 0, none⟩) 1 1)]) (fun γ697 L => bx (γ697 0) (#[.int .i64 ((j + 1 : Nat)), .int .i64 k, .int .u32 h, .int .u32 s]) 43 :: L) (fun γ697 => ?_)
           refine od_ ?_
           exact any_weak (hm fun i => [γ697 0].getD i 0) [64, 68, 69, 74] (by kernel_rfl) rfl rfl rfl
          ·
           refine qo0 1 [(6, .go (owns 5 0 1))] [64, 67, 69, 71, 72] [(70, .int .i64 ((j + 1 : Nat)))] ?_
           refine od_ ?_
           refine tk (m := 6) [9] [] [64, 67, 69] [(73, .agg #[.int .i64 ((j + 1 : Nat)), .int .i64 k, .int .u32 h, .int .u32 s])] ([]) #[true, true, true, true, false, true, true, true, true, true, false, false, false, false, false] al0 ?_
           refine any_fork [4, 10] (by kernel_rfl) (by simp) (each_cons _ rfl ?_ (each_cons _ rfl ?_ (each_nil)))
           ·
            refine qo0 1 [(4, .go (owns 0 1 1))] [64, 69, 73] [(68, .slice (some ⟨g173, 0, none⟩) m m)] ?_
            refine od_ ?_
            refine a1 10 rfl ?_
            refine mo0 1 [] [64, 68, 69] (fun γ701 => [(74, .slice (some ⟨γ701 0, 0, none⟩) 1 1)]) (fun γ701 L => bx (γ701 0) (#[.int .i64 ((j + 1 : Nat)), .int .i64 k, .int .u32 h, .int .u32 s]) 43 :: L) (fun γ701 => ?_)
            refine od_ ?_
            exact any_weak (hm fun i => [γ701 0].getD i 0) [64, 68, 69, 74] (by kernel_rfl) rfl rfl rfl
           ·
            refine mo0 1 [] [64, 67, 69] (fun γ702 => [(74, .slice (some ⟨γ702 0, 0, none⟩) 1 1)]) (fun γ702 L => bx (γ702 0) (#[.int .i64 ((j + 1 : Nat)), .int .i64 k, .int .u32 h, .int .u32 s]) 43 :: L) (fun γ702 => ?_)
            refine od_ ?_
            refine a1 4 rfl ?_
            refine qo0 1 [(4, .go (owns 1 1 1))] [64, 69, 74] [(68, .slice (some ⟨g173, 0, none⟩) m m)] ?_
            refine od_ ?_
            exact any_weak (hm fun i => [γ702 0].getD i 0) [64, 68, 69, 74] (by kernel_rfl) rfl rfl rfl
        ·
         refine qo0 1 [(8, .go (owns 7 0 2))] [1, 3, 64, 67, 69] [(72, .agg #[.int .u32 h, .int .u32 s])] ?_
         refine od_ ?_
         refine any_fork [4, 6, 7] (by kernel_rfl) (by simp) (each_cons _ rfl ?_ (each_cons _ rfl ?_ (each_cons _ rfl ?_ (each_nil))))
         ·
          refine qo0 1 [(4, .go (owns 0 1 1))] [1, 3, 64, 69, 72] [(68, .slice (some ⟨g173, 0, none⟩) m m)] ?_
          refine od_ ?_
          refine any_fork [6, 7] (by kernel_rfl) (by simp) (each_cons _ rfl ?_ (each_cons _ rfl ?_ (each_nil)))
          ·
           refine qo0 1 [(6, .go (owns 5 0 1))] [1, 64, 68, 69, 72] [(70, .int .i64 ((j + 1 : Nat)))] ?_
           refine od_ ?_
           refine a1 7 rfl ?_
           refine qo0 1 [(7, .go (owns 8 0 1))] [64, 68, 69, 70, 72] [(71, .int .i64 k)] ?_
           refine od_ ?_
           refine tk (m := 5) [9] [] [64, 68, 69] [(73, .agg #[.int .i64 ((j + 1 : Nat)), .int .i64 k, .int .u32 h, .int .u32 s])] ([]) #[true, true, true, true, true, true, true, true, true, true, false, false, false, false, false] al0 ?_
           refine a1 10 rfl ?_
           refine mo0 1 [] [64, 68, 69] (fun γ709 => [(74, .slice (some ⟨γ709 0, 0, none⟩) 1 1)]) (fun γ709 L => bx (γ709 0) (#[.int .i64 ((j + 1 : Nat)), .int .i64 k, .int .u32 h, .int .u32 s]) 43 :: L) (fun γ709 => ?_)
           refine od_ ?_
           exact any_weak (hm fun i => [γ709 0].getD i 0) [64, 68, 69, 74] (by kernel_rfl) rfl rfl rfl
          ·
           refine qo0 1 [(7, .go (owns 8 0 1))] [3, 64, 68, 69, 72] [(71, .int .i64 k)] ?_
           refine od_ ?_
           refine a1 6 rfl ?_
           refine qo0 1 [(6, .go (owns 5 0 1))] [64, 68, 69, 71, 72] [(70, .int .i64 ((j + 1 : Nat)))] ?_
           refine od_ ?_
           refine tk (m := 5) [9] [] [64, 68, 69] [(73, .agg #[.int .i64 ((j + 1 : Nat)), .int .i64 k, .int .u32 h, .int .u32 s])] ([]) #[true, true, true, true, true, true, true, true, true, true, false, false, false, false, false] al0 ?_
           refine a1 10 rfl ?_
           refine mo0 1 [] [64, 68, 69] (fun γ713 => [(74, .slice (some ⟨γ713 0, 0, none⟩) 1 1)]) (fun γ713 L => bx (γ713 0) (#[.int .i64 ((j + 1 : Nat)), .int .i64 k, .int .u32 h, .int .u32 s]) 43 :: L) (fun γ713 => ?_)
           refine od_ ?_
           exact any_weak (hm fun i => [γ713 0].getD i 0) [64, 68, 69, 74] (by kernel_rfl) rfl rfl rfl
         ·
          refine qo0 1 [(6, .go (owns 5 0 1))] [1, 64, 67, 69, 72] [(70, .int .i64 ((j + 1 : Nat)))] ?_
          refine od_ ?_
          refine any_fork [4, 7] (by kernel_rfl) (by simp) (each_cons _ rfl ?_ (each_cons _ rfl ?_ (each_nil)))
          ·
           refine qo0 1 [(4, .go (owns 0 1 1))] [1, 64, 69, 70, 72] [(68, .slice (some ⟨g173, 0, none⟩) m m)] ?_
           refine od_ ?_
           refine a1 7 rfl ?_
           refine qo0 1 [(7, .go (owns 8 0 1))] [64, 68, 69, 70, 72] [(71, .int .i64 k)] ?_
           refine od_ ?_
           refine tk (m := 5) [9] [] [64, 68, 69] [(73, .agg #[.int .i64 ((j + 1 : Nat)), .int .i64 k, .int .u32 h, .int .u32 s])] ([]) #[true, true, true, true, true, true, true, true, true, true, false, false, false, false, false] al0 ?_
           refine a1 10 rfl ?_
           refine mo0 1 [] [64, 68, 69] (fun γ718 => [(74, .slice (some ⟨γ718 0, 0, none⟩) 1 1)]) (fun γ718 L => bx (γ718 0) (#[.int .i64 ((j + 1 : Nat)), .int .i64 k, .int .u32 h, .int .u32 s]) 43 :: L) (fun γ718 => ?_)
           refine od_ ?_
           exact any_weak (hm fun i => [γ718 0].getD i 0) [64, 68, 69, 74] (by kernel_rfl) rfl rfl rfl
          ·
           refine qo0 1 [(7, .go (owns 8 0 1))] [64, 67, 69, 70, 72] [(71, .int .i64 k)] ?_
           refine od_ ?_
           refine tk (m := 6) [9] [] [64, 67, 69] [(73, .agg #[.int .i64 ((j + 1 : Nat)), .int .i64 k, .int .u32 h, .int .u32 s])] ([]) #[true, true, true, true, false, true, true, true, true, true, false, false, false, false, false] al0 ?_
           refine any_fork [4, 10] (by kernel_rfl) (by simp) (each_cons _ rfl ?_ (each_cons _ rfl ?_ (each_nil)))
           ·
            refine qo0 1 [(4, .go (owns 0 1 1))] [64, 69, 73] [(68, .slice (some ⟨g173, 0, none⟩) m m)] ?_
            refine od_ ?_
            refine a1 10 rfl ?_
            refine mo0 1 [] [64, 68, 69] (fun γ722 => [(74, .slice (some ⟨γ722 0, 0, none⟩) 1 1)]) (fun γ722 L => bx (γ722 0) (#[.int .i64 ((j + 1 : Nat)), .int .i64 k, .int .u32 h, .int .u32 s]) 43 :: L) (fun γ722 => ?_)
            refine od_ ?_
            exact any_weak (hm fun i => [γ722 0].getD i 0) [64, 68, 69, 74] (by kernel_rfl) rfl rfl rfl
           ·
            refine mo0 1 [] [64, 67, 69] (fun γ723 => [(74, .slice (some ⟨γ723 0, 0, none⟩) 1 1)]) (fun γ723 L => bx (γ723 0) (#[.int .i64 ((j + 1 : Nat)), .int .i64 k, .int .u32 h, .int .u32 s]) 43 :: L) (fun γ723 => ?_)
            refine od_ ?_
            refine a1 4 rfl ?_
            refine qo0 1 [(4, .go (owns 1 1 1))] [64, 69, 74] [(68, .slice (some ⟨g173, 0, none⟩) m m)] ?_
            refine od_ ?_
            exact any_weak (hm fun i => [γ723 0].getD i 0) [64, 68, 69, 74] (by kernel_rfl) rfl rfl rfl
         ·
          refine qo0 1 [(7, .go (owns 8 0 1))] [3, 64, 67, 69, 72] [(71, .int .i64 k)] ?_
          refine od_ ?_
          refine any_fork [4, 6] (by kernel_rfl) (by simp) (each_cons _ rfl ?_ (each_cons _ rfl ?_ (each_nil)))
          ·
           refine qo0 1 [(4, .go (owns 0 1 1))] [3, 64, 69, 71, 72] [(68, .slice (some ⟨g173, 0, none⟩) m m)] ?_
           refine od_ ?_
           refine a1 6 rfl ?_
           refine qo0 1 [(6, .go (owns 5 0 1))] [64, 68, 69, 71, 72] [(70, .int .i64 ((j + 1 : Nat)))] ?_
           refine od_ ?_
           refine tk (m := 5) [9] [] [64, 68, 69] [(73, .agg #[.int .i64 ((j + 1 : Nat)), .int .i64 k, .int .u32 h, .int .u32 s])] ([]) #[true, true, true, true, true, true, true, true, true, true, false, false, false, false, false] al0 ?_
           refine a1 10 rfl ?_
           refine mo0 1 [] [64, 68, 69] (fun γ729 => [(74, .slice (some ⟨γ729 0, 0, none⟩) 1 1)]) (fun γ729 L => bx (γ729 0) (#[.int .i64 ((j + 1 : Nat)), .int .i64 k, .int .u32 h, .int .u32 s]) 43 :: L) (fun γ729 => ?_)
           refine od_ ?_
           exact any_weak (hm fun i => [γ729 0].getD i 0) [64, 68, 69, 74] (by kernel_rfl) rfl rfl rfl
          ·
           refine qo0 1 [(6, .go (owns 5 0 1))] [64, 67, 69, 71, 72] [(70, .int .i64 ((j + 1 : Nat)))] ?_
           refine od_ ?_
           refine tk (m := 6) [9] [] [64, 67, 69] [(73, .agg #[.int .i64 ((j + 1 : Nat)), .int .i64 k, .int .u32 h, .int .u32 s])] ([]) #[true, true, true, true, false, true, true, true, true, true, false, false, false, false, false] al0 ?_
           refine any_fork [4, 10] (by kernel_rfl) (by simp) (each_cons _ rfl ?_ (each_cons _ rfl ?_ (each_nil)))
           ·
            refine qo0 1 [(4, .go (owns 0 1 1))] [64, 69, 73] [(68, .slice (some ⟨g173, 0, none⟩) m m)] ?_
            refine od_ ?_
            refine a1 10 rfl ?_
            refine mo0 1 [] [64, 68, 69] (fun γ733 => [(74, .slice (some ⟨γ733 0, 0, none⟩) 1 1)]) (fun γ733 L => bx (γ733 0) (#[.int .i64 ((j + 1 : Nat)), .int .i64 k, .int .u32 h, .int .u32 s]) 43 :: L) (fun γ733 => ?_)
            refine od_ ?_
            exact any_weak (hm fun i => [γ733 0].getD i 0) [64, 68, 69, 74] (by kernel_rfl) rfl rfl rfl
           ·
            refine mo0 1 [] [64, 67, 69] (fun γ734 => [(74, .slice (some ⟨γ734 0, 0, none⟩) 1 1)]) (fun γ734 L => bx (γ734 0) (#[.int .i64 ((j + 1 : Nat)), .int .i64 k, .int .u32 h, .int .u32 s]) 43 :: L) (fun γ734 => ?_)
            refine od_ ?_
            refine a1 4 rfl ?_
            refine qo0 1 [(4, .go (owns 1 1 1))] [64, 69, 74] [(68, .slice (some ⟨g173, 0, none⟩) m m)] ?_
            refine od_ ?_
            exact any_weak (hm fun i => [γ734 0].getD i 0) [64, 68, 69, 74] (by kernel_rfl) rfl rfl rfl
       refine a1 11 rfl ?_
       refine Ops.pick [[bx (γ611 0) (#[.int .i64 ((j + 1 : Nat)), .int .i64 k, .int .u32 h, .int .u32 s]) 43], [bx (γ213 0) (#[.slice (some ⟨g93, 0, none⟩) n n, .slice (some ⟨g173, 0, none⟩) m m]) 25], [bx g173 ((sets c173 0 (vs.flatMap Enc.enc))) 43], [bx g93 ((sets c93 0 (ds.flatMap Enc.enc))) 32], [bx (γ4 1) (#[.slice none 0 0, .slice none 0 0]) 25], [bx (γ4 0) (#[.slice p n cap, .slice q m capv]) 25], [bx (γ2 0) (#[.int .i64 ((j + 1 : Nat))]) 3], [bx (γ1 3) (#[.slice none 0 0, .slice none 0 0]) 25], [bx (γ1 2) (#[.int .u32 h, .int .u32 s]) 41], [bx (γ1 1) (#[.int .i64 k]) 3], [bx (γ1 0) (#[.slice p n cap, .slice q m capv]) 25]] [0, 1, 3, 4, 5, 6, 7, 8, 9, 10, 2] [] ([bx (γ611 0) (#[.int .i64 ((j + 1 : Nat)), .int .i64 k, .int .u32 h, .int .u32 s]) 43, bx (γ213 0) (#[.slice (some ⟨g93, 0, none⟩) n n, .slice (some ⟨g173, 0, none⟩) m m]) 25, bx g93 ((sets c93 0 (ds.flatMap Enc.enc))) 32, bx (γ4 1) (#[.slice none 0 0, .slice none 0 0]) 25, bx (γ4 0) (#[.slice p n cap, .slice q m capv]) 25, bx (γ2 0) (#[.int .i64 ((j + 1 : Nat))]) 3, bx (γ1 3) (#[.slice none 0 0, .slice none 0 0]) 25, bx (γ1 2) (#[.int .u32 h, .int .u32 s]) 41, bx (γ1 1) (#[.int .i64 k]) 3, bx (γ1 0) (#[.slice p n cap, .slice q m capv]) 25, bx g173 ((sets c173 0 (vs.flatMap Enc.enc))) 43]) (by kernel_rfl) rfl rfl (cP (fun v L' => ∃ q_ capq_ Y_, v = .slice q_ (m + 1) capq_ ∧ L' = [bx (γ213 0) (#[.slice (some ⟨g93, 0, none⟩) n n, .slice (some ⟨g173, 0, none⟩) m m]) 25, bx g93 ((sets c93 0 (ds.flatMap Enc.enc))) 32, bx (γ4 1) (#[.slice none 0 0, .slice none 0 0]) 25, bx (γ4 0) (#[.slice p n cap, .slice q m capv]) 25, bx (γ2 0) (#[.int .i64 ((j + 1 : Nat))]) 3, bx (γ1 3) (#[.slice none 0 0, .slice none 0 0]) 25, bx (γ1 2) (#[.int .u32 h, .int .u32 s]) 41, bx (γ1 1) (#[.int .i64 k]) 3, bx (γ1 0) (#[.slice p n cap, .slice q m capv]) 25] ++ (Y_ ++ []) ∧ SlO 43 Y_ q_ (m + 1) capq_ (vs.take j ++ [⟨(j + 1 : Nat), k, h, s⟩] ++ vs.drop j)) Try.call54 (fun w hw => (insertV_d _ ([bx (γ213 0) (#[.slice (some ⟨g93, 0, none⟩) n n, .slice (some ⟨g173, 0, none⟩) m m]) 25, bx g93 ((sets c93 0 (ds.flatMap Enc.enc))) 32, bx (γ4 1) (#[.slice none 0 0, .slice none 0 0]) 25, bx (γ4 0) (#[.slice p n cap, .slice q m capv]) 25, bx (γ2 0) (#[.int .i64 ((j + 1 : Nat))]) 3, bx (γ1 3) (#[.slice none 0 0, .slice none 0 0]) 25, bx (γ1 2) (#[.int .u32 h, .int .u32 s]) 41, bx (γ1 1) (#[.int .i64 k]) 3, bx (γ1 0) (#[.slice p n cap, .slice q m capv]) 25] ++ []) [bx g173 ((sets c173 0 (vs.flatMap Enc.enc))) 43] (some ⟨g173, 0, none⟩) m m vs j (γ611 0) (#[.int .i64 ((j + 1 : Nat)), .int .i64 k, .int .u32 h, .int .u32 s]) 1 ([⟨(j + 1 : Nat), k, h, s⟩]) w (hw.pull (A := [bx (γ213 0) (#[.slice (some ⟨g93, 0, none⟩) n n, .slice (some ⟨g173, 0, none⟩) m m]) 25, bx g93 ((sets c93 0 (ds.flatMap Enc.enc))) 32, bx (γ4 1) (#[.slice none 0 0, .slice none 0 0]) 25, bx (γ4 0) (#[.slice p n cap, .slice q m capv]) 25, bx (γ2 0) (#[.int .i64 ((j + 1 : Nat))]) 3, bx (γ1 3) (#[.slice none 0 0, .slice none 0 0]) 25, bx (γ1 2) (#[.int .u32 h, .int .u32 s]) 41, bx (γ1 1) (#[.int .i64 k]) 3, bx (γ1 0) (#[.slice p n cap, .slice q m capv]) 25]) (Y := [bx g173 ((sets c173 0 (vs.flatMap Enc.enc))) 43]) (R := [])) hO324 (by rfl) (by rfl) (by omega) (by omega) (by omega) (by omega)).mono fun e w' ⟨q_, capq_, Y_, he, hO, hY⟩ => ⟨_, _, he, ⟨q_, capq_, Y_, rfl, rfl, hO⟩, hY.push⟩) ?_)
       rintro v736 L736 ⟨q736, cq736, Y736, rfl, rfl, hO736⟩
       refine od_ ?_
       refine tk (m := 1) [12, 13] [] [75] [(77, .pointer (some ⟨γ213 0, 1, none⟩))] ([]) #[true, true, true, true, true, true, true, true, true, true, true, true, true, true, false] al0 ?_
       refine a1 14 rfl ?_
       refine mo0 1 [(14, .go (owns 0 1 1))] [] (fun _ => []) (fun _ L => (L.set 0 (bx (γ213 0) (#[.slice (some ⟨g93, 0, none⟩) n n, .slice q736 (m + 1) cq736]) 25))) (fun _ => ?_)
       refine od_ ?_
       refine any_nil (by kernel_rfl) ?_
       refine ds_ (sq_ (qa0 [] [] [(5, .int .i64 0)] (ds_ (bk ([]) (.int .i64 0) (qo0 1 [] [4, 7] [(8, .int .i64 0)] (on_ (ds_ (sq_ (qa0 [] [4, 7, 8] [(37, .bool false)] (ds_ (f_ (at_skip (ds_ (sq_ (ma0 [(0, .go (owns 0 0 2)), (1, .go (owns 2 0 2))] [4] (fun _ => [(5, .int .i64 0)]) (fun _ L => (L.set 2 (bx (γ4 1) (#[.slice (some ⟨g93, 0, none⟩) n n, .slice q736 (m + 1) cq736]) 25))) (fun _ => ds_ (bk (owns 2 0 2) (.tuple #[.agg #[.slice (some ⟨g93, 0, none⟩) n n, .slice q736 (m + 1) cq736], .int .i64 0]) (mo0 6 [(7, .go (owns 0 0 2))] [6, 9] (fun γ743 => [(10, .pointer (some ⟨γ743 0, 0, none⟩)), (11, .int .i64 0)]) (fun γ743 L => bx (γ743 0) (#[.slice (some ⟨g93, 0, none⟩) n n, .slice q736 (m + 1) cq736]) 25 :: L) (fun γ743 => on_ (ds_ (sq_ ?_)))))))))))))))))))))
       refine at_any (by kernel_rfl) ?_
       refine tk (m := 5) [2] [] [6, 9, 10] [(20, .int .i64 0)] ([]) #[false, false, true, false, false, false] al0 ?_
       refine any_cut 0 #[true, true, true, true, true, true] ([(6, .pointer (some ⟨γ1 3, 0, none⟩)), (7, .int .i64 ((j + 1 : Nat))), (8, .int .i64 0)]) (bx (γ743 0) (#[.slice (some ⟨g93, 0, none⟩) n n, .slice q736 (m + 1) cq736]) 25 :: bx (γ213 0) (#[.slice (some ⟨g93, 0, none⟩) n n, .slice q736 (m + 1) cq736]) 25 :: bx g93 ((sets c93 0 (ds.flatMap Enc.enc))) 32 :: bx (γ4 1) (#[.slice (some ⟨g93, 0, none⟩) n n, .slice q736 (m + 1) cq736]) 25 :: bx (γ4 0) (#[.slice p n cap, .slice q m capv]) 25 :: bx (γ2 0) (#[.int .i64 ((j + 1 : Nat))]) 3 :: bx (γ1 3) (#[.slice (some ⟨g93, 0, none⟩) n n, .slice q736 (m + 1) cq736]) 25 :: bx (γ1 2) (#[.int .u32 h, .int .u32 s]) 41 :: bx (γ1 1) (#[.int .i64 k]) 3 :: bx (γ1 0) (#[.slice p n cap, .slice q m capv]) 25 :: (Y736 ++ [])) ?_ (fun hm => ?_)
       rotate_left
       ·
        refine any_fork [0, 1] (by kernel_rfl) (by simp) (each_cons _ rfl ?_ (each_cons _ rfl ?_ (each_nil)))
        ·
         refine qo0 1 [(0, .go (owns 0 0 2))] [6, 9, 20] [(18, .agg #[.slice (some ⟨g93, 0, none⟩) n n, .slice q736 (m + 1) cq736])] ?_
         refine od_ ?_
         refine any_fork [1, 3] (by kernel_rfl) (by simp) (each_cons _ rfl ?_ (each_cons _ rfl ?_ (each_nil)))
         ·
          refine qo0 1 [(1, .go (owns 5 0 1))] [6, 18, 20] [(19, .int .i64 ((j + 1 : Nat)))] ?_
          refine od_ ?_
          refine a1 3 rfl ?_
          refine mo0 1 [(3, .go (owns 6 0 2))] [6, 19, 20] (fun _ => []) (fun _ L => (L.set 6 (bx (γ1 3) (#[.slice (some ⟨g93, 0, none⟩) n n, .slice q736 (m + 1) cq736]) 25))) (fun _ => ?_)
          refine od_ ?_
          refine tk (m := 0) [4, 5] [] [6] [(7, .int .i64 ((j + 1 : Nat))), (8, .int .i64 0)] ([]) #[true, true, true, true, true, true] al0 ?_
          exact any_weak hm [6, 7, 8] (by kernel_rfl) rfl rfl rfl
         ·
          refine mo0 1 [(3, .go (owns 6 0 2))] [6, 9, 20] (fun _ => []) (fun _ L => (L.set 6 (bx (γ1 3) (#[.slice (some ⟨g93, 0, none⟩) n n, .slice q736 (m + 1) cq736]) 25))) (fun _ => ?_)
          refine od_ ?_
          refine a1 1 rfl ?_
          refine qo0 1 [(1, .go (owns 5 0 1))] [6, 20] [(19, .int .i64 ((j + 1 : Nat)))] ?_
          refine od_ ?_
          refine tk (m := 0) [4, 5] [] [6] [(7, .int .i64 ((j + 1 : Nat))), (8, .int .i64 0)] ([]) #[true, true, true, true, true, true] al0 ?_
          exact any_weak hm [6, 7, 8] (by kernel_rfl) rfl rfl rfl
        ·
         refine qo0 1 [(1, .go (owns 5 0 1))] [6, 10, 20] [(19, .int .i64 ((j + 1 : Nat)))] ?_
         refine od_ ?_
         refine a1 0 rfl ?_
         refine qo0 1 [(0, .go (owns 0 0 2))] [6, 19, 20] [(18, .agg #[.slice (some ⟨g93, 0, none⟩) n n, .slice q736 (m + 1) cq736])] ?_
         refine od_ ?_
         refine a1 3 rfl ?_
         refine mo0 1 [(3, .go (owns 6 0 2))] [6, 19, 20] (fun _ => []) (fun _ L => (L.set 6 (bx (γ1 3) (#[.slice (some ⟨g93, 0, none⟩) n n, .slice q736 (m + 1) cq736]) 25))) (fun _ => ?_)
         refine od_ ?_
         refine tk (m := 0) [4, 5] [] [6] [(7, .int .i64 ((j + 1 : Nat))), (8, .int .i64 0)] ([]) #[true, true, true, true, true, true] al0 ?_
         exact any_weak hm [6, 7, 8] (by kernel_rfl) rfl rfl rfl
       refine any_nil (by kernel_rfl) ?_
       refine ds_ (rt (owns 6 0 2) (.tuple #[.agg #[.slice (some ⟨g93, 0, none⟩) n n, .slice q736 (m + 1) cq736], .int .i64 ((j + 1 : Nat)), .int .i64 0]) ?_)
       exact fun w' hw => by rw [(addN_ok (addV_ok q6 hg329 q357 (by omega) (gap_end hI (by omega))) (gap_end hI (by omega))), addV_ok q6 hg329 q357 (by omega) (gap_end hI (by omega))]; exact ⟨_, _, _, _, _, _, _, _, rfl, hO321, hO736, hw.below, two_tails (Hs.pick [[bx (γ743 0) (#[.slice (some ⟨g93, 0, none⟩) n n, .slice q736 (m + 1) cq736]) 25], [bx (γ213 0) (#[.slice (some ⟨g93, 0, none⟩) n n, .slice q736 (m + 1) cq736]) 25], [bx g93 ((sets c93 0 (ds.flatMap Enc.enc))) 32], [bx (γ4 1) (#[.slice (some ⟨g93, 0, none⟩) n n, .slice q736 (m + 1) cq736]) 25], [bx (γ4 0) (#[.slice p n cap, .slice q m capv]) 25], [bx (γ2 0) (#[.int .i64 ((j + 1 : Nat))]) 3], [bx (γ1 3) (#[.slice (some ⟨g93, 0, none⟩) n n, .slice q736 (m + 1) cq736]) 25], [bx (γ1 2) (#[.int .u32 h, .int .u32 s]) 41], [bx (γ1 1) (#[.int .i64 k]) 3], [bx (γ1 0) (#[.slice p n cap, .slice q m capv]) 25], Y736] [2, 10] [0, 1, 3, 4, 5, 6, 7, 8, 9] (by kernel_rfl) hw)⟩
end Go.Proofs.Ytnoefldpkfpglaa

/-! Domains: the layer does something. -/
namespace Go.Proofs.Ytnoefldpkfpglaa
open Go Go.RowKit

set_option maxRecDepth 100000 in
theorem wakes_d  (w : World)
 : Calls Try.prog 8 #[] w fun e w' => e = .returned (.bool true) ∧ Below w.heap.size w w' := by
 refine enter (Hs.start w) Try.func8 rfl Try.ntmps8 rfl (sq_ (qa0 [] [] [] (ds_ (sq_ (ao_ (qo0 2 [] [] [(11, .agg #[.slice none 0 0, .slice none 0 0]), (12, .agg #[.int .i64 2, .int .i64 256, .int .i64 0, .int .i64 0])] (cP (fun v L' => ∃ q_ m_ c_ Y_ q2_ m2_ c2_ X_, v = .tuple #[.agg #[.slice q_ m_ c_, .slice q2_ m2_ c2_], .int .i64 0] ∧ L' = List.take 0 ([]) ++ (Y_ ++ (X_ ++ List.drop 0 ([]))) ∧ SlO 32 Y_ q_ m_ c_ ([⟨2, 256, 0, 0⟩] : List Dom) ∧ SlO 43 X_ q2_ m2_ c2_ ([] : List Vcp)) Try.call29 (fun w hw => by have := create_d none 0 0 [] none 0 0 [] ⟨2, 256, 0, 0⟩ w Sv.nil rfl (by omega) Sv.nil rfl (by omega); rw [wk1] at this; exact this.mono fun e w' ⟨q_, m_, c_, Y_, q2_, m2_, c2_, X_, he, h1, h2, hb, hY⟩ => ⟨_, _, he, ⟨q_, m_, c_, Y_, q2_, m2_, c2_, X_, rfl, rfl, h1, h2⟩, hw.join2 hb hY 0⟩) ?_)))))))
 rintro v3 L3 ⟨q3, m3, c3, Y3, p3, k3, d3, Yx3, rfl, rfl, hO3, hP3⟩
 have hm3 := hO3.len
 have hn3 := hP3.len
 simp only [List.length_cons, List.length_nil] at hm3 hn3
 refine mo0 6 [(7, .go (owns 0 0 2))] [] (fun γ4 => [(1, .pointer (some ⟨γ4 0, 0, none⟩)), (2, .int .i64 0)]) (fun γ4 L => bx (γ4 0) (#[.slice q3 m3 c3, .slice p3 k3 d3]) 25 :: L) (fun γ4 => on_ (ds_ (sq_ (ao_ (qo0 2 [(0, .go (owns 0 0 2))] [1, 2] [(17, .agg #[.slice q3 m3 c3, .slice p3 k3 d3]), (18, .agg #[.int .u32 1, .int .u32 0])] (cP (fun v L' => ∃ q_ m_ c_ Y_ q2_ m2_ c2_ X_, v = .tuple #[.agg #[.slice q_ m_ c_, .slice q2_ m2_ c2_], .int .i64 1, .int .i64 0] ∧ L' = List.take 1 (bx (γ4 0) (#[.slice q3 m3 c3, .slice p3 k3 d3]) 25 :: (Y3 ++ (Yx3 ++ []))) ++ (Y_ ++ (X_ ++ List.drop 1 (bx (γ4 0) (#[.slice q3 m3 c3, .slice p3 k3 d3]) 25 :: (Y3 ++ (Yx3 ++ []))))) ∧ SlO 32 Y_ q_ m_ c_ ([⟨2, 256, 0, 0⟩] : List Dom) ∧ SlO 43 X_ q2_ m2_ c2_ ([⟨1, 2, 1, 0⟩] : List Vcp)) Try.call16 (fun w hw => by have := add_d q3 m3 c3 (([⟨2, 256, 0, 0⟩] : List Dom)) p3 k3 d3 (([] : List Vcp)) 2 1 0 w (hO3.atN (A := [_]) hw) hO3.len (by omega) (hP3.atN (A := (_ :: Y3)) hw) hP3.len (by omega); rw [wk2.1, wk2.2] at this; exact this.mono fun e w' ⟨q_, m_, c_, Y_, q2_, m2_, c2_, X_, he, h1, h2, hb, hY⟩ => ⟨_, _, he, ⟨q_, m_, c_, Y_, q2_, m2_, c2_, X_, rfl, rfl, h1, h2⟩, hw.join2 hb hY 1⟩) ?_))))))
 rintro v6 L6 ⟨q6, m6, c6, Y6, p6, k6, d6, Yx6, rfl, rfl, hO6, hP6⟩
 have hm6 := hO6.len
 have hn6 := hP6.len
 simp only [List.length_cons, List.length_nil] at hm6 hn6
 refine mo0 7 [(7, .go (owns 0 0 2))] [1, 2] (fun _ => [(3, .int .i64 1), (4, .int .i64 0)]) (fun _ L => (L.set 0 (bx (γ4 0) (#[.slice q6 m6 c6, .slice p6 k6 d6]) 25))) (fun _ => on_ (ds_ (sq_ (ao_ (qo0 2 [(0, .go (owns 0 0 2))] [1, 2, 3, 4] [(24, .agg #[.slice q6 m6 c6, .slice p6 k6 d6]), (25, .agg #[.int .u32 1, .int .u32 0])] (cP (fun v L' => ∃ q_ m_ c_ Y_ q2_ m2_ c2_ X_, v = .tuple #[.agg #[.slice q_ m_ c_, .slice q2_ m2_ c2_], .int .i64 2, .int .i64 0] ∧ L' = List.take 1 (bx (γ4 0) (#[.slice q6 m6 c6, .slice p6 k6 d6]) 25 :: (Y6 ++ (Yx6 ++ (Y3 ++ (Yx3 ++ []))))) ++ (Y_ ++ (X_ ++ List.drop 1 (bx (γ4 0) (#[.slice q6 m6 c6, .slice p6 k6 d6]) 25 :: (Y6 ++ (Yx6 ++ (Y3 ++ (Yx3 ++ []))))))) ∧ SlO 32 Y_ q_ m_ c_ ([⟨2, 256, 0, 0⟩] : List Dom) ∧ SlO 43 X_ q2_ m2_ c2_ ([⟨1, 2, 1, 0⟩, ⟨2, 2, 1, 0⟩] : List Vcp)) Try.call16 (fun w hw => by have := add_d q6 m6 c6 (([⟨2, 256, 0, 0⟩] : List Dom)) p6 k6 d6 (([⟨1, 2, 1, 0⟩] : List Vcp)) 2 1 0 w (hO6.atN (A := [_]) hw) hO6.len (by omega) (hP6.atN (A := (_ :: Y6)) hw) hP6.len (by omega); rw [wk3.1, wk3.2] at this; exact this.mono fun e w' ⟨q_, m_, c_, Y_, q2_, m2_, c2_, X_, he, h1, h2, hb, hY⟩ => ⟨_, _, he, ⟨q_, m_, c_, Y_, q2_, m2_, c2_, X_, rfl, rfl, h1, h2⟩, hw.join2 hb hY 1⟩) ?_))))))
 rintro v9 L9 ⟨q9, m9, c9, Y9, p9, k9, d9, Yx9, rfl, rfl, hO9, hP9⟩
 have hm9 := hO9.len
 have hn9 := hP9.len
 simp only [List.length_cons, List.length_nil] at hm9 hn9
 refine mo0 7 [(7, .go (owns 0 0 2))] [1, 2, 3, 4] (fun _ => [(5, .int .i64 2), (6, .int .i64 0)]) (fun _ L => (L.set 0 (bx (γ4 0) (#[.slice q9 m9 c9, .slice p9 k9 d9]) 25))) (fun _ => on_ (ds_ (sq_ (ao_ (qo0 1 [(0, .go (owns 0 0 2))] [2, 3, 4, 5, 6] [(31, .agg #[.slice q9 m9 c9, .slice p9 k9 d9])] (cD (.tuple #[.int .i64 256, .int .i64 2, .bool true]) Try.call12 (fun w hw => by have := rate_d q9 m9 c9 (([⟨2, 256, 0, 0⟩] : List Dom)) p9 k9 d9 (([⟨1, 2, 1, 0⟩, ⟨2, 2, 1, 0⟩] : List Vcp)) 2 w (hO9.atN (A := [_]) hw) hO9.len (by omega) (hP9.atN (A := (_ :: Y9)) hw) hP9.len (by omega); rw [wk4] at this; exact this) (qo0 7 [] [2, 3, 4, 5, 6] [(7, .int .i64 256), (8, .int .i64 2), (9, .bool true)] (on_ (ds_ (sq_ (qa0 [] [] [(0, .bool true)] (ds_ (rt ([]) (.bool true) ?_)))))))))))))
 exact fun w' hw => ⟨rfl, hw.below⟩
end Go.Proofs.Ytnoefldpkfpglaa

/-! Domains: what the reference tells; plain. -/
namespace Go.Proofs.Ytnoefldpkfpglaa
open Go Go.RowKit

section
variable {α : Type} {f : α → Int} {l : List α} {x y : α} {k : Int} {j : Nat}
end
/-- What a look answers, as a row and a Bool. -/
def rowD (o : Option Dom) : Dom := o.getD ⟨0, 0, 0, 0⟩
def rowC (o : Option Vcp) : Vcp := o.getD ⟨0, 0, 0, 0⟩
/-- Words that are words. -/
def Wrd (vs : List Vcp) : Prop := ∀ v ∈ vs, (0 ≤ v.hard ∧ v.hard < 4294967296) ∧ 0 ≤ v.soft ∧ v.soft < 4294967296
section
variable {ds : List Dom} {vs : List Vcp} {k h s : Int} {d : Dom} {v : Vcp} {j : Nat}
end
end Go.Proofs.Ytnoefldpkfpglaa

/-! Domains: the same ones. -/
namespace Go.Proofs.Ytnoefldpkfpglaa
open Go Go.RowKit
end Go.Proofs.Ytnoefldpkfpglaa

/-! Domains: the reference. -/
namespace Go.Proofs.Ytnoefldpkfpglaa
open Go Go.RowKit

set_option maxRecDepth 100000 in
theorem over_d (p : Option Addr) (n cap : Nat) (ds : List Dom) (q : Option Addr) (m capv : Nat) (vs : List Vcp) (w : World)
 : Calls Try.prog 9 #[.agg #[.slice p n cap, .slice q m capv]] w fun e w' => e = .returned (.bool (decide (100 < n ∨ 100 < m))) ∧ Below w.heap.size w w' := by
 refine enter (Hs.start w) Try.func9 rfl Try.ntmps9 rfl (sq_ (ma0 [] [] (fun γ1 => [(1, .pointer (some ⟨γ1 0, 0, none⟩))]) (fun γ1 L => bx (γ1 0) (#[.slice p n cap, .slice q m capv]) 25 :: L) (fun γ1 => ds_ (sq_ ?_))))
 by_cases q3 : ((n : Nat) : Int) > (100 : Int)
 ·
  refine qa [(1, .go (owns 0 0 1)), (3, .yes)] [] [(2, .bool true)] ([((n : Nat) : Int) > (100 : Int)]) (al1 q3) (ds_ (rt ([]) (.bool true) ?_))
  exact fun w' hw => ⟨by rw [show decide (100 < n ∨ 100 < m) = true from by simp only [decide_eq_true_eq]; omega], hw.below⟩
 ·
  by_cases q6 : ((m : Nat) : Int) > (100 : Int)
  ·
   refine qa [(1, .go (owns 0 0 1)), (3, .no), (6, .go (owns 0 1 1)), (8, .yes)] [] [(2, .bool true)] ([¬ (((n : Nat) : Int) > (100 : Int))] ++ ([((m : Nat) : Int) > (100 : Int)])) (alA (al1 q3) (al1 q6)) (ds_ (rt ([]) (.bool true) ?_))
   exact fun w' hw => ⟨by rw [show decide (100 < n ∨ 100 < m) = true from by simp only [decide_eq_true_eq]; omega], hw.below⟩
  ·
   refine qa [(1, .go (owns 0 0 1)), (3, .no), (6, .go (owns 0 1 1)), (8, .no)] [] [(2, .bool false)] ([¬ (((n : Nat) : Int) > (100 : Int))] ++ ([¬ (((m : Nat) : Int) > (100 : Int))])) (alA (al1 q3) (al1 q6)) (ds_ (rt ([]) (.bool false) ?_))
   exact fun w' hw => ⟨by rw [show decide (100 < n ∨ 100 < m) = false from by simp only [decide_eq_false_iff_not]; omega], hw.below⟩
end Go.Proofs.Ytnoefldpkfpglaa

/-! Domains: guests made anew by their numbers; plain. -/
namespace Go.Proofs.Ytnoefldpkfpglaa
open Go Go.RowKit

section
variable {α : Type} {f : α → Int} {g : Int → Option α} {c : Nat} {x : α}
/-- The rows of the numbers 1 .. c. -/
def mkK (g : Int → Option α) (c : Nat) : List α := (List.range c).flatMap fun i => (g ((i + 1 : Nat) : Int)).toList
end
/-- The reference's rows: what stands in the number's place. -/
def gD (ds : List Dom) (d : Dom) (no : Int) (n : Int) : Option Dom := if n = no then none else if n = d.id then some d else getK Dom.id ds n
def gV (vs : List Vcp) (v : Vcp) (no : Int) (n : Int) : Option Vcp := if n = no then none else if 0 < v.dom ∧ n = v.id then some v else getK Vcp.id vs n
def madeD (ds : List Dom) (d : Dom) (no : Int) : List Dom := mkK (gD ds d no) 8
def madeV (vs : List Vcp) (v : Vcp) (no : Int) : List Vcp := mkK (gV vs v no) 16
section
variable {ds : List Dom} {vs : List Vcp} {k no n : Int} {d x : Dom} {v y : Vcp} {j : Nat}
/-- What the numbers of guests that may be are. -/
theorem GoodG.did (h : GoodG ds vs) (hx : x ∈ ds) : 1 ≤ x.id ∧ x.id ≤ 8 := by
  have := (h.dm x hx).1
  unfold mayB at this
  simp only [decide_eq_true_eq] at this
  omega
end
/-- Is that what must be? -/
def isB (ds : List Dom) (vs : List Vcp) (e : Int) (ds2 : List Dom) (vs2 : List Vcp) (no : Int) : Bool :=
  if no ≠ 0 then decide (e = no) && decide (ds.length = 0) && decide (vs.length = 0) else decide (e = 0) && (decide (ds = ds2) && decide (vs = vs2))
/-- The reference's search for the least number. -/
def freeL (vs : List Vcp) : Nat → Nat → Nat
  | 0, i => i
  | c + 1, i => freeL vs c (if (getK Vcp.id vs ((i : Nat) : Int)).isSome = true then i + 1 else i)
end Go.Proofs.Ytnoefldpkfpglaa

/-! Domains: what is made, changed, taken away is what must be; plain. -/
namespace Go.Proofs.Ytnoefldpkfpglaa
open Go Go.RowKit

/-- The errors that must be, as the law finds them. -/
def no1 (o : Bool) : Int := if o = true then 5 else 0
def nt1 (o : Bool) : Int := if o = true then 0 else 4
def ar2 (m : Bool) (x : Int) : Int := if m = true then x else 2
def ne3 (o : Bool) (c : Nat) : Int := if o = true then (if 0 < c then 8 else 0) else 4
def fin9 (g : Bool) (x : Int) : Int := if g = true then x else 190
section
variable {ds : List Dom} {vs : List Vcp} {d : Dom} {k : Int}
end
end Go.Proofs.Ytnoefldpkfpglaa

/-! Domains: vCPUs made, taken away, masked are what must be; plain. -/
namespace Go.Proofs.Ytnoefldpkfpglaa
open Go Go.RowKit

section
variable {ds : List Dom} {vs : List Vcp} {k hh ss : Int} {d : Dom} {v y : Vcp} {n : Nat}
/-- The errors that must be. -/
def fu1 (n c : Nat) : Int := if 16 ≤ n ∨ 8 ≤ c then 6 else 0
def mk2 (m : Bool) (x : Int) : Int := if m = true then x else 170
def th3 (o : Bool) (x : Int) : Int := if o = true then x else 4
def fr4 (x : Int) (f : Int) : Int := if x = 0 then f else 0
/-- Adding: the error that must be. -/
def addE (ds : List Dom) (vs : List Vcp) (k hh ss : Int) : Int := fin9 (guestsB ds vs) (th3 (getK Dom.id ds k).isSome (mk2 (maskB hh ss) (fu1 vs.length (cntV vs k))))
end
end Go.Proofs.Ytnoefldpkfpglaa

/-! Domains: what is done keeps guests that may be, and leads back; plain. -/
namespace Go.Proofs.Ytnoefldpkfpglaa
open Go Go.RowKit

section
variable {ds : List Dom} {vs : List Vcp} {k hh ss : Int} {d x : Dom} {v y : Vcp} {n : Nat}
end
end Go.Proofs.Ytnoefldpkfpglaa

/-! Maps that count: m[k]++ over a row of numbers; plain. -/
namespace Go.Proofs.Ytnoefldpkfpglaa
open Go Go.RowKit

def bumpL (l : List Int) : List (Int × Int) := l.foldl (fun D k => mupd D k ((mget D k).getD 0 + 1)) []
section
variable {l : List Int} {k : Int}
theorem bump_on : bumpL (l ++ [k]) = mupd (bumpL l) k ((mget (bumpL l) k).getD 0 + 1) := by simp [bumpL]
theorem mget_out : ∀ {D : List (Int × Int)}, k ∉ D.map (·.1) → mget D k = none
  | [], _ => rfl
  | p :: D, h => by
    simp only [List.map_cons, List.mem_cons, not_or] at h
    unfold mget
    rw [if_neg (fun e => h.1 e.symm)]
    exact mget_out h.2
theorem mupd_out {v : Int} : ∀ {D : List (Int × Int)}, k ∉ D.map (·.1) → mupd D k v = D ++ [(k, v)]
  | [], _ => rfl
  | p :: D, h => by
    simp only [List.map_cons, List.mem_cons, not_or] at h
    unfold mupd
    rw [if_neg (fun e => h.1 e.symm), mupd_out h.2]
    rfl
theorem bump_acc : ∀ (l acc : List Int), (acc ++ l).Nodup → l.foldl (fun D k => mupd D k ((mget D k).getD 0 + 1)) (acc.map fun k => (k, (1 : Int))) = (acc ++ l).map fun k => (k, (1 : Int))
  | [], acc, _ => by simp
  | a :: l, acc, h => by
    have ha : a ∉ (acc.map fun k => (k, (1 : Int))).map (·.1) := by
      rw [List.map_map]
      intro hm
      obtain ⟨b, hb, e⟩ := List.mem_map.1 hm
      have e' : b = a := e
      subst e'
      have := (List.nodup_append.1 h).2.2 b hb b (List.mem_cons_self ..)
      exact this rfl
    rw [List.foldl_cons, mget_out ha, mupd_out ha]
    have e1 : (acc.map fun k => (k, (1 : Int))) ++ [(a, (none : Option Int).getD 0 + 1)] = (acc ++ [a]).map fun k => (k, (1 : Int)) := by simp
    rw [e1, bump_acc l (acc ++ [a]) (by simpa using h)]
    simp
theorem bump_is (h : l.Nodup) : bumpL l = l.map fun k => (k, (1 : Int)) := by
  have := bump_acc l [] (by simpa using h)
  simpa [bumpL] using this
theorem bump_len (h : l.Nodup) : (bumpL l).length = l.length := by rw [bump_is h]; simp
theorem mget_ones : ∀ {l : List Int}, k ∈ l → mget (l.map fun k => (k, (1 : Int))) k = some 1
  | a :: l, h => by
    rw [List.map_cons]
    unfold mget
    by_cases e : a = k
    · rw [if_pos e]
    · rw [if_neg e]
      rcases List.mem_cons.1 h with h | h
      · exact absurd h.symm e
      · exact mget_ones h
theorem bump_get (h : l.Nodup) (hk : k ∈ l) : (mget (bumpL l) k).getD 0 = 1 := by rw [bump_is h, mget_ones hk]; rfl
theorem bump_new (h : (l ++ [k]).Nodup) : (mget (bumpL l) k).getD 0 = 0 := by
  have h1 := List.nodup_append.1 h
  rw [bump_is h1.1, mget_out]
  · rfl
  · rw [List.map_map]
    intro hm
    obtain ⟨b, hb, e⟩ := List.mem_map.1 hm
    have e' : b = k := e
    subst e'
    exact h1.2.2 b hb b (by simp) rfl
theorem same_len {a b : List Int} (h : a.Nodup) (h2 : b.Nodup) (e : ∀ x, x ∈ a ↔ x ∈ b) : a.length = b.length := ((List.perm_ext_iff_of_nodup h h2).2 e).length_eq
end
end Go.Proofs.Ytnoefldpkfpglaa

/-! Domains: each vCPU is of one domain and in one pool; plain. -/
namespace Go.Proofs.Ytnoefldpkfpglaa
open Go Go.RowKit

section
variable {ds : List Dom} {vs : List Vcp} {k p : Int} {d : Dom} {v : Vcp} {i j c q : Nat}
theorem mem_of : k ∈ ofV vs p ↔ ∃ v ∈ vs, v.dom = p ∧ v.id = k := by
  unfold ofV
  rw [List.mem_flatMap]
  constructor
  · rintro ⟨v, hv, hk⟩
    unfold ofF at hk
    split at hk
    · rename_i h; exact ⟨v, hv, h, (List.mem_singleton.1 hk).symm⟩
    · cases hk
  · rintro ⟨v, hv, h, rfl⟩
    exact ⟨v, hv, by unfold ofF; rw [if_pos h]; simp⟩
theorem mem_in : k ∈ inV ds vs p ↔ ∃ v ∈ vs, poolK ds v.dom = p ∧ v.id = k := by
  unfold inV
  rw [List.mem_flatMap]
  constructor
  · rintro ⟨v, hv, hk⟩
    unfold inF at hk
    split at hk
    · rename_i h; exact ⟨v, hv, h, (List.mem_singleton.1 hk).symm⟩
    · cases hk
  · rintro ⟨v, hv, h, rfl⟩
    exact ⟨v, hv, by unfold inF; rw [if_pos h]; simp⟩
theorem of_nodup (h : GoodG ds vs) : (ofV vs p).Nodup := by
  unfold ofV
  refine List.pairwise_flatMap.2 ⟨fun t _ => by unfold ofF; split <;> simp, h.vr.imp fun {a b} hab x hx y hy e => ?_⟩
  unfold ofF at hx hy
  split at hx
  · split at hy
    · simp only [List.mem_singleton] at hx hy; omega
    · cases hy
  · cases hx
theorem in_nodup (h : GoodG ds vs) : (inV ds vs p).Nodup := by
  unfold inV
  refine List.pairwise_flatMap.2 ⟨fun t _ => by unfold inF; split <;> simp, h.vr.imp fun {a b} hab x hx y hy e => ?_⟩
  unfold inF at hx hy
  split at hx
  · split at hy
    · simp only [List.mem_singleton] at hx hy; omega
    · cases hy
  · cases hx
def ofP (vs : List Vcp) (l : List Dom) : List Int := l.flatMap fun d => ofV vs d.id
def inP (ds : List Dom) (vs : List Vcp) (c : Nat) : List Int := (List.range c).flatMap fun p : Nat => inV ds vs (p : Int)
theorem ofP_on (hx : ds[j]? = some d) : ofP vs (ds.take (j + 1)) = ofP vs (ds.take j) ++ ofV vs d.id := by unfold ofP; rw [List.take_add_one, hx, List.flatMap_append]; simp
theorem inP_on : inP ds vs (c + 1) = inP ds vs c ++ inV ds vs (c : Int) := by unfold inP; rw [List.range_succ, List.flatMap_append]; simp
theorem ofP_nodup (h : GoodG ds vs) {l : List Dom} (hl : l.Sublist ds) : (ofP vs l).Nodup := by
  unfold ofP
  refine List.pairwise_flatMap.2 ⟨fun t _ => of_nodup h, (h.dr.sublist hl).imp fun {a b} hab x hx y hy e => ?_⟩
  subst e
  obtain ⟨v, hv, h1, h2⟩ := mem_of.1 hx
  obtain ⟨v', hv', h1', h2'⟩ := mem_of.1 hy
  have := h.vr.inj hv hv' (by omega)
  subst this
  omega
theorem inP_nodup (h : GoodG ds vs) (c : Nat) : (inP ds vs c).Nodup := by
  unfold inP
  refine List.pairwise_flatMap.2 ⟨fun t _ => in_nodup h, (List.pairwise_lt_range (n := c)).imp fun {a b} hab x hx y hy e => ?_⟩
  subst e
  obtain ⟨v, hv, h1, h2⟩ := mem_in.1 hx
  obtain ⟨v', hv', h1', h2'⟩ := mem_in.1 hy
  have := h.vr.inj hv hv' (by omega)
  subst this
  omega
theorem of_new (h : GoodG ds vs) (hx : ds[j]? = some d) (hk : (ofV vs d.id)[q]? = some k) : (mget (bumpL (ofP vs (ds.take j) ++ (ofV vs d.id).take q)) k).getD 0 = 0 := by
  refine bump_new ?_
  have h1 := ofP_nodup h (List.take_sublist (j + 1) ds)
  rw [ofP_on hx] at h1
  have h2 : (ofP vs (ds.take j) ++ (ofV vs d.id).take (q + 1)).Nodup := h1.sublist ((List.Sublist.refl _).append (List.take_sublist _ _))
  rw [List.take_add_one, hk] at h2
  simpa using h2
theorem in_new (h : GoodG ds vs) (hk : (inV ds vs (c : Int))[q]? = some k) : (mget (bumpL (inP ds vs c ++ (inV ds vs (c : Int)).take q)) k).getD 0 = 0 := by
  refine bump_new ?_
  have h1 := inP_nodup h (c + 1)
  rw [inP_on] at h1
  have h2 : (inP ds vs c ++ (inV ds vs (c : Int)).take (q + 1)).Nodup := h1.sublist ((List.Sublist.refl _).append (List.take_sublist _ _))
  rw [List.take_add_one, hk] at h2
  simpa using h2
theorem bump_next {D : List (Int × Int)} {a l : List Int} {x : Int} (hD : D = bumpL (a ++ l.take q)) (hx : l[q]? = some x) : mupd D x ((mget D x).getD 0 + 1) = bumpL (a ++ l.take (q + 1)) := by
  rw [List.take_add_one, hx]
  subst hD
  have := bump_on (l := a ++ l.take q) (k := x)
  rw [← this]
  simp
theorem of_mem (h : GoodG ds vs) : k ∈ ofP vs ds ↔ k ∈ vs.map Vcp.id := by
  unfold ofP
  rw [List.mem_flatMap, List.mem_map]
  constructor
  · rintro ⟨d, _, hk⟩
    obtain ⟨v, hv, _, e⟩ := mem_of.1 hk
    exact ⟨v, hv, e⟩
  · rintro ⟨v, hv, rfl⟩
    obtain ⟨_, _, _, d, hd, e⟩ := h.vm v hv
    exact ⟨d, hd, mem_of.2 ⟨v, hv, e.symm, rfl⟩⟩
theorem in_mem (h : GoodG ds vs) : k ∈ inP ds vs 4 ↔ k ∈ vs.map Vcp.id := by
  unfold inP
  rw [List.mem_flatMap, List.mem_map]
  constructor
  · rintro ⟨c, _, hk⟩
    obtain ⟨v, hv, _, e⟩ := mem_in.1 hk
    exact ⟨v, hv, e⟩
  · rintro ⟨v, hv, rfl⟩
    obtain ⟨_, _, _, d, hd, e⟩ := h.vm v hv
    have hg : getK Dom.id ds v.dom = some d := (getK_iff h.dr).2 ⟨hd, e⟩
    have hm := (h.dm d hd).1
    unfold mayB at hm
    simp only [decide_eq_true_eq] at hm
    refine ⟨d.pool.toNat, List.mem_range.2 (by omega), mem_in.2 ⟨v, hv, ?_, rfl⟩⟩
    simp only [poolK, hg]
    omega
theorem vids_nodup (h : GoodG ds vs) : (vs.map Vcp.id).Nodup := h.vr.map Vcp.id fun a b hab => by omega
theorem of_one (h : GoodG ds vs) (hv : v ∈ vs) : (mget (bumpL (ofP vs ds)) v.id).getD 0 = 1 := bump_get (ofP_nodup h (List.Sublist.refl _)) ((of_mem h).2 (List.mem_map.2 ⟨v, hv, rfl⟩))
theorem in_one (h : GoodG ds vs) (hv : v ∈ vs) : (mget (bumpL (inP ds vs 4)) v.id).getD 0 = 1 := bump_get (inP_nodup h 4) ((in_mem h).2 (List.mem_map.2 ⟨v, hv, rfl⟩))
theorem of_all (h : GoodG ds vs) : (bumpL (ofP vs ds)).length = vs.length := by
  rw [bump_len (ofP_nodup h (List.Sublist.refl _)), same_len (ofP_nodup h (List.Sublist.refl _)) (vids_nodup h) fun x => of_mem h, List.length_map]
theorem in_all (h : GoodG ds vs) : (bumpL (inP ds vs 4)).length = vs.length := by
  rw [bump_len (inP_nodup h 4), same_len (inP_nodup h 4) (vids_nodup h) fun x => in_mem h, List.length_map]
theorem rate_of (h : guestsB ds vs = true) (hd : d ∈ ds) (hk : k ∈ ofV vs d.id) : rateV ds vs k = .tuple #[.int .i64 d.weight, .int .i64 (cntV vs d.id : Nat), .bool true] := by
  have g := guests_iff.1 h
  obtain ⟨v, hv, h1, rfl⟩ := mem_of.1 hk
  have e1 : getK Vcp.id vs v.id = some v := (getK_iff g.vr).2 ⟨hv, rfl⟩
  have e2 : getK Dom.id ds v.dom = some d := (getK_iff g.dr).2 ⟨hd, h1.symm⟩
  unfold rateV
  rw [fG_ok h, e1]
  simp only [e2]
/-- The weights of the domains that have vCPUs. -/
def dwF (vs : List Vcp) (d : Dom) : Int := if 0 < cntV vs d.id then d.weight else 0
def dwL (vs : List Vcp) (l : List Dom) : Int := (l.map (dwF vs)).sum
theorem dw_on (hx : ds[j]? = some d) : dwL vs (ds.take (j + 1)) = dwL vs (ds.take j) + dwF vs d := by
  unfold dwL
  rw [List.take_add_one, hx]; simp [List.sum_append]
theorem dw_yes (h : (cntV vs d.id : Int) > 0) : dwF vs d = d.weight := if_pos (by omega)
theorem dw_no (h : ¬ (cntV vs d.id : Int) > 0) : dwF vs d = 0 := if_neg (by omega)
def wsP (ds : List Dom) (vs : List Vcp) : Nat → Int
  | 0 => 0
  | c + 1 => wsP ds vs c + wgtV ds vs (c : Int)
theorem wgt_bnd : ∀ l : List Dom, (∀ d ∈ l, mayB d = true) → 0 ≤ wgtV l vs k ∧ wgtV l vs k ≤ 65535 * (l.length : Int)
  | [], _ => by simp [wgtV]
  | d :: l, h => by
    have h1 := wgt_bnd l fun d hd => h d (List.mem_cons_of_mem _ hd)
    have h2 := wF_bnd (vs := vs) (k := k) (h d (List.mem_cons_self ..))
    have e : wgtV (d :: l) vs k = wF vs k d + wgtV l vs k := by simp [wgtV]
    rw [e, List.length_cons]
    omega
theorem wgt_good (h : GoodG ds vs) : 0 ≤ wgtV ds vs k ∧ wgtV ds vs k ≤ 524280 := by
  have h1 := wgt_bnd (vs := vs) (k := k) ds fun d hd => (h.dm d hd).1
  have := h.dl
  omega
theorem ws_is : ∀ l : List Dom, (∀ d ∈ l, mayB d = true) → wsP l vs 4 = dwL vs l
  | [], _ => by simp [wsP, wgtV, dwL]
  | d :: l, h => by
    have h1 := ws_is l fun d hd => h d (List.mem_cons_of_mem _ hd)
    have h2 := h d (List.mem_cons_self ..)
    unfold mayB at h2
    simp only [decide_eq_true_eq] at h2
    have e : ∀ k, wgtV (d :: l) vs k = wF vs k d + wgtV l vs k := fun k => by simp [wgtV]
    have e2 : dwL vs (d :: l) = dwF vs d + dwL vs l := by simp [dwL]
    rw [e2, ← h1]
    simp only [wsP, e]
    have hp : d.pool = 0 ∨ d.pool = 1 ∨ d.pool = 2 ∨ d.pool = 3 := by omega
    unfold wF dwF
    by_cases hc : 0 < cntV vs d.id
    · rcases hp with e | e | e | e <;> simp [e, hc] <;> omega
    · simp [hc]
theorem mul_bnd {a b : Int} (h : 0 ≤ a ∧ a ≤ 65535) (h2 : 0 ≤ b ∧ b ≤ 8) : 0 ≤ a * b ∧ a * b ≤ 524280 := by
  refine ⟨Int.mul_nonneg h.1 h2.1, ?_⟩
  have := Int.mul_le_mul h.2 h2.2 h2.1 (by decide)
  omega
theorem may_w (h : mayB d = true) : 0 ≤ d.weight ∧ d.weight ≤ 65535 := by
  unfold mayB at h
  simp only [decide_eq_true_eq] at h
  omega
end
end Go.Proofs.Ytnoefldpkfpglaa
