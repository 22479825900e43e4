/- Texts of this proof, one behind the other. -/
import Derived.Test.YtnoefldpkfpglaaZb
import Derived.Laws.StructEq
/-! Domains: Create. -/
namespace Go.Proofs.Ytnoefldpkfpglaa
open Go Go.RowKit

set_option maxRecDepth 100000 in
theorem create_d (p : Option Addr) (n cap : Nat) (ds : List Dom) (q : Option Addr) (m capv : Nat) (vs : List Vcp) (d : Dom) (w : World)
 (hds : Sv w p ds) (hn : n = ds.length) (hb : n ≤ 1000)
 (hvs : Sv w q vs) (hm : m = vs.length) (hmb : m ≤ 1000)
 : Calls Try.prog 29 #[.agg #[.slice p n cap, .slice q m capv], .agg #[.int .i64 d.id, .int .i64 d.weight, .int .i64 d.cap, .int .i64 d.pool]] w fun e w' => ∃ q m capq Y q2 m2 capq2 X, e = .returned (.tuple #[.agg #[.slice q m capq, .slice q2 m2 capq2], .int .i64 (createV ds vs d).2.2]) ∧ SlO 32 Y q m capq (createV ds vs d).1 ∧ SlO 43 X q2 m2 capq2 (createV ds vs d).2.1 ∧ Below w.heap.size w w' ∧ Hs w (Y ++ X) w' := by
 refine enter (Hs.start w) Try.func29 rfl Try.ntmps29 rfl (sq_ (ma0 [] [] (fun γ1 => [(2, .pointer (some ⟨γ1 0, 0, none⟩)), (3, .pointer (some ⟨γ1 1, 0, none⟩)), (4, .pointer (some ⟨γ1 2, 0, none⟩))]) (fun γ1 L => bx (γ1 2) (#[.slice none 0 0, .slice none 0 0]) 25 :: bx (γ1 1) (#[.int .i64 d.id, .int .i64 d.weight, .int .i64 d.cap, .int .i64 d.pool]) 32 :: bx (γ1 0) (#[.slice p n cap, .slice q m capv]) 25 :: L) (fun γ1 => ds_ (sq_ (ao_ (qo0 2 [(0, .go (owns 2 0 2))] [4] [(6, .agg #[.slice p n cap, .slice q m capv]), (7, .func (.func 61) #[] #[.pointer (some ⟨γ1 1, 0, none⟩)])] (ops_inline (g := 52) (args := #[.agg #[.slice p n cap, .slice q m capv], .func (.func 61) #[] #[.pointer (some ⟨γ1 1, 0, none⟩)]]) (by kernel_rfl) (by kernel_rfl) (by kernel_rfl) (fun args w => Try.call52 args w) Try.func52 rfl Try.ntmps52 rfl (sq_ (ma0 [] [1] (fun γ3 => [(2, .pointer (some ⟨γ3 0, 0, none⟩)), (4, .pointer (some ⟨γ3 1, 0, none⟩))]) (fun γ3 L => bx (γ3 1) (#[.slice none 0 0, .slice none 0 0]) 25 :: bx (γ3 0) (#[.slice p n cap, .slice q m capv]) 25 :: L) (fun γ3 => ds_ (sq_ (sq_ (ao_ (qo0 1 [(0, .go (owns 1 0 2))] [1, 2, 4] [(9, .agg #[.slice p n cap, .slice q m capv])] ?_))))))))))))))
 rcases q5 : guestsB ds vs with _ | _
 ·
  refine cD (.int .i64 190) Try.call10 (fun w hw => by have := gcheck_d p n cap ds q m capv vs w (hds.kept hw.below) hn (by omega) (hvs.kept hw.below) hm (by omega); rw [q5] at this; exact this) (qo0 1 [] [1, 2, 4] [(6, .int .i64 190)] (on_ (ds_ (sq_ (qa0 [] [1, 2, 4, 6] [(12, .bool true)] (ds_ (t_ (sq_ (qa0 [(2, .go (owns 0 0 2))] [4] [(5, .int .i64 190)] (ds_ (bk (owns 0 0 2) (.tuple #[.agg #[.slice none 0 0, .slice none 0 0], .int .i64 190]) (qo0 4 [(5, .go (owns 2 0 2))] [4] [(5, .int .i64 190)] (on_ (ds_ (rt (owns 2 0 2) (.tuple #[.agg #[.slice none 0 0, .slice none 0 0], .int .i64 190]) ?_)))))))))))))))
  exact fun w' hw => by rw [createV_bad q5]; exact ⟨none, 0, 0, [], none, 0, 0, [], rfl, SlO.nil, SlO.nil, hw.below, hw.sub (List.nil_sublist _)⟩
 ·
  refine cD (.int .i64 0) Try.call10 (fun w hw => by have := gcheck_d p n cap ds q m capv vs w (hds.kept hw.below) hn (by omega) (hvs.kept hw.below) hm (by omega); rw [q5] at this; exact this) (qo0 1 [] [1, 2, 4] [(6, .int .i64 0)] (on_ (ds_ (sq_ (qa0 [] [1, 2, 4, 6] [(12, .bool false)] (ds_ (f_ (at_skip (ds_ (sq_ ?_))))))))))
  refine at_any (by kernel_rfl) ?_
  refine tk (m := 9) [0, 4] [] [1, 2, 4] [(15, .pointer (some ⟨γ3 0, 0, none⟩)), (19, .pointer (some ⟨γ3 0, 1, none⟩))] ([]) #[true, false, false, false, true, false, false, false, false, false, false] al0 ?_
  refine any_cutX (V := (Array Value) × (Array Value) × (Nat) × (Nat) × (Nat → Nat)) (fun ⟨c155, c75, g155, g75, γ195⟩ => c155.size = m * 4 ∧ c75.size = n * 4) 0 #[true, true, true, true, true, true, true, true, true, true, true] (fun ⟨c155, c75, g155, g75, γ195⟩ => [(1, .func (.func 61) #[] #[.pointer (some ⟨γ1 1, 0, none⟩)]), (2, .pointer (some ⟨γ3 0, 0, none⟩)), (4, .pointer (some ⟨γ3 1, 0, none⟩)), (7, .pointer (some ⟨γ195 0, 0, none⟩))]) (fun ⟨c155, c75, g155, g75, γ195⟩ => [bx (γ195 0) (#[.slice (some ⟨g75, 0, none⟩) n n, .slice (some ⟨g155, 0, none⟩) m m]) 25, bx g155 c155 43, bx g75 c75 32, bx (γ3 1) (#[.slice none 0 0, .slice none 0 0]) 25, bx (γ3 0) (#[.slice p n cap, .slice q m capv]) 25, bx (γ1 2) (#[.slice none 0 0, .slice none 0 0]) 25, bx (γ1 1) (#[.int .i64 d.id, .int .i64 d.weight, .int .i64 d.cap, .int .i64 d.pool]) 32, bx (γ1 0) (#[.slice p n cap, .slice q m capv]) 25]) ?_ (fun hmx18 => ?_)
  rotate_left
  ·
   refine any_cutX (V := (Array Value) × (Array Value) × (Nat) × (Nat) × (Nat → Nat)) (fun ⟨c155, c75, g155, g75, γ195⟩ => c155.size = m * 4 ∧ c75.size = n * 4) 1 #[true, true, true, true, true, true, true, true, true, true, false] (fun ⟨c155, c75, g155, g75, γ195⟩ => [(1, .func (.func 61) #[] #[.pointer (some ⟨γ1 1, 0, none⟩)]), (2, .pointer (some ⟨γ3 0, 0, none⟩)), (4, .pointer (some ⟨γ3 1, 0, none⟩)), (7, .pointer (some ⟨γ195 0, 0, none⟩)), (23, .agg #[.slice (some ⟨g75, 0, none⟩) n n, .slice (some ⟨g155, 0, none⟩) m m])]) (fun ⟨c155, c75, g155, g75, γ195⟩ => [bx (γ195 0) (#[.slice none 0 0, .slice none 0 0]) 25, bx g155 c155 43, bx g75 c75 32, bx (γ3 1) (#[.slice none 0 0, .slice none 0 0]) 25, bx (γ3 0) (#[.slice p n cap, .slice q m capv]) 25, bx (γ1 2) (#[.slice none 0 0, .slice none 0 0]) 25, bx (γ1 1) (#[.int .i64 d.id, .int .i64 d.weight, .int .i64 d.cap, .int .i64 d.pool]) 32, bx (γ1 0) (#[.slice p n cap, .slice q m capv]) 25]) ?_ (fun hmx17 => ?_)
   ·
    rintro ⟨c155, c75, g155, g75, γ195⟩ ⟨hc155, hc75⟩
    refine a1 10 rfl ?_
    refine mo0 1 [(10, .go (owns 0 0 2))] [1, 2, 4, 7] (fun _ => []) (fun _ L => (L.set 0 (bx (γ195 0) (#[.slice (some ⟨g75, 0, none⟩) n n, .slice (some ⟨g155, 0, none⟩) m m]) 25))) (fun _ => ?_)
    refine od_ ?_
    exact wk (hmx18 (c155, c75, g155, g75, γ195) ⟨hc155, hc75⟩) [1, 2, 4, 7] [[_], [_], [_], [_], [_], [_], [_], [_]] [0, 1, 2, 3, 4, 5, 6, 7] rfl rfl
   refine any_cutX (V := (Array Value) × (Array Value) × (Nat) × (Nat)) (fun ⟨c155, c75, g155, g75⟩ => c155.size = m * 4 ∧ c75.size = n * 4) 2 #[true, true, true, true, true, true, true, true, true, false, false] (fun ⟨c155, c75, g155, g75⟩ => [(1, .func (.func 61) #[] #[.pointer (some ⟨γ1 1, 0, none⟩)]), (2, .pointer (some ⟨γ3 0, 0, none⟩)), (4, .pointer (some ⟨γ3 1, 0, none⟩)), (23, .agg #[.slice (some ⟨g75, 0, none⟩) n n, .slice (some ⟨g155, 0, none⟩) m m])]) (fun ⟨c155, c75, g155, g75⟩ => [bx g155 c155 43, bx g75 c75 32, bx (γ3 1) (#[.slice none 0 0, .slice none 0 0]) 25, bx (γ3 0) (#[.slice p n cap, .slice q m capv]) 25, bx (γ1 2) (#[.slice none 0 0, .slice none 0 0]) 25, bx (γ1 1) (#[.int .i64 d.id, .int .i64 d.weight, .int .i64 d.cap, .int .i64 d.pool]) 32, bx (γ1 0) (#[.slice p n cap, .slice q m capv]) 25]) ?_ (fun hmx16 => ?_)
   ·
    rintro ⟨c155, c75, g155, g75⟩ ⟨hc155, hc75⟩
    refine a1 9 rfl ?_
    refine mo0 1 [] [1, 2, 4, 23] (fun γ195 => [(7, .pointer (some ⟨γ195 0, 0, none⟩))]) (fun γ195 L => bx (γ195 0) (#[.slice none 0 0, .slice none 0 0]) 25 :: L) (fun γ195 => ?_)
    refine od_ ?_
    exact wk (hmx17 (c155, c75, g155, g75, γ195) ⟨hc155, hc75⟩) [1, 2, 4, 7, 23] [[_], [_], [_], [_], [_], [_], [_], [_]] [0, 1, 2, 3, 4, 5, 6, 7] rfl rfl
   refine any_cutX (V := (Array Value) × (Nat) × (Nat → Nat)) (fun ⟨c155, g155, γ195⟩ => c155.size = m * 4) 3 #[true, true, true, false, true, true, true, true, false, true, false] (fun ⟨c155, g155, γ195⟩ => [(1, .func (.func 61) #[] #[.pointer (some ⟨γ1 1, 0, none⟩)]), (2, .pointer (some ⟨γ3 0, 0, none⟩)), (4, .pointer (some ⟨γ3 1, 0, none⟩)), (7, .pointer (some ⟨γ195 0, 0, none⟩)), (17, .int .i64 ((n : Nat))), (22, .slice (some ⟨g155, 0, none⟩) m m)]) (fun ⟨c155, g155, γ195⟩ => [bx (γ195 0) (#[.slice none 0 0, .slice none 0 0]) 25, bx g155 c155 43, bx (γ3 1) (#[.slice none 0 0, .slice none 0 0]) 25, bx (γ3 0) (#[.slice p n cap, .slice q m capv]) 25, bx (γ1 2) (#[.slice none 0 0, .slice none 0 0]) 25, bx (γ1 1) (#[.int .i64 d.id, .int .i64 d.weight, .int .i64 d.cap, .int .i64 d.pool]) 32, bx (γ1 0) (#[.slice p n cap, .slice q m capv]) 25]) ?_ (fun hmx15 => ?_)
   ·
    rintro ⟨c155, g155, γ195⟩ hc155
    refine a1 3 rfl ?_
    refine ops_make (T := 32) (ks := 4) (by_ := 32) (n := n) rfl (by kernel_rfl) (by kernel_rfl) (by kernel_rfl) (by kernel_rfl) (by kernel_rfl) (by omega) (by have hmx : maxLen = 9223372036854775807 := rfl; omega) (fun g75 c75 hc75 => ?_)
    refine od_ ?_
    refine tk (m := 1) [8] [] [1, 2, 4, 7] [(23, .agg #[.slice (some ⟨g75, 0, none⟩) n n, .slice (some ⟨g155, 0, none⟩) m m])] ([]) #[true, true, true, true, true, true, true, true, true, true, false] al0 ?_
    exact wk (hmx17 (c155, c75, g155, g75, γ195) ⟨hc155, hc75⟩) [1, 2, 4, 7, 23] [[_], [_], [_], [_], [_], [_], [_], [_]] [1, 2, 0, 3, 4, 5, 6, 7] rfl rfl
   refine any_cutX (V := (Array Value) × (Nat) × (Nat → Nat)) (fun ⟨c75, g75, γ195⟩ => c75.size = n * 4) 3 #[true, true, true, true, true, true, true, false, false, true, false] (fun ⟨c75, g75, γ195⟩ => [(1, .func (.func 61) #[] #[.pointer (some ⟨γ1 1, 0, none⟩)]), (2, .pointer (some ⟨γ3 0, 0, none⟩)), (4, .pointer (some ⟨γ3 1, 0, none⟩)), (7, .pointer (some ⟨γ195 0, 0, none⟩)), (18, .slice (some ⟨g75, 0, none⟩) n n), (21, .int .i64 ((m : Nat)))]) (fun ⟨c75, g75, γ195⟩ => [bx (γ195 0) (#[.slice none 0 0, .slice none 0 0]) 25, bx g75 c75 32, bx (γ3 1) (#[.slice none 0 0, .slice none 0 0]) 25, bx (γ3 0) (#[.slice p n cap, .slice q m capv]) 25, bx (γ1 2) (#[.slice none 0 0, .slice none 0 0]) 25, bx (γ1 1) (#[.int .i64 d.id, .int .i64 d.weight, .int .i64 d.cap, .int .i64 d.pool]) 32, bx (γ1 0) (#[.slice p n cap, .slice q m capv]) 25]) ?_ (fun hmx14 => ?_)
   ·
    rintro ⟨c75, g75, γ195⟩ hc75
    refine a1 7 rfl ?_
    refine ops_make (T := 43) (ks := 4) (by_ := 24) (n := m) rfl (by kernel_rfl) (by kernel_rfl) (by kernel_rfl) (by kernel_rfl) (by kernel_rfl) (by omega) (by have hmx : maxLen = 9223372036854775807 := rfl; omega) (fun g155 c155 hc155 => ?_)
    refine od_ ?_
    refine tk (m := 1) [8] [] [1, 2, 4, 7] [(23, .agg #[.slice (some ⟨g75, 0, none⟩) n n, .slice (some ⟨g155, 0, none⟩) m m])] ([]) #[true, true, true, true, true, true, true, true, true, true, false] al0 ?_
    exact wk (hmx17 (c155, c75, g155, g75, γ195) ⟨hc155, hc75⟩) [1, 2, 4, 7, 23] [[_], [_], [_], [_], [_], [_], [_], [_]] [1, 0, 2, 3, 4, 5, 6, 7] rfl rfl
   refine any_cutX (V := (Array Value) × (Nat)) (fun ⟨c155, g155⟩ => c155.size = m * 4) 4 #[true, true, true, false, true, true, true, true, false, false, false] (fun ⟨c155, g155⟩ => [(1, .func (.func 61) #[] #[.pointer (some ⟨γ1 1, 0, none⟩)]), (2, .pointer (some ⟨γ3 0, 0, none⟩)), (4, .pointer (some ⟨γ3 1, 0, none⟩)), (17, .int .i64 ((n : Nat))), (22, .slice (some ⟨g155, 0, none⟩) m m)]) (fun ⟨c155, g155⟩ => [bx g155 c155 43, bx (γ3 1) (#[.slice none 0 0, .slice none 0 0]) 25, bx (γ3 0) (#[.slice p n cap, .slice q m capv]) 25, bx (γ1 2) (#[.slice none 0 0, .slice none 0 0]) 25, bx (γ1 1) (#[.int .i64 d.id, .int .i64 d.weight, .int .i64 d.cap, .int .i64 d.pool]) 32, bx (γ1 0) (#[.slice p n cap, .slice q m capv]) 25]) ?_ (fun hmx13 => ?_)
   ·
    rintro ⟨c155, g155⟩ hc155
    refine any_fork [3, 9] (by kernel_rfl) (by simp) (each_cons _ rfl ?_ (each_cons _ rfl ?_ (each_nil)))
    ·
     refine ops_make (T := 32) (ks := 4) (by_ := 32) (n := n) rfl (by kernel_rfl) (by kernel_rfl) (by kernel_rfl) (by kernel_rfl) (by kernel_rfl) (by omega) (by have hmx : maxLen = 9223372036854775807 := rfl; omega) (fun g75 c75 hc75 => ?_)
     refine od_ ?_
     refine tk (m := 2) [8] [] [1, 2, 4] [(23, .agg #[.slice (some ⟨g75, 0, none⟩) n n, .slice (some ⟨g155, 0, none⟩) m m])] ([]) #[true, true, true, true, true, true, true, true, true, false, false] al0 ?_
     exact wk (hmx16 (c155, c75, g155, g75) ⟨hc155, hc75⟩) [1, 2, 4, 23] [[_], [_], [_], [_], [_], [_], [_]] [1, 0, 2, 3, 4, 5, 6] rfl rfl
    ·
     refine mo0 1 [] [1, 2, 4, 17, 22] (fun γ195 => [(7, .pointer (some ⟨γ195 0, 0, none⟩))]) (fun γ195 L => bx (γ195 0) (#[.slice none 0 0, .slice none 0 0]) 25 :: L) (fun γ195 => ?_)
     refine od_ ?_
     exact wk (hmx15 (c155, g155, γ195) hc155) [1, 2, 4, 7, 17, 22] [[_], [_], [_], [_], [_], [_], [_]] [0, 1, 2, 3, 4, 5, 6] rfl rfl
   refine any_cutX (V := (Array Value) × (Nat)) (fun ⟨c75, g75⟩ => c75.size = n * 4) 4 #[true, true, true, true, true, true, true, false, false, false, false] (fun ⟨c75, g75⟩ => [(1, .func (.func 61) #[] #[.pointer (some ⟨γ1 1, 0, none⟩)]), (2, .pointer (some ⟨γ3 0, 0, none⟩)), (4, .pointer (some ⟨γ3 1, 0, none⟩)), (18, .slice (some ⟨g75, 0, none⟩) n n), (21, .int .i64 ((m : Nat)))]) (fun ⟨c75, g75⟩ => [bx g75 c75 32, bx (γ3 1) (#[.slice none 0 0, .slice none 0 0]) 25, bx (γ3 0) (#[.slice p n cap, .slice q m capv]) 25, bx (γ1 2) (#[.slice none 0 0, .slice none 0 0]) 25, bx (γ1 1) (#[.int .i64 d.id, .int .i64 d.weight, .int .i64 d.cap, .int .i64 d.pool]) 32, bx (γ1 0) (#[.slice p n cap, .slice q m capv]) 25]) ?_ (fun hmx12 => ?_)
   ·
    rintro ⟨c75, g75⟩ hc75
    refine any_fork [7, 9] (by kernel_rfl) (by simp) (each_cons _ rfl ?_ (each_cons _ rfl ?_ (each_nil)))
    ·
     refine ops_make (T := 43) (ks := 4) (by_ := 24) (n := m) rfl (by kernel_rfl) (by kernel_rfl) (by kernel_rfl) (by kernel_rfl) (by kernel_rfl) (by omega) (by have hmx : maxLen = 9223372036854775807 := rfl; omega) (fun g155 c155 hc155 => ?_)
     refine od_ ?_
     refine tk (m := 2) [8] [] [1, 2, 4] [(23, .agg #[.slice (some ⟨g75, 0, none⟩) n n, .slice (some ⟨g155, 0, none⟩) m m])] ([]) #[true, true, true, true, true, true, true, true, true, false, false] al0 ?_
     exact wk (hmx16 (c155, c75, g155, g75) ⟨hc155, hc75⟩) [1, 2, 4, 23] [[_], [_], [_], [_], [_], [_], [_]] [0, 1, 2, 3, 4, 5, 6] rfl rfl
    ·
     refine mo0 1 [] [1, 2, 4, 18, 21] (fun γ195 => [(7, .pointer (some ⟨γ195 0, 0, none⟩))]) (fun γ195 L => bx (γ195 0) (#[.slice none 0 0, .slice none 0 0]) 25 :: L) (fun γ195 => ?_)
     refine od_ ?_
     exact wk (hmx14 (c75, g75, γ195) hc75) [1, 2, 4, 7, 18, 21] [[_], [_], [_], [_], [_], [_], [_]] [0, 1, 2, 3, 4, 5, 6] rfl rfl
   refine any_cutX (V := (Nat → Nat)) (fun γ195 => True) 4 #[true, true, true, false, true, true, true, false, false, true, false] (fun γ195 => [(1, .func (.func 61) #[] #[.pointer (some ⟨γ1 1, 0, none⟩)]), (2, .pointer (some ⟨γ3 0, 0, none⟩)), (4, .pointer (some ⟨γ3 1, 0, none⟩)), (7, .pointer (some ⟨γ195 0, 0, none⟩)), (17, .int .i64 ((n : Nat))), (21, .int .i64 ((m : Nat)))]) (fun γ195 => [bx (γ195 0) (#[.slice none 0 0, .slice none 0 0]) 25, bx (γ3 1) (#[.slice none 0 0, .slice none 0 0]) 25, bx (γ3 0) (#[.slice p n cap, .slice q m capv]) 25, bx (γ1 2) (#[.slice none 0 0, .slice none 0 0]) 25, bx (γ1 1) (#[.int .i64 d.id, .int .i64 d.weight, .int .i64 d.cap, .int .i64 d.pool]) 32, bx (γ1 0) (#[.slice p n cap, .slice q m capv]) 25]) ?_ (fun hmx11 => ?_)
   ·
    rintro γ195 _
    refine any_fork [3, 7] (by kernel_rfl) (by simp) (each_cons _ rfl ?_ (each_cons _ rfl ?_ (each_nil)))
    ·
     refine ops_make (T := 32) (ks := 4) (by_ := 32) (n := n) rfl (by kernel_rfl) (by kernel_rfl) (by kernel_rfl) (by kernel_rfl) (by kernel_rfl) (by omega) (by have hmx : maxLen = 9223372036854775807 := rfl; omega) (fun g75 c75 hc75 => ?_)
     refine od_ ?_
     exact wk (hmx14 (c75, g75, γ195) hc75) [1, 2, 4, 7, 18, 21] [[_], [_], [_], [_], [_], [_], [_]] [1, 0, 2, 3, 4, 5, 6] rfl rfl
    ·
     refine ops_make (T := 43) (ks := 4) (by_ := 24) (n := m) rfl (by kernel_rfl) (by kernel_rfl) (by kernel_rfl) (by kernel_rfl) (by kernel_rfl) (by omega) (by have hmx : maxLen = 9223372036854775807 := rfl; omega) (fun g155 c155 hc155 => ?_)
     refine od_ ?_
     exact wk (hmx15 (c155, g155, γ195) hc155) [1, 2, 4, 7, 17, 22] [[_], [_], [_], [_], [_], [_], [_]] [1, 0, 2, 3, 4, 5, 6] rfl rfl
   refine any_cutX (V := (Array Value) × (Nat) × (Nat → Nat)) (fun ⟨c155, g155, γ195⟩ => c155.size = m * 4) 5 #[true, false, false, false, true, true, true, true, false, true, false] (fun ⟨c155, g155, γ195⟩ => [(1, .func (.func 61) #[] #[.pointer (some ⟨γ1 1, 0, none⟩)]), (2, .pointer (some ⟨γ3 0, 0, none⟩)), (4, .pointer (some ⟨γ3 1, 0, none⟩)), (7, .pointer (some ⟨γ195 0, 0, none⟩)), (15, .pointer (some ⟨γ3 0, 0, none⟩)), (22, .slice (some ⟨g155, 0, none⟩) m m)]) (fun ⟨c155, g155, γ195⟩ => [bx (γ195 0) (#[.slice none 0 0, .slice none 0 0]) 25, bx g155 c155 43, bx (γ3 1) (#[.slice none 0 0, .slice none 0 0]) 25, bx (γ3 0) (#[.slice p n cap, .slice q m capv]) 25, bx (γ1 2) (#[.slice none 0 0, .slice none 0 0]) 25, bx (γ1 1) (#[.int .i64 d.id, .int .i64 d.weight, .int .i64 d.cap, .int .i64 d.pool]) 32, bx (γ1 0) (#[.slice p n cap, .slice q m capv]) 25]) ?_ (fun hmx10 => ?_)
   ·
    rintro ⟨c155, g155, γ195⟩ hc155
    refine a1 1 rfl ?_
    refine qo0 1 [(1, .go (owns 3 0 1))] [1, 2, 4, 7, 22] [(16, .slice p n cap)] ?_
    refine od_ ?_
    refine tk (m := 3) [2] [] [1, 2, 4, 7, 22] [(17, .int .i64 ((n : Nat)))] ([]) #[true, true, true, false, true, true, true, true, false, true, false] al0 ?_
    exact wk (hmx15 (c155, g155, γ195) hc155) [1, 2, 4, 7, 17, 22] [[_], [_], [_], [_], [_], [_], [_]] [0, 1, 2, 3, 4, 5, 6] rfl rfl
   refine any_cutX (V := (Array Value) × (Nat) × (Nat → Nat)) (fun ⟨c75, g75, γ195⟩ => c75.size = n * 4) 5 #[true, true, true, true, true, false, false, false, false, true, false] (fun ⟨c75, g75, γ195⟩ => [(1, .func (.func 61) #[] #[.pointer (some ⟨γ1 1, 0, none⟩)]), (2, .pointer (some ⟨γ3 0, 0, none⟩)), (4, .pointer (some ⟨γ3 1, 0, none⟩)), (7, .pointer (some ⟨γ195 0, 0, none⟩)), (18, .slice (some ⟨g75, 0, none⟩) n n), (19, .pointer (some ⟨γ3 0, 1, none⟩))]) (fun ⟨c75, g75, γ195⟩ => [bx (γ195 0) (#[.slice none 0 0, .slice none 0 0]) 25, bx g75 c75 32, bx (γ3 1) (#[.slice none 0 0, .slice none 0 0]) 25, bx (γ3 0) (#[.slice p n cap, .slice q m capv]) 25, bx (γ1 2) (#[.slice none 0 0, .slice none 0 0]) 25, bx (γ1 1) (#[.int .i64 d.id, .int .i64 d.weight, .int .i64 d.cap, .int .i64 d.pool]) 32, bx (γ1 0) (#[.slice p n cap, .slice q m capv]) 25]) ?_ (fun hmx9 => ?_)
   ·
    rintro ⟨c75, g75, γ195⟩ hc75
    refine a1 5 rfl ?_
    refine qo0 1 [(5, .go (owns 3 1 1))] [1, 2, 4, 7, 18] [(20, .slice q m capv)] ?_
    refine od_ ?_
    refine tk (m := 3) [6] [] [1, 2, 4, 7, 18] [(21, .int .i64 ((m : Nat)))] ([]) #[true, true, true, true, true, true, true, false, false, true, false] al0 ?_
    exact wk (hmx14 (c75, g75, γ195) hc75) [1, 2, 4, 7, 18, 21] [[_], [_], [_], [_], [_], [_], [_]] [0, 1, 2, 3, 4, 5, 6] rfl rfl
   refine any_cutX (V := Unit) (fun _ => True) 5 #[true, true, true, false, true, true, true, false, false, false, false] (fun _ => [(1, .func (.func 61) #[] #[.pointer (some ⟨γ1 1, 0, none⟩)]), (2, .pointer (some ⟨γ3 0, 0, none⟩)), (4, .pointer (some ⟨γ3 1, 0, none⟩)), (17, .int .i64 ((n : Nat))), (21, .int .i64 ((m : Nat)))]) (fun _ => [bx (γ3 1) (#[.slice none 0 0, .slice none 0 0]) 25, bx (γ3 0) (#[.slice p n cap, .slice q m capv]) 25, bx (γ1 2) (#[.slice none 0 0, .slice none 0 0]) 25, bx (γ1 1) (#[.int .i64 d.id, .int .i64 d.weight, .int .i64 d.cap, .int .i64 d.pool]) 32, bx (γ1 0) (#[.slice p n cap, .slice q m capv]) 25]) ?_ (fun hmx8 => ?_)
   ·
    rintro _ _
    refine any_fork [3, 7, 9] (by kernel_rfl) (by simp) (each_cons _ rfl ?_ (each_cons _ rfl ?_ (each_cons _ rfl ?_ (each_nil))))
    ·
     refine ops_make (T := 32) (ks := 4) (by_ := 32) (n := n) rfl (by kernel_rfl) (by kernel_rfl) (by kernel_rfl) (by kernel_rfl) (by kernel_rfl) (by omega) (by have hmx : maxLen = 9223372036854775807 := rfl; omega) (fun g75 c75 hc75 => ?_)
     refine od_ ?_
     exact wk (hmx12 (c75, g75) hc75) [1, 2, 4, 18, 21] [[_], [_], [_], [_], [_], [_]] [0, 1, 2, 3, 4, 5] rfl rfl
    ·
     refine ops_make (T := 43) (ks := 4) (by_ := 24) (n := m) rfl (by kernel_rfl) (by kernel_rfl) (by kernel_rfl) (by kernel_rfl) (by kernel_rfl) (by omega) (by have hmx : maxLen = 9223372036854775807 := rfl; omega) (fun g155 c155 hc155 => ?_)
     refine od_ ?_
     exact wk (hmx13 (c155, g155) hc155) [1, 2, 4, 17, 22] [[_], [_], [_], [_], [_], [_]] [0, 1, 2, 3, 4, 5] rfl rfl
    ·
     refine mo0 1 [] [1, 2, 4, 17, 21] (fun γ195 => [(7, .pointer (some ⟨γ195 0, 0, none⟩))]) (fun γ195 L => bx (γ195 0) (#[.slice none 0 0, .slice none 0 0]) 25 :: L) (fun γ195 => ?_)
     refine od_ ?_
     exact wk (hmx11 γ195 trivial) [1, 2, 4, 7, 17, 21] [[_], [_], [_], [_], [_], [_]] [0, 1, 2, 3, 4, 5] rfl rfl
   refine any_cutX (V := (Array Value) × (Nat)) (fun ⟨c155, g155⟩ => c155.size = m * 4) 6 #[true, false, false, false, true, true, true, true, false, false, false] (fun ⟨c155, g155⟩ => [(1, .func (.func 61) #[] #[.pointer (some ⟨γ1 1, 0, none⟩)]), (2, .pointer (some ⟨γ3 0, 0, none⟩)), (4, .pointer (some ⟨γ3 1, 0, none⟩)), (15, .pointer (some ⟨γ3 0, 0, none⟩)), (22, .slice (some ⟨g155, 0, none⟩) m m)]) (fun ⟨c155, g155⟩ => [bx g155 c155 43, bx (γ3 1) (#[.slice none 0 0, .slice none 0 0]) 25, bx (γ3 0) (#[.slice p n cap, .slice q m capv]) 25, bx (γ1 2) (#[.slice none 0 0, .slice none 0 0]) 25, bx (γ1 1) (#[.int .i64 d.id, .int .i64 d.weight, .int .i64 d.cap, .int .i64 d.pool]) 32, bx (γ1 0) (#[.slice p n cap, .slice q m capv]) 25]) ?_ (fun hmx7 => ?_)
   ·
    rintro ⟨c155, g155⟩ hc155
    refine any_fork [1, 9] (by kernel_rfl) (by simp) (each_cons _ rfl ?_ (each_cons _ rfl ?_ (each_nil)))
    ·
     refine qo0 1 [(1, .go (owns 2 0 1))] [1, 2, 4, 22] [(16, .slice p n cap)] ?_
     refine od_ ?_
     refine tk (m := 4) [2] [] [1, 2, 4, 22] [(17, .int .i64 ((n : Nat)))] ([]) #[true, true, true, false, true, true, true, true, false, false, false] al0 ?_
     exact wk (hmx13 (c155, g155) hc155) [1, 2, 4, 17, 22] [[_], [_], [_], [_], [_], [_]] [0, 1, 2, 3, 4, 5] rfl rfl
    ·
     refine mo0 1 [] [1, 2, 4, 15, 22] (fun γ195 => [(7, .pointer (some ⟨γ195 0, 0, none⟩))]) (fun γ195 L => bx (γ195 0) (#[.slice none 0 0, .slice none 0 0]) 25 :: L) (fun γ195 => ?_)
     refine od_ ?_
     exact wk (hmx10 (c155, g155, γ195) hc155) [1, 2, 4, 7, 15, 22] [[_], [_], [_], [_], [_], [_], [_]] [0, 1, 2, 3, 4, 5, 6] rfl rfl
   refine any_cutX (V := (Array Value) × (Nat)) (fun ⟨c75, g75⟩ => c75.size = n * 4) 6 #[true, true, true, true, true, false, false, false, false, false, false] (fun ⟨c75, g75⟩ => [(1, .func (.func 61) #[] #[.pointer (some ⟨γ1 1, 0, none⟩)]), (2, .pointer (some ⟨γ3 0, 0, none⟩)), (4, .pointer (some ⟨γ3 1, 0, none⟩)), (18, .slice (some ⟨g75, 0, none⟩) n n), (19, .pointer (some ⟨γ3 0, 1, none⟩))]) (fun ⟨c75, g75⟩ => [bx g75 c75 32, bx (γ3 1) (#[.slice none 0 0, .slice none 0 0]) 25, bx (γ3 0) (#[.slice p n cap, .slice q m capv]) 25, bx (γ1 2) (#[.slice none 0 0, .slice none 0 0]) 25, bx (γ1 1) (#[.int .i64 d.id, .int .i64 d.weight, .int .i64 d.cap, .int .i64 d.pool]) 32, bx (γ1 0) (#[.slice p n cap, .slice q m capv]) 25]) ?_ (fun hmx6 => ?_)
   ·
    rintro ⟨c75, g75⟩ hc75
    refine any_fork [5, 9] (by kernel_rfl) (by simp) (each_cons _ rfl ?_ (each_cons _ rfl ?_ (each_nil)))
    ·
     refine qo0 1 [(5, .go (owns 2 1 1))] [1, 2, 4, 18] [(20, .slice q m capv)] ?_
     refine od_ ?_
     refine tk (m := 4) [6] [] [1, 2, 4, 18] [(21, .int .i64 ((m : Nat)))] ([]) #[true, true, true, true, true, true, true, false, false, false, false] al0 ?_
     exact wk (hmx12 (c75, g75) hc75) [1, 2, 4, 18, 21] [[_], [_], [_], [_], [_], [_]] [0, 1, 2, 3, 4, 5] rfl rfl
    ·
     refine mo0 1 [] [1, 2, 4, 18, 19] (fun γ195 => [(7, .pointer (some ⟨γ195 0, 0, none⟩))]) (fun γ195 L => bx (γ195 0) (#[.slice none 0 0, .slice none 0 0]) 25 :: L) (fun γ195 => ?_)
     refine od_ ?_
     exact wk (hmx9 (c75, g75, γ195) hc75) [1, 2, 4, 7, 18, 19] [[_], [_], [_], [_], [_], [_], [_]] [0, 1, 2, 3, 4, 5, 6] rfl rfl
   refine any_cutX (V := (Nat → Nat)) (fun γ195 => True) 6 #[true, false, false, false, true, true, true, false, false, true, false] (fun γ195 => [(1, .func (.func 61) #[] #[.pointer (some ⟨γ1 1, 0, none⟩)]), (2, .pointer (some ⟨γ3 0, 0, none⟩)), (4, .pointer (some ⟨γ3 1, 0, none⟩)), (7, .pointer (some ⟨γ195 0, 0, none⟩)), (15, .pointer (some ⟨γ3 0, 0, none⟩)), (21, .int .i64 ((m : Nat)))]) (fun γ195 => [bx (γ195 0) (#[.slice none 0 0, .slice none 0 0]) 25, bx (γ3 1) (#[.slice none 0 0, .slice none 0 0]) 25, bx (γ3 0) (#[.slice p n cap, .slice q m capv]) 25, bx (γ1 2) (#[.slice none 0 0, .slice none 0 0]) 25, bx (γ1 1) (#[.int .i64 d.id, .int .i64 d.weight, .int .i64 d.cap, .int .i64 d.pool]) 32, bx (γ1 0) (#[.slice p n cap, .slice q m capv]) 25]) ?_ (fun hmx5 => ?_)
   ·
    rintro γ195 _
    refine any_fork [1, 7] (by kernel_rfl) (by simp) (each_cons _ rfl ?_ (each_cons _ rfl ?_ (each_nil)))
    ·
     refine qo0 1 [(1, .go (owns 2 0 1))] [1, 2, 4, 7, 21] [(16, .slice p n cap)] ?_
     refine od_ ?_
     refine tk (m := 4) [2] [] [1, 2, 4, 7, 21] [(17, .int .i64 ((n : Nat)))] ([]) #[true, true, true, false, true, true, true, false, false, true, false] al0 ?_
     exact wk (hmx11 γ195 trivial) [1, 2, 4, 7, 17, 21] [[_], [_], [_], [_], [_], [_]] [0, 1, 2, 3, 4, 5] rfl rfl
    ·
     refine ops_make (T := 43) (ks := 4) (by_ := 24) (n := m) rfl (by kernel_rfl) (by kernel_rfl) (by kernel_rfl) (by kernel_rfl) (by kernel_rfl) (by omega) (by have hmx : maxLen = 9223372036854775807 := rfl; omega) (fun g155 c155 hc155 => ?_)
     refine od_ ?_
     exact wk (hmx10 (c155, g155, γ195) hc155) [1, 2, 4, 7, 15, 22] [[_], [_], [_], [_], [_], [_], [_]] [1, 0, 2, 3, 4, 5, 6] rfl rfl
   refine any_cutX (V := (Nat → Nat)) (fun γ195 => True) 6 #[true, true, true, false, true, false, false, false, false, true, false] (fun γ195 => [(1, .func (.func 61) #[] #[.pointer (some ⟨γ1 1, 0, none⟩)]), (2, .pointer (some ⟨γ3 0, 0, none⟩)), (4, .pointer (some ⟨γ3 1, 0, none⟩)), (7, .pointer (some ⟨γ195 0, 0, none⟩)), (17, .int .i64 ((n : Nat))), (19, .pointer (some ⟨γ3 0, 1, none⟩))]) (fun γ195 => [bx (γ195 0) (#[.slice none 0 0, .slice none 0 0]) 25, bx (γ3 1) (#[.slice none 0 0, .slice none 0 0]) 25, bx (γ3 0) (#[.slice p n cap, .slice q m capv]) 25, bx (γ1 2) (#[.slice none 0 0, .slice none 0 0]) 25, bx (γ1 1) (#[.int .i64 d.id, .int .i64 d.weight, .int .i64 d.cap, .int .i64 d.pool]) 32, bx (γ1 0) (#[.slice p n cap, .slice q m capv]) 25]) ?_ (fun hmx4 => ?_)
   ·
    rintro γ195 _
    refine any_fork [3, 5] (by kernel_rfl) (by simp) (each_cons _ rfl ?_ (each_cons _ rfl ?_ (each_nil)))
    ·
     refine ops_make (T := 32) (ks := 4) (by_ := 32) (n := n) rfl (by kernel_rfl) (by kernel_rfl) (by kernel_rfl) (by kernel_rfl) (by kernel_rfl) (by omega) (by have hmx : maxLen = 9223372036854775807 := rfl; omega) (fun g75 c75 hc75 => ?_)
     refine od_ ?_
     exact wk (hmx9 (c75, g75, γ195) hc75) [1, 2, 4, 7, 18, 19] [[_], [_], [_], [_], [_], [_], [_]] [1, 0, 2, 3, 4, 5, 6] rfl rfl
    ·
     refine qo0 1 [(5, .go (owns 2 1 1))] [1, 2, 4, 7, 17] [(20, .slice q m capv)] ?_
     refine od_ ?_
     refine tk (m := 4) [6] [] [1, 2, 4, 7, 17] [(21, .int .i64 ((m : Nat)))] ([]) #[true, true, true, false, true, true, true, false, false, true, false] al0 ?_
     exact wk (hmx11 γ195 trivial) [1, 2, 4, 7, 17, 21] [[_], [_], [_], [_], [_], [_]] [0, 1, 2, 3, 4, 5] rfl rfl
   refine any_cutX (V := Unit) (fun _ => True) 7 #[true, false, false, false, true, true, true, false, false, false, false] (fun _ => [(1, .func (.func 61) #[] #[.pointer (some ⟨γ1 1, 0, none⟩)]), (2, .pointer (some ⟨γ3 0, 0, none⟩)), (4, .pointer (some ⟨γ3 1, 0, none⟩)), (15, .pointer (some ⟨γ3 0, 0, none⟩)), (21, .int .i64 ((m : Nat)))]) (fun _ => [bx (γ3 1) (#[.slice none 0 0, .slice none 0 0]) 25, bx (γ3 0) (#[.slice p n cap, .slice q m capv]) 25, bx (γ1 2) (#[.slice none 0 0, .slice none 0 0]) 25, bx (γ1 1) (#[.int .i64 d.id, .int .i64 d.weight, .int .i64 d.cap, .int .i64 d.pool]) 32, bx (γ1 0) (#[.slice p n cap, .slice q m capv]) 25]) ?_ (fun hmx3 => ?_)
   ·
    rintro _ _
    refine any_fork [1, 7, 9] (by kernel_rfl) (by simp) (each_cons _ rfl ?_ (each_cons _ rfl ?_ (each_cons _ rfl ?_ (each_nil))))
    ·
     refine qo0 1 [(1, .go (owns 1 0 1))] [1, 2, 4, 21] [(16, .slice p n cap)] ?_
     refine od_ ?_
     refine tk (m := 5) [2] [] [1, 2, 4, 21] [(17, .int .i64 ((n : Nat)))] ([]) #[true, true, true, false, true, true, true, false, false, false, false] al0 ?_
     exact wk (hmx8 () trivial) [1, 2, 4, 17, 21] [[_], [_], [_], [_], [_]] [0, 1, 2, 3, 4] rfl rfl
    ·
     refine ops_make (T := 43) (ks := 4) (by_ := 24) (n := m) rfl (by kernel_rfl) (by kernel_rfl) (by kernel_rfl) (by kernel_rfl) (by kernel_rfl) (by omega) (by have hmx : maxLen = 9223372036854775807 := rfl; omega) (fun g155 c155 hc155 => ?_)
     refine od_ ?_
     exact wk (hmx7 (c155, g155) hc155) [1, 2, 4, 15, 22] [[_], [_], [_], [_], [_], [_]] [0, 1, 2, 3, 4, 5] rfl rfl
    ·
     refine mo0 1 [] [1, 2, 4, 15, 21] (fun γ195 => [(7, .pointer (some ⟨γ195 0, 0, none⟩))]) (fun γ195 L => bx (γ195 0) (#[.slice none 0 0, .slice none 0 0]) 25 :: L) (fun γ195 => ?_)
     refine od_ ?_
     exact wk (hmx5 γ195 trivial) [1, 2, 4, 7, 15, 21] [[_], [_], [_], [_], [_], [_]] [0, 1, 2, 3, 4, 5] rfl rfl
   refine any_cutX (V := Unit) (fun _ => True) 7 #[true, true, true, false, true, false, false, false, false, false, false] (fun _ => [(1, .func (.func 61) #[] #[.pointer (some ⟨γ1 1, 0, none⟩)]), (2, .pointer (some ⟨γ3 0, 0, none⟩)), (4, .pointer (some ⟨γ3 1, 0, none⟩)), (17, .int .i64 ((n : Nat))), (19, .pointer (some ⟨γ3 0, 1, none⟩))]) (fun _ => [bx (γ3 1) (#[.slice none 0 0, .slice none 0 0]) 25, bx (γ3 0) (#[.slice p n cap, .slice q m capv]) 25, bx (γ1 2) (#[.slice none 0 0, .slice none 0 0]) 25, bx (γ1 1) (#[.int .i64 d.id, .int .i64 d.weight, .int .i64 d.cap, .int .i64 d.pool]) 32, bx (γ1 0) (#[.slice p n cap, .slice q m capv]) 25]) ?_ (fun hmx2 => ?_)
   ·
    rintro _ _
    refine any_fork [3, 5, 9] (by kernel_rfl) (by simp) (each_cons _ rfl ?_ (each_cons _ rfl ?_ (each_cons _ rfl ?_ (each_nil))))
    ·
     refine ops_make (T := 32) (ks := 4) (by_ := 32) (n := n) rfl (by kernel_rfl) (by kernel_rfl) (by kernel_rfl) (by kernel_rfl) (by kernel_rfl) (by omega) (by have hmx : maxLen = 9223372036854775807 := rfl; omega) (fun g75 c75 hc75 => ?_)
     refine od_ ?_
     exact wk (hmx6 (c75, g75) hc75) [1, 2, 4, 18, 19] [[_], [_], [_], [_], [_], [_]] [0, 1, 2, 3, 4, 5] rfl rfl
    ·
     refine qo0 1 [(5, .go (owns 1 1 1))] [1, 2, 4, 17] [(20, .slice q m capv)] ?_
     refine od_ ?_
     refine tk (m := 5) [6] [] [1, 2, 4, 17] [(21, .int .i64 ((m : Nat)))] ([]) #[true, true, true, false, true, true, true, false, false, false, false] al0 ?_
     exact wk (hmx8 () trivial) [1, 2, 4, 17, 21] [[_], [_], [_], [_], [_]] [0, 1, 2, 3, 4] rfl rfl
    ·
     refine mo0 1 [] [1, 2, 4, 17, 19] (fun γ195 => [(7, .pointer (some ⟨γ195 0, 0, none⟩))]) (fun γ195 L => bx (γ195 0) (#[.slice none 0 0, .slice none 0 0]) 25 :: L) (fun γ195 => ?_)
     refine od_ ?_
     exact wk (hmx4 γ195 trivial) [1, 2, 4, 7, 17, 19] [[_], [_], [_], [_], [_], [_]] [0, 1, 2, 3, 4, 5] rfl rfl
   refine any_cutX (V := (Nat → Nat)) (fun γ195 => True) 8 #[true, false, false, false, true, false, false, false, false, true, false] (fun γ195 => [(1, .func (.func 61) #[] #[.pointer (some ⟨γ1 1, 0, none⟩)]), (2, .pointer (some ⟨γ3 0, 0, none⟩)), (4, .pointer (some ⟨γ3 1, 0, none⟩)), (7, .pointer (some ⟨γ195 0, 0, none⟩)), (15, .pointer (some ⟨γ3 0, 0, none⟩)), (19, .pointer (some ⟨γ3 0, 1, none⟩))]) (fun γ195 => [bx (γ195 0) (#[.slice none 0 0, .slice none 0 0]) 25, bx (γ3 1) (#[.slice none 0 0, .slice none 0 0]) 25, bx (γ3 0) (#[.slice p n cap, .slice q m capv]) 25, bx (γ1 2) (#[.slice none 0 0, .slice none 0 0]) 25, bx (γ1 1) (#[.int .i64 d.id, .int .i64 d.weight, .int .i64 d.cap, .int .i64 d.pool]) 32, bx (γ1 0) (#[.slice p n cap, .slice q m capv]) 25]) ?_ (fun hmx1 => ?_)
   ·
    rintro γ195 _
    refine any_fork [1, 5] (by kernel_rfl) (by simp) (each_cons _ rfl ?_ (each_cons _ rfl ?_ (each_nil)))
    ·
     refine qo0 1 [(1, .go (owns 2 0 1))] [1, 2, 4, 7, 19] [(16, .slice p n cap)] ?_
     refine od_ ?_
     refine tk (m := 6) [2] [] [1, 2, 4, 7, 19] [(17, .int .i64 ((n : Nat)))] ([]) #[true, true, true, false, true, false, false, false, false, true, false] al0 ?_
     exact wk (hmx4 γ195 trivial) [1, 2, 4, 7, 17, 19] [[_], [_], [_], [_], [_], [_]] [0, 1, 2, 3, 4, 5] rfl rfl
    ·
     refine qo0 1 [(5, .go (owns 2 1 1))] [1, 2, 4, 7, 15] [(20, .slice q m capv)] ?_
     refine od_ ?_
     refine tk (m := 6) [6] [] [1, 2, 4, 7, 15] [(21, .int .i64 ((m : Nat)))] ([]) #[true, false, false, false, true, true, true, false, false, true, false] al0 ?_
     exact wk (hmx5 γ195 trivial) [1, 2, 4, 7, 15, 21] [[_], [_], [_], [_], [_], [_]] [0, 1, 2, 3, 4, 5] rfl rfl
   refine any_fork [1, 5, 9] (by kernel_rfl) (by simp) (each_cons _ rfl ?_ (each_cons _ rfl ?_ (each_cons _ rfl ?_ (each_nil))))
   ·
    refine qo0 1 [(1, .go (owns 1 0 1))] [1, 2, 4, 19] [(16, .slice p n cap)] ?_
    refine od_ ?_
    refine tk (m := 7) [2] [] [1, 2, 4, 19] [(17, .int .i64 ((n : Nat)))] ([]) #[true, true, true, false, true, false, false, false, false, false, false] al0 ?_
    exact wk (hmx2 () trivial) [1, 2, 4, 17, 19] [[_], [_], [_], [_], [_]] [0, 1, 2, 3, 4] rfl rfl
   ·
    refine qo0 1 [(5, .go (owns 1 1 1))] [1, 2, 4, 15] [(20, .slice q m capv)] ?_
    refine od_ ?_
    refine tk (m := 7) [6] [] [1, 2, 4, 15] [(21, .int .i64 ((m : Nat)))] ([]) #[true, false, false, false, true, true, true, false, false, false, false] al0 ?_
    exact wk (hmx3 () trivial) [1, 2, 4, 15, 21] [[_], [_], [_], [_], [_]] [0, 1, 2, 3, 4] rfl rfl
   ·
    refine mo0 1 [] [1, 2, 4, 15, 19] (fun γ195 => [(7, .pointer (some ⟨γ195 0, 0, none⟩))]) (fun γ195 L => bx (γ195 0) (#[.slice none 0 0, .slice none 0 0]) 25 :: L) (fun γ195 => ?_)
    refine od_ ?_
    exact wk (hmx1 γ195 trivial) [1, 2, 4, 7, 15, 19] [[_], [_], [_], [_], [_], [_]] [0, 1, 2, 3, 4, 5] rfl rfl
  rintro ⟨c155, c75, g155, g75, γ195⟩ ⟨hc155, hc75⟩
  refine any_nil (by kernel_rfl) ?_
  refine ds_ (sq_ (ao_ (qo0 4 [(1, .go (owns 0 0 1)), (3, .go (owns 4 0 1))] [1, 2, 4, 7] [(25, .slice (some ⟨g75, 0, none⟩) n n), (27, .slice p n cap)] (ops_copy 2 rfl (by kernel_rfl) (by kernel_rfl) (g := g75) (of := 0) (dn := n) (dc := n) (m := n) (cnt := n) (c := c75) (yv := (.slice p n cap)) (ds.flatMap Enc.enc) (by kernel_rfl) (by kernel_rfl) (T := 32) (ks := 4) (by_ := 32) (by kernel_rfl) (T' := 32) (by kernel_rfl) len_slice (by omega) (fun w hw => by have := first_sv (P := Try.prog) (w := w) (p := p) (m := n) (cap := cap) (cnt := n) (hds.kept hw.below) (by omega); rw [List.take_of_length_le (by omega)] at this; exact this) (by first | (rw [flat_len, Nat.zero_add, hc75, ← hn]; exact Nat.le_refl _) | (rw [flat_len, Nat.zero_add, hc75, ← hn])) (flat_one ds) ?_))))
  have hOw303 := OwnS.filled (l := ds) (n := n) hc75 hn (by have hmx : maxLen = 9223372036854775807 := rfl; omega)
  have hO303 := SlO.ofOwn (T := 32) (g := g75) hOw303 hn
  refine on_ (ds_ (sq_ (ao_ (qo0 4 [(1, .go (owns 0 1 1)), (3, .go (owns 4 1 1))] [1, 4, 7] [(30, .slice (some ⟨g155, 0, none⟩) m m), (32, .slice q m capv)] (ops_copy 1 rfl (by kernel_rfl) (by kernel_rfl) (g := g155) (of := 0) (dn := m) (dc := m) (m := m) (cnt := m) (c := c155) (yv := (.slice q m capv)) (vs.flatMap Enc.enc) (by kernel_rfl) (by kernel_rfl) (T := 43) (ks := 4) (by_ := 24) (by kernel_rfl) (T' := 43) (by kernel_rfl) len_slice (by omega) (fun w hw => by have := first_sv (P := Try.prog) (w := w) (p := q) (m := m) (cap := capv) (cnt := m) (hvs.kept hw.below) (by omega); rw [List.take_of_length_le (by omega)] at this; exact this) (by first | (rw [flat_len, Nat.zero_add, hc155, ← hm]; exact Nat.le_refl _) | (rw [flat_len, Nat.zero_add, hc155, ← hm])) (flat_one vs) ?_)))))
  have hOw306 := OwnS.filled (l := vs) (n := m) hc155 hm (by have hmx : maxLen = 9223372036854775807 := rfl; omega)
  have hO306 := SlO.ofOwn (T := 43) (g := g155) hOw306 hm
  refine on_ (ds_ (sq_ (sq_ (ao_ (qo0 1 [] [4, 7] [(34, .func (.func 61) #[] #[.pointer (some ⟨γ1 1, 0, none⟩)])] (ops_inline (g := 61) (args := #[.pointer (some ⟨γ195 0, 0, none⟩), .pointer (some ⟨γ1 1, 0, none⟩)]) (by kernel_rfl) (by kernel_rfl) (by kernel_rfl) (fun args w => Try.call61 args w) Try.func61 rfl Try.ntmps61 rfl (sq_ (qa0 [] [0, 1] [] (ds_ (sq_ ?_))))))))))
  refine at_calm rfl (by kernel_rfl) (by kernel_rfl) ?_
  refine cm 6 [(3, .go (owns 0 0 1)), (5, .go (owns 6 0 1))] [0, 1] [(10, .slice (some ⟨g75, 0, none⟩) n n), (12, .int .i64 d.id)] ([]) (by kernel_rfl) rfl al0 ?_
  rcases hg311 : getK Dom.id ds d.id with _ | y311
  ·
   have hpl311 := (pos_cut (k := d.id) (guests_iff.1 q5).dr).2.2
   refine cK (.tuple #[.int .i64 ((posK Dom.id ds d.id : Nat)), .bool false]) Try.call47 (fun w hw => by have := placed_d (some ⟨g75, 0, none⟩) n n ds d.id w (hO303.atN (A := [_, _]) hw) hn (by omega) (guests_iff.1 q5).dr; rw [hasK_none hg311] at this; exact this) ?_
   refine cm 5 [] [0, 1] [(4, .int .i64 ((posK Dom.id ds d.id : Nat))), (5, .bool false)] ([]) (by kernel_rfl) rfl al0 ?_
   refine calm_nil' ?_
   refine ds_ (sq_ (at_block (sq_ (ao_ (qo0 1 [(0, .go (owns 6 0 4))] [0, 1, 4, 5] [(17, .agg #[.int .i64 d.id, .int .i64 d.weight, .int .i64 d.cap, .int .i64 d.pool])] ?_)))))
   rcases q314 : mayB d with _ | _
   ·
    refine cD (.bool false) Try.call45 (fun w hw => by have := may_d d w; rw [q314] at this; exact this) (qo0 2 [] [0, 1, 4, 5] [(16, .bool true)] (on_ (ds_ (t_ (sq_ (qa0 [] [] [(3, .int .i64 2)] (ds_ (bk ([]) (.int .i64 2) (qo0 1 [] [4, 7] [(8, .int .i64 2)] (on_ (ds_ (sq_ (qa0 [] [4, 7, 8] [(37, .bool true)] (ds_ (t_ (sq_ (qa0 [(2, .go (owns 3 0 2))] [4] [(5, .int .i64 2)] (ds_ (bk (owns 3 0 2) (.tuple #[.agg #[.slice none 0 0, .slice none 0 0], .int .i64 2]) (qo0 4 [(5, .go (owns 5 0 2))] [4] [(5, .int .i64 2)] (on_ (ds_ (rt (owns 5 0 2) (.tuple #[.agg #[.slice none 0 0, .slice none 0 0], .int .i64 2]) ?_)))))))))))))))))))))))
    exact fun w' hw => by rw [createV_arg q5 q314]; exact ⟨none, 0, 0, [], none, 0, 0, [], rfl, SlO.nil, SlO.nil, hw.below, hw.sub (List.nil_sublist _)⟩
   ·
    refine cD (.bool true) Try.call45 (fun w hw => by have := may_d d w; rw [q314] at this; exact this) (qo0 2 [] [0, 1, 4, 5] [(16, .bool false)] (on_ (ds_ (f_ (sq_ (qa0 [] [0, 1, 4] [(20, .bool false)] (ds_ (f_ (at_skip (done_block (ds_ (sq_ ?_))))))))))))
    refine at_any (by kernel_rfl) ?_
    refine tk (m := 7) [0, 1, 2, 3, 5] [] [1] [(22, .pointer (some ⟨γ195 0, 0, none⟩)), (25, .pointer (some ⟨γ195 0, 0, none⟩)), (27, .int .i64 ((posK Dom.id ds d.id : Nat)))] ([]) #[true, true, true, true, false, true, false, false, false, false, false, false] al0 ?_
    refine any_cutG 4 #[true, true, true, true, true, true, true, true, false, false, false, false] (fun γ328 => [(22, .pointer (some ⟨γ195 0, 0, none⟩)), (26, .slice (some ⟨g75, 0, none⟩) n n), (27, .int .i64 ((posK Dom.id ds d.id : Nat))), (29, .slice (some ⟨γ328 0, 0, none⟩) 1 1)]) (fun γ328 => [bx (γ328 0) (#[.int .i64 d.id, .int .i64 d.weight, .int .i64 d.cap, .int .i64 d.pool]) 32, bx (γ195 0) (#[.slice (some ⟨g75, 0, none⟩) n n, .slice (some ⟨g155, 0, none⟩) m m]) 25, bx g155 ((sets c155 0 (vs.flatMap Enc.enc))) 43, bx g75 ((sets c75 0 (ds.flatMap Enc.enc))) 32, bx (γ3 1) (#[.slice none 0 0, .slice none 0 0]) 25, bx (γ3 0) (#[.slice p n cap, .slice q m capv]) 25, bx (γ1 2) (#[.slice none 0 0, .slice none 0 0]) 25, bx (γ1 1) (#[.int .i64 d.id, .int .i64 d.weight, .int .i64 d.cap, .int .i64 d.pool]) 32, bx (γ1 0) (#[.slice p n cap, .slice q m capv]) 25]) (fun γ328 => ?_) (fun hm => ?_)
    rotate_left
    ·
     refine any_fork [4, 6] (by kernel_rfl) (by simp) (each_cons _ rfl ?_ (each_cons _ rfl ?_ (each_nil)))
     ·
      refine qo0 1 [(4, .go (owns 0 0 1))] [1, 22, 27] [(26, .slice (some ⟨g75, 0, none⟩) n n)] ?_
      refine od_ ?_
      refine a1 6 rfl ?_
      refine qo0 1 [(6, .go (owns 6 0 4))] [22, 26, 27] [(28, .agg #[.int .i64 d.id, .int .i64 d.weight, .int .i64 d.cap, .int .i64 d.pool])] ?_
      refine od_ ?_
      refine a1 7 rfl ?_
      refine mo0 1 [] [22, 26, 27] (fun γ331 => [(29, .slice (some ⟨γ331 0, 0, none⟩) 1 1)]) (fun γ331 L => bx (γ331 0) (#[.int .i64 d.id, .int .i64 d.weight, .int .i64 d.cap, .int .i64 d.pool]) 32 :: L) (fun γ331 => ?_)
      refine od_ ?_
      exact any_weak (hm fun i => [γ331 0].getD i 0) [22, 26, 27, 29] (by kernel_rfl) rfl rfl rfl
     ·
      refine qo0 1 [(6, .go (owns 6 0 4))] [22, 25, 27] [(28, .agg #[.int .i64 d.id, .int .i64 d.weight, .int .i64 d.cap, .int .i64 d.pool])] ?_
      refine od_ ?_
      refine any_fork [4, 7] (by kernel_rfl) (by simp) (each_cons _ rfl ?_ (each_cons _ rfl ?_ (each_nil)))
      ·
       refine qo0 1 [(4, .go (owns 0 0 1))] [22, 27, 28] [(26, .slice (some ⟨g75, 0, none⟩) n n)] ?_
       refine od_ ?_
       refine a1 7 rfl ?_
       refine mo0 1 [] [22, 26, 27] (fun γ334 => [(29, .slice (some ⟨γ334 0, 0, none⟩) 1 1)]) (fun γ334 L => bx (γ334 0) (#[.int .i64 d.id, .int .i64 d.weight, .int .i64 d.cap, .int .i64 d.pool]) 32 :: L) (fun γ334 => ?_)
       refine od_ ?_
       exact any_weak (hm fun i => [γ334 0].getD i 0) [22, 26, 27, 29] (by kernel_rfl) rfl rfl rfl
      ·
       refine mo0 1 [] [22, 25, 27] (fun γ335 => [(29, .slice (some ⟨γ335 0, 0, none⟩) 1 1)]) (fun γ335 L => bx (γ335 0) (#[.int .i64 d.id, .int .i64 d.weight, .int .i64 d.cap, .int .i64 d.pool]) 32 :: L) (fun γ335 => ?_)
       refine od_ ?_
       refine a1 4 rfl ?_
       refine qo0 1 [(4, .go (owns 1 0 1))] [22, 27, 29] [(26, .slice (some ⟨g75, 0, none⟩) n n)] ?_
       refine od_ ?_
       exact any_weak (hm fun i => [γ335 0].getD i 0) [22, 26, 27, 29] (by kernel_rfl) rfl rfl rfl
    refine a1 8 rfl ?_
    refine Ops.pick [[bx (γ328 0) (#[.int .i64 d.id, .int .i64 d.weight, .int .i64 d.cap, .int .i64 d.pool]) 32], [bx (γ195 0) (#[.slice (some ⟨g75, 0, none⟩) n n, .slice (some ⟨g155, 0, none⟩) m m]) 25], [bx g155 ((sets c155 0 (vs.flatMap Enc.enc))) 43], [bx g75 ((sets c75 0 (ds.flatMap Enc.enc))) 32], [bx (γ3 1) (#[.slice none 0 0, .slice none 0 0]) 25], [bx (γ3 0) (#[.slice p n cap, .slice q m capv]) 25], [bx (γ1 2) (#[.slice none 0 0, .slice none 0 0]) 25], [bx (γ1 1) (#[.int .i64 d.id, .int .i64 d.weight, .int .i64 d.cap, .int .i64 d.pool]) 32], [bx (γ1 0) (#[.slice p n cap, .slice q m capv]) 25]] [0, 1, 2, 4, 5, 6, 7, 8, 3] [] ([bx (γ328 0) (#[.int .i64 d.id, .int .i64 d.weight, .int .i64 d.cap, .int .i64 d.pool]) 32, bx (γ195 0) (#[.slice (some ⟨g75, 0, none⟩) n n, .slice (some ⟨g155, 0, none⟩) m m]) 25, bx g155 ((sets c155 0 (vs.flatMap Enc.enc))) 43, bx (γ3 1) (#[.slice none 0 0, .slice none 0 0]) 25, bx (γ3 0) (#[.slice p n cap, .slice q m capv]) 25, bx (γ1 2) (#[.slice none 0 0, .slice none 0 0]) 25, bx (γ1 1) (#[.int .i64 d.id, .int .i64 d.weight, .int .i64 d.cap, .int .i64 d.pool]) 32, bx (γ1 0) (#[.slice p n cap, .slice q m capv]) 25, bx g75 ((sets c75 0 (ds.flatMap Enc.enc))) 32]) (by kernel_rfl) rfl rfl (cP (fun v L' => ∃ q_ capq_ Y_, v = .slice q_ (n + 1) capq_ ∧ L' = [bx (γ195 0) (#[.slice (some ⟨g75, 0, none⟩) n n, .slice (some ⟨g155, 0, none⟩) m m]) 25, bx g155 ((sets c155 0 (vs.flatMap Enc.enc))) 43, bx (γ3 1) (#[.slice none 0 0, .slice none 0 0]) 25, bx (γ3 0) (#[.slice p n cap, .slice q m capv]) 25, bx (γ1 2) (#[.slice none 0 0, .slice none 0 0]) 25, bx (γ1 1) (#[.int .i64 d.id, .int .i64 d.weight, .int .i64 d.cap, .int .i64 d.pool]) 32, bx (γ1 0) (#[.slice p n cap, .slice q m capv]) 25] ++ (Y_ ++ []) ∧ SlO 32 Y_ q_ (n + 1) capq_ (ds.take (posK Dom.id ds d.id) ++ [⟨d.id, d.weight, d.cap, d.pool⟩] ++ ds.drop (posK Dom.id ds d.id))) Try.call62 (fun w hw => (insertD_d _ ([bx (γ195 0) (#[.slice (some ⟨g75, 0, none⟩) n n, .slice (some ⟨g155, 0, none⟩) m m]) 25, bx g155 ((sets c155 0 (vs.flatMap Enc.enc))) 43, bx (γ3 1) (#[.slice none 0 0, .slice none 0 0]) 25, bx (γ3 0) (#[.slice p n cap, .slice q m capv]) 25, bx (γ1 2) (#[.slice none 0 0, .slice none 0 0]) 25, bx (γ1 1) (#[.int .i64 d.id, .int .i64 d.weight, .int .i64 d.cap, .int .i64 d.pool]) 32, bx (γ1 0) (#[.slice p n cap, .slice q m capv]) 25] ++ []) [bx g75 ((sets c75 0 (ds.flatMap Enc.enc))) 32] (some ⟨g75, 0, none⟩) n n ds (posK Dom.id ds d.id) (γ328 0) (#[.int .i64 d.id, .int .i64 d.weight, .int .i64 d.cap, .int .i64 d.pool]) 1 ([⟨d.id, d.weight, d.cap, d.pool⟩]) w (hw.pull (A := [bx (γ195 0) (#[.slice (some ⟨g75, 0, none⟩) n n, .slice (some ⟨g155, 0, none⟩) m m]) 25, bx g155 ((sets c155 0 (vs.flatMap Enc.enc))) 43, bx (γ3 1) (#[.slice none 0 0, .slice none 0 0]) 25, bx (γ3 0) (#[.slice p n cap, .slice q m capv]) 25, bx (γ1 2) (#[.slice none 0 0, .slice none 0 0]) 25, bx (γ1 1) (#[.int .i64 d.id, .int .i64 d.weight, .int .i64 d.cap, .int .i64 d.pool]) 32, bx (γ1 0) (#[.slice p n cap, .slice q m capv]) 25]) (Y := [bx g75 ((sets c75 0 (ds.flatMap Enc.enc))) 32]) (R := [])) hO303 (by rfl) (by rfl) (by omega) (by omega) (by omega) (by omega)).mono fun e w' ⟨q_, capq_, Y_, he, hO, hY⟩ => ⟨_, _, he, ⟨q_, capq_, Y_, rfl, rfl, hO⟩, hY.push⟩) ?_)
    rintro v337 L337 ⟨q337, cq337, Y337, rfl, rfl, hO337⟩
    refine od_ ?_
    refine tk (m := 1) [9, 10] [] [30] [(32, .pointer (some ⟨γ195 0, 0, none⟩))] ([]) #[true, true, true, true, true, true, true, true, true, true, true, false] al0 ?_
    refine a1 11 rfl ?_
    refine mo0 1 [(11, .go (owns 0 0 1))] [] (fun _ => []) (fun _ L => (L.set 0 (bx (γ195 0) (#[.slice q337 (n + 1) cq337, .slice (some ⟨g155, 0, none⟩) m m]) 25))) (fun _ => ?_)
    refine od_ ?_
    refine any_nil (by kernel_rfl) ?_
    refine ds_ (sq_ (qa0 [] [] [(3, .int .i64 0)] (ds_ (bk ([]) (.int .i64 0) (qo0 1 [] [4, 7] [(8, .int .i64 0)] (on_ (ds_ (sq_ (qa0 [] [4, 7, 8] [(37, .bool false)] (ds_ (f_ (at_skip (ds_ (sq_ (ma0 [(0, .go (owns 0 0 2)), (1, .go (owns 2 0 2))] [4] (fun _ => [(5, .int .i64 0)]) (fun _ L => (L.set 2 (bx (γ3 1) (#[.slice q337 (n + 1) cq337, .slice (some ⟨g155, 0, none⟩) m m]) 25))) (fun _ => ds_ (bk (owns 2 0 2) (.tuple #[.agg #[.slice q337 (n + 1) cq337, .slice (some ⟨g155, 0, none⟩) m m], .int .i64 0]) (mo0 4 [(5, .go (owns 4 0 2))] [4] (fun _ => [(5, .int .i64 0)]) (fun _ L => (L.set 4 (bx (γ1 2) (#[.slice q337 (n + 1) cq337, .slice (some ⟨g155, 0, none⟩) m m]) 25))) (fun _ => on_ (ds_ (rt (owns 4 0 2) (.tuple #[.agg #[.slice q337 (n + 1) cq337, .slice (some ⟨g155, 0, none⟩) m m], .int .i64 0]) ?_)))))))))))))))))))))
    exact fun w' hw => by rw [createV_ok q5 q314 hg311]; exact ⟨_, _, _, _, _, _, _, _, rfl, hO337, hO306, hw.below, two_tails (Hs.pick [[bx (γ195 0) (#[.slice q337 (n + 1) cq337, .slice (some ⟨g155, 0, none⟩) m m]) 25], [bx g155 ((sets c155 0 (vs.flatMap Enc.enc))) 43], [bx (γ3 1) (#[.slice q337 (n + 1) cq337, .slice (some ⟨g155, 0, none⟩) m m]) 25], [bx (γ3 0) (#[.slice p n cap, .slice q m capv]) 25], [bx (γ1 2) (#[.slice q337 (n + 1) cq337, .slice (some ⟨g155, 0, none⟩) m m]) 25], [bx (γ1 1) (#[.int .i64 d.id, .int .i64 d.weight, .int .i64 d.cap, .int .i64 d.pool]) 32], [bx (γ1 0) (#[.slice p n cap, .slice q m capv]) 25], Y337] [7, 1] [0, 2, 3, 4, 5, 6] (by kernel_rfl) hw)⟩
  ·
   have hp_y311 := pos_getK (guests_iff.1 q5).dr hg311
   have hl_y311 := (List.getElem?_eq_some_iff.1 hp_y311).1
   refine cK (.tuple #[.int .i64 ((posK Dom.id ds d.id : Nat)), .bool true]) Try.call47 (fun w hw => by have := placed_d (some ⟨g75, 0, none⟩) n n ds d.id w (hO303.atN (A := [_, _]) hw) hn (by omega) (guests_iff.1 q5).dr; rw [hasK_some hg311] at this; exact this) ?_
   refine cm 5 [] [0, 1] [(4, .int .i64 ((posK Dom.id ds d.id : Nat))), (5, .bool true)] ([]) (by kernel_rfl) rfl al0 ?_
   refine calm_nil' ?_
   refine ds_ (sq_ (at_block (sq_ (ao_ (qo0 1 [(0, .go (owns 6 0 4))] [0, 1, 4, 5] [(17, .agg #[.int .i64 d.id, .int .i64 d.weight, .int .i64 d.cap, .int .i64 d.pool])] ?_)))))
   rcases q347 : mayB d with _ | _
   ·
    refine cD (.bool false) Try.call45 (fun w hw => by have := may_d d w; rw [q347] at this; exact this) (qo0 2 [] [0, 1, 4, 5] [(16, .bool true)] (on_ (ds_ (t_ (sq_ (qa0 [] [] [(3, .int .i64 2)] (ds_ (bk ([]) (.int .i64 2) (qo0 1 [] [4, 7] [(8, .int .i64 2)] (on_ (ds_ (sq_ (qa0 [] [4, 7, 8] [(37, .bool true)] (ds_ (t_ (sq_ (qa0 [(2, .go (owns 3 0 2))] [4] [(5, .int .i64 2)] (ds_ (bk (owns 3 0 2) (.tuple #[.agg #[.slice none 0 0, .slice none 0 0], .int .i64 2]) (qo0 4 [(5, .go (owns 5 0 2))] [4] [(5, .int .i64 2)] (on_ (ds_ (rt (owns 5 0 2) (.tuple #[.agg #[.slice none 0 0, .slice none 0 0], .int .i64 2]) ?_)))))))))))))))))))))))
    exact fun w' hw => by rw [createV_arg q5 q347]; exact ⟨none, 0, 0, [], none, 0, 0, [], rfl, SlO.nil, SlO.nil, hw.below, hw.sub (List.nil_sublist _)⟩
   ·
    refine cD (.bool true) Try.call45 (fun w hw => by have := may_d d w; rw [q347] at this; exact this) (qo0 2 [] [0, 1, 4, 5] [(16, .bool false)] (on_ (ds_ (f_ (sq_ (qa0 [] [0, 1, 4] [(20, .bool true)] (ds_ (t_ (sq_ (qa0 [] [] [(3, .int .i64 5)] (ds_ (bk ([]) (.int .i64 5) (qo0 1 [] [4, 7] [(8, .int .i64 5)] (on_ (ds_ (sq_ (qa0 [] [4, 7, 8] [(37, .bool true)] (ds_ (t_ (sq_ (qa0 [(2, .go (owns 3 0 2))] [4] [(5, .int .i64 5)] (ds_ (bk (owns 3 0 2) (.tuple #[.agg #[.slice none 0 0, .slice none 0 0], .int .i64 5]) (qo0 4 [(5, .go (owns 5 0 2))] [4] [(5, .int .i64 5)] (on_ (ds_ (rt (owns 5 0 2) (.tuple #[.agg #[.slice none 0 0, .slice none 0 0], .int .i64 5]) ?_)))))))))))))))))))))))))))
    exact fun w' hw => by rw [createV_there q5 q347 hg311]; exact ⟨none, 0, 0, [], none, 0, 0, [], rfl, SlO.nil, SlO.nil, hw.below, hw.sub (List.nil_sublist _)⟩
end Go.Proofs.Ytnoefldpkfpglaa

/-! Domains: Add. -/
namespace Go.Proofs.Ytnoefldpkfpglaa
open Go Go.RowKit

set_option maxRecDepth 100000 in
theorem add_d (p : Option Addr) (n cap : Nat) (ds : List Dom) (q : Option Addr) (m capv : Nat) (vs : List Vcp) (k h s : Int) (w : World)
 (hds : Sv w p ds) (hn : n = ds.length) (hb : n ≤ 1000)
 (hvs : Sv w q vs) (hm : m = vs.length) (hmb : m ≤ 1000)
 : Calls Try.prog 16 #[.agg #[.slice p n cap, .slice q m capv], .int .i64 k, .agg #[.int .u32 h, .int .u32 s]] w fun e w' => ∃ q m capq Y q2 m2 capq2 X, e = .returned (.tuple #[.agg #[.slice q m capq, .slice q2 m2 capq2], .int .i64 (addN ds vs k h s), .int .i64 (addV ds vs k h s).2.2]) ∧ SlO 32 Y q m capq (addV ds vs k h s).1 ∧ SlO 43 X q2 m2 capq2 (addV ds vs k h s).2.1 ∧ Below w.heap.size w w' ∧ Hs w (Y ++ X) w' := by
 refine enter (Hs.start w) Try.func16 rfl Try.ntmps16 rfl (sq_ (ma0 [] [] (fun γ1 => [(3, .pointer (some ⟨γ1 0, 0, none⟩)), (4, .pointer (some ⟨γ1 1, 0, none⟩)), (5, .pointer (some ⟨γ1 2, 0, none⟩)), (6, .pointer (some ⟨γ1 3, 0, none⟩))]) (fun γ1 L => bx (γ1 3) (#[.slice none 0 0, .slice none 0 0]) 25 :: bx (γ1 2) (#[.int .u32 h, .int .u32 s]) 41 :: bx (γ1 1) (#[.int .i64 k]) 3 :: bx (γ1 0) (#[.slice p n cap, .slice q m capv]) 25 :: L) (fun γ1 => ds_ (sq_ (ma0 [(1, .go (owns 0 0 1))] [3, 4, 5, 6] (fun γ2 => [(9, .pointer (some ⟨γ2 0, 0, none⟩))]) (fun γ2 L => bx (γ2 0) (#[.int .i64 0]) 3 :: L) (fun γ2 => ds_ (sq_ (ao_ (qo0 2 [(0, .go (owns 4 0 2))] [6, 9] [(13, .agg #[.slice p n cap, .slice q m capv]), (14, .func (.func 53) #[] #[.pointer (some ⟨γ1 1, 0, none⟩), .pointer (some ⟨γ1 2, 0, none⟩), .pointer (some ⟨γ2 0, 0, none⟩)])] (ops_inline (g := 52) (args := #[.agg #[.slice p n cap, .slice q m capv], .func (.func 53) #[] #[.pointer (some ⟨γ1 1, 0, none⟩), .pointer (some ⟨γ1 2, 0, none⟩), .pointer (some ⟨γ2 0, 0, none⟩)]]) (by kernel_rfl) (by kernel_rfl) (by kernel_rfl) (fun args w => Try.call52 args w) Try.func52 rfl Try.ntmps52 rfl (sq_ (ma0 [] [1] (fun γ4 => [(2, .pointer (some ⟨γ4 0, 0, none⟩)), (4, .pointer (some ⟨γ4 1, 0, none⟩))]) (fun γ4 L => bx (γ4 1) (#[.slice none 0 0, .slice none 0 0]) 25 :: bx (γ4 0) (#[.slice p n cap, .slice q m capv]) 25 :: L) (fun γ4 => ds_ (sq_ (sq_ (ao_ (qo0 1 [(0, .go (owns 1 0 2))] [1, 2, 4] [(9, .agg #[.slice p n cap, .slice q m capv])] ?_)))))))))))))))))
 rcases q6 : guestsB ds vs with _ | _
 ·
  refine cD (.int .i64 190) Try.call10 (fun w hw => by have := gcheck_d p n cap ds q m capv vs w (hds.kept hw.below) hn (by omega) (hvs.kept hw.below) hm (by omega); rw [q6] at this; exact this) (qo0 1 [] [1, 2, 4] [(6, .int .i64 190)] (on_ (ds_ (sq_ (qa0 [] [1, 2, 4, 6] [(12, .bool true)] (ds_ (t_ (sq_ (qa0 [(2, .go (owns 0 0 2))] [4] [(5, .int .i64 190)] (ds_ (bk (owns 0 0 2) (.tuple #[.agg #[.slice none 0 0, .slice none 0 0], .int .i64 190]) (mo0 6 [(7, .go (owns 0 0 2))] [6, 9] (fun γ10 => [(10, .pointer (some ⟨γ10 0, 0, none⟩)), (11, .int .i64 190)]) (fun γ10 L => bx (γ10 0) (#[.slice none 0 0, .slice none 0 0]) 25 :: L) (fun γ10 => on_ (ds_ (sq_ ?_)))))))))))))))
  refine at_any (by kernel_rfl) ?_
  refine tk (m := 5) [2] [] [6, 9, 10] [(20, .int .i64 190)] ([]) #[false, false, true, false, false, false] al0 ?_
  refine any_cut 0 #[true, true, true, true, true, true] ([(6, .pointer (some ⟨γ1 3, 0, none⟩)), (7, .int .i64 0), (8, .int .i64 190)]) ([bx (γ10 0) (#[.slice none 0 0, .slice none 0 0]) 25, bx (γ4 1) (#[.slice none 0 0, .slice none 0 0]) 25, bx (γ4 0) (#[.slice p n cap, .slice q m capv]) 25, bx (γ2 0) (#[.int .i64 0]) 3, bx (γ1 3) (#[.slice none 0 0, .slice none 0 0]) 25, bx (γ1 2) (#[.int .u32 h, .int .u32 s]) 41, bx (γ1 1) (#[.int .i64 k]) 3, bx (γ1 0) (#[.slice p n cap, .slice q m capv]) 25]) ?_ (fun hm => ?_)
  rotate_left
  ·
   refine any_fork [0, 1] (by kernel_rfl) (by simp) (each_cons _ rfl ?_ (each_cons _ rfl ?_ (each_nil)))
   ·
    refine qo0 1 [(0, .go (owns 0 0 2))] [6, 9, 20] [(18, .agg #[.slice none 0 0, .slice none 0 0])] ?_
    refine od_ ?_
    refine any_fork [1, 3] (by kernel_rfl) (by simp) (each_cons _ rfl ?_ (each_cons _ rfl ?_ (each_nil)))
    ·
     refine qo0 1 [(1, .go (owns 3 0 1))] [6, 18, 20] [(19, .int .i64 0)] ?_
     refine od_ ?_
     refine a1 3 rfl ?_
     refine qo0 1 [(3, .go (owns 4 0 2))] [6, 19, 20] [] ?_
     refine od_ ?_
     refine tk (m := 0) [4, 5] [] [6] [(7, .int .i64 0), (8, .int .i64 190)] ([]) #[true, true, true, true, true, true] al0 ?_
     exact any_weak hm [6, 7, 8] (by kernel_rfl) rfl rfl rfl
    ·
     refine qo0 1 [(3, .go (owns 4 0 2))] [6, 9, 20] [] ?_
     refine od_ ?_
     refine a1 1 rfl ?_
     refine qo0 1 [(1, .go (owns 3 0 1))] [6, 20] [(19, .int .i64 0)] ?_
     refine od_ ?_
     refine tk (m := 0) [4, 5] [] [6] [(7, .int .i64 0), (8, .int .i64 190)] ([]) #[true, true, true, true, true, true] al0 ?_
     exact any_weak hm [6, 7, 8] (by kernel_rfl) rfl rfl rfl
   ·
    refine qo0 1 [(1, .go (owns 3 0 1))] [6, 10, 20] [(19, .int .i64 0)] ?_
    refine od_ ?_
    refine a1 0 rfl ?_
    refine qo0 1 [(0, .go (owns 0 0 2))] [6, 19, 20] [(18, .agg #[.slice none 0 0, .slice none 0 0])] ?_
    refine od_ ?_
    refine a1 3 rfl ?_
    refine qo0 1 [(3, .go (owns 4 0 2))] [6, 19, 20] [] ?_
    refine od_ ?_
    refine tk (m := 0) [4, 5] [] [6] [(7, .int .i64 0), (8, .int .i64 190)] ([]) #[true, true, true, true, true, true] al0 ?_
    exact any_weak hm [6, 7, 8] (by kernel_rfl) rfl rfl rfl
  refine any_nil (by kernel_rfl) ?_
  refine ds_ (rt (owns 4 0 2) (.tuple #[.agg #[.slice none 0 0, .slice none 0 0], .int .i64 0, .int .i64 190]) ?_)
  exact fun w' hw => by rw [(addN_no (addV_bad q6) (by decide)), addV_bad q6]; exact ⟨none, 0, 0, [], none, 0, 0, [], rfl, SlO.nil, SlO.nil, hw.below, hw.sub (List.nil_sublist _)⟩
 ·
  refine cD (.int .i64 0) Try.call10 (fun w hw => by have := gcheck_d p n cap ds q m capv vs w (hds.kept hw.below) hn (by omega) (hvs.kept hw.below) hm (by omega); rw [q6] at this; exact this) (qo0 1 [] [1, 2, 4] [(6, .int .i64 0)] (on_ (ds_ (sq_ (qa0 [] [1, 2, 4, 6] [(12, .bool false)] (ds_ (f_ (at_skip (ds_ (sq_ ?_))))))))))
  refine at_any (by kernel_rfl) ?_
  refine tk (m := 9) [0, 4] [] [1, 2, 4] [(15, .pointer (some ⟨γ4 0, 0, none⟩)), (19, .pointer (some ⟨γ4 0, 1, none⟩))] ([]) #[true, false, false, false, true, false, false, false, false, false, false] al0 ?_
  refine any_cutX (V := (Array Value) × (Array Value) × (Nat) × (Nat) × (Nat → Nat)) (fun ⟨c173, c93, g173, g93, γ213⟩ => c173.size = m * 4 ∧ c93.size = n * 4) 0 #[true, true, true, true, true, true, true, true, true, true, true] (fun ⟨c173, c93, g173, g93, γ213⟩ => [(1, .func (.func 53) #[] #[.pointer (some ⟨γ1 1, 0, none⟩), .pointer (some ⟨γ1 2, 0, none⟩), .pointer (some ⟨γ2 0, 0, none⟩)]), (2, .pointer (some ⟨γ4 0, 0, none⟩)), (4, .pointer (some ⟨γ4 1, 0, none⟩)), (7, .pointer (some ⟨γ213 0, 0, none⟩))]) (fun ⟨c173, c93, g173, g93, γ213⟩ => [bx (γ213 0) (#[.slice (some ⟨g93, 0, none⟩) n n, .slice (some ⟨g173, 0, none⟩) m m]) 25, bx g173 c173 43, bx g93 c93 32, bx (γ4 1) (#[.slice none 0 0, .slice none 0 0]) 25, bx (γ4 0) (#[.slice p n cap, .slice q m capv]) 25, bx (γ2 0) (#[.int .i64 0]) 3, bx (γ1 3) (#[.slice none 0 0, .slice none 0 0]) 25, bx (γ1 2) (#[.int .u32 h, .int .u32 s]) 41, bx (γ1 1) (#[.int .i64 k]) 3, bx (γ1 0) (#[.slice p n cap, .slice q m capv]) 25]) ?_ (fun hmx18 => ?_)
  rotate_left
  ·
   refine any_cutX (V := (Array Value) × (Array Value) × (Nat) × (Nat) × (Nat → Nat)) (fun ⟨c173, c93, g173, g93, γ213⟩ => c173.size = m * 4 ∧ c93.size = n * 4) 1 #[true, true, true, true, true, true, true, true, true, true, false] (fun ⟨c173, c93, g173, g93, γ213⟩ => [(1, .func (.func 53) #[] #[.pointer (some ⟨γ1 1, 0, none⟩), .pointer (some ⟨γ1 2, 0, none⟩), .pointer (some ⟨γ2 0, 0, none⟩)]), (2, .pointer (some ⟨γ4 0, 0, none⟩)), (4, .pointer (some ⟨γ4 1, 0, none⟩)), (7, .pointer (some ⟨γ213 0, 0, none⟩)), (23, .agg #[.slice (some ⟨g93, 0, none⟩) n n, .slice (some ⟨g173, 0, none⟩) m m])]) (fun ⟨c173, c93, g173, g93, γ213⟩ => [bx (γ213 0) (#[.slice none 0 0, .slice none 0 0]) 25, bx g173 c173 43, bx g93 c93 32, bx (γ4 1) (#[.slice none 0 0, .slice none 0 0]) 25, bx (γ4 0) (#[.slice p n cap, .slice q m capv]) 25, bx (γ2 0) (#[.int .i64 0]) 3, bx (γ1 3) (#[.slice none 0 0, .slice none 0 0]) 25, bx (γ1 2) (#[.int .u32 h, .int .u32 s]) 41, bx (γ1 1) (#[.int .i64 k]) 3, bx (γ1 0) (#[.slice p n cap, .slice q m capv]) 25]) ?_ (fun hmx17 => ?_)
   ·
    rintro ⟨c173, c93, g173, g93, γ213⟩ ⟨hc173, hc93⟩
    refine a1 10 rfl ?_
    refine mo0 1 [(10, .go (owns 0 0 2))] [1, 2, 4, 7] (fun _ => []) (fun _ L => (L.set 0 (bx (γ213 0) (#[.slice (some ⟨g93, 0, none⟩) n n, .slice (some ⟨g173, 0, none⟩) m m]) 25))) (fun _ => ?_)
    refine od_ ?_
    exact wk (hmx18 (c173, c93, g173, g93, γ213) ⟨hc173, hc93⟩) [1, 2, 4, 7] [[_], [_], [_], [_], [_], [_], [_], [_], [_], [_]] [0, 1, 2, 3, 4, 5, 6, 7, 8, 9] rfl rfl
   refine any_cutX (V := (Array Value) × (Array Value) × (Nat) × (Nat)) (fun ⟨c173, c93, g173, g93⟩ => c173.size = m * 4 ∧ c93.size = n * 4) 2 #[true, true, true, true, true, true, true, true, true, false, false] (fun ⟨c173, c93, g173, g93⟩ => [(1, .func (.func 53) #[] #[.pointer (some ⟨γ1 1, 0, none⟩), .pointer (some ⟨γ1 2, 0, none⟩), .pointer (some ⟨γ2 0, 0, none⟩)]), (2, .pointer (some ⟨γ4 0, 0, none⟩)), (4, .pointer (some ⟨γ4 1, 0, none⟩)), (23, .agg #[.slice (some ⟨g93, 0, none⟩) n n, .slice (some ⟨g173, 0, none⟩) m m])]) (fun ⟨c173, c93, g173, g93⟩ => [bx g173 c173 43, bx g93 c93 32, bx (γ4 1) (#[.slice none 0 0, .slice none 0 0]) 25, bx (γ4 0) (#[.slice p n cap, .slice q m capv]) 25, bx (γ2 0) (#[.int .i64 0]) 3, bx (γ1 3) (#[.slice none 0 0, .slice none 0 0]) 25, bx (γ1 2) (#[.int .u32 h, .int .u32 s]) 41, bx (γ1 1) (#[.int .i64 k]) 3, bx (γ1 0) (#[.slice p n cap, .slice q m capv]) 25]) ?_ (fun hmx16 => ?_)
   ·
    rintro ⟨c173, c93, g173, g93⟩ ⟨hc173, hc93⟩
    refine a1 9 rfl ?_
    refine mo0 1 [] [1, 2, 4, 23] (fun γ213 => [(7, .pointer (some ⟨γ213 0, 0, none⟩))]) (fun γ213 L => bx (γ213 0) (#[.slice none 0 0, .slice none 0 0]) 25 :: L) (fun γ213 => ?_)
    refine od_ ?_
    exact wk (hmx17 (c173, c93, g173, g93, γ213) ⟨hc173, hc93⟩) [1, 2, 4, 7, 23] [[_], [_], [_], [_], [_], [_], [_], [_], [_], [_]] [0, 1, 2, 3, 4, 5, 6, 7, 8, 9] rfl rfl
   refine any_cutX (V := (Array Value) × (Nat) × (Nat → Nat)) (fun ⟨c173, g173, γ213⟩ => c173.size = m * 4) 3 #[true, true, true, false, true, true, true, true, false, true, false] (fun ⟨c173, g173, γ213⟩ => [(1, .func (.func 53) #[] #[.pointer (some ⟨γ1 1, 0, none⟩), .pointer (some ⟨γ1 2, 0, none⟩), .pointer (some ⟨γ2 0, 0, none⟩)]), (2, .pointer (some ⟨γ4 0, 0, none⟩)), (4, .pointer (some ⟨γ4 1, 0, none⟩)), (7, .pointer (some ⟨γ213 0, 0, none⟩)), (17, .int .i64 ((n : Nat))), (22, .slice (some ⟨g173, 0, none⟩) m m)]) (fun ⟨c173, g173, γ213⟩ => [bx (γ213 0) (#[.slice none 0 0, .slice none 0 0]) 25, bx g173 c173 43, bx (γ4 1) (#[.slice none 0 0, .slice none 0 0]) 25, bx (γ4 0) (#[.slice p n cap, .slice q m capv]) 25, bx (γ2 0) (#[.int .i64 0]) 3, bx (γ1 3) (#[.slice none 0 0, .slice none 0 0]) 25, bx (γ1 2) (#[.int .u32 h, .int .u32 s]) 41, bx (γ1 1) (#[.int .i64 k]) 3, bx (γ1 0) (#[.slice p n cap, .slice q m capv]) 25]) ?_ (fun hmx15 => ?_)
   ·
    rintro ⟨c173, g173, γ213⟩ hc173
    refine a1 3 rfl ?_
    refine ops_make (T := 32) (ks := 4) (by_ := 32) (n := n) rfl (by kernel_rfl) (by kernel_rfl) (by kernel_rfl) (by kernel_rfl) (by kernel_rfl) (by omega) (by have hmx : maxLen = 9223372036854775807 := rfl; omega) (fun g93 c93 hc93 => ?_)
    refine od_ ?_
    refine tk (m := 1) [8] [] [1, 2, 4, 7] [(23, .agg #[.slice (some ⟨g93, 0, none⟩) n n, .slice (some ⟨g173, 0, none⟩) m m])] ([]) #[true, true, true, true, true, true, true, true, true, true, false] al0 ?_
    exact wk (hmx17 (c173, c93, g173, g93, γ213) ⟨hc173, hc93⟩) [1, 2, 4, 7, 23] [[_], [_], [_], [_], [_], [_], [_], [_], [_], [_]] [1, 2, 0, 3, 4, 5, 6, 7, 8, 9] rfl rfl
   refine any_cutX (V := (Array Value) × (Nat) × (Nat → Nat)) (fun ⟨c93, g93, γ213⟩ => c93.size = n * 4) 3 #[true, true, true, true, true, true, true, false, false, true, false] (fun ⟨c93, g93, γ213⟩ => [(1, .func (.func 53) #[] #[.pointer (some ⟨γ1 1, 0, none⟩), .pointer (some ⟨γ1 2, 0, none⟩), .pointer (some ⟨γ2 0, 0, none⟩)]), (2, .pointer (some ⟨γ4 0, 0, none⟩)), (4, .pointer (some ⟨γ4 1, 0, none⟩)), (7, .pointer (some ⟨γ213 0, 0, none⟩)), (18, .slice (some ⟨g93, 0, none⟩) n n), (21, .int .i64 ((m : Nat)))]) (fun ⟨c93, g93, γ213⟩ => [bx (γ213 0) (#[.slice none 0 0, .slice none 0 0]) 25, bx g93 c93 32, bx (γ4 1) (#[.slice none 0 0, .slice none 0 0]) 25, bx (γ4 0) (#[.slice p n cap, .slice q m capv]) 25, bx (γ2 0) (#[.int .i64 0]) 3, bx (γ1 3) (#[.slice none 0 0, .slice none 0 0]) 25, bx (γ1 2) (#[.int .u32 h, .int .u32 s]) 41, bx (γ1 1) (#[.int .i64 k]) 3, bx (γ1 0) (#[.slice p n cap, .slice q m capv]) 25]) ?_ (fun hmx14 => ?_)
   ·
    rintro ⟨c93, g93, γ213⟩ hc93
    refine a1 7 rfl ?_
    refine ops_make (T := 43) (ks := 4) (by_ := 24) (n := m) rfl (by kernel_rfl) (by kernel_rfl) (by kernel_rfl) (by kernel_rfl) (by kernel_rfl) (by omega) (by have hmx : maxLen = 9223372036854775807 := rfl; omega) (fun g173 c173 hc173 => ?_)
    refine od_ ?_
    refine tk (m := 1) [8] [] [1, 2, 4, 7] [(23, .agg #[.slice (some ⟨g93, 0, none⟩) n n, .slice (some ⟨g173, 0, none⟩) m m])] ([]) #[true, true, true, true, true, true, true, true, true, true, false] al0 ?_
    exact wk (hmx17 (c173, c93, g173, g93, γ213) ⟨hc173, hc93⟩) [1, 2, 4, 7, 23] [[_], [_], [_], [_], [_], [_], [_], [_], [_], [_]] [1, 0, 2, 3, 4, 5, 6, 7, 8, 9] rfl rfl
   refine any_cutX (V := (Array Value) × (Nat)) (fun ⟨c173, g173⟩ => c173.size = m * 4) 4 #[true, true, true, false, true, true, true, true, false, false, false] (fun ⟨c173, g173⟩ => [(1, .func (.func 53) #[] #[.pointer (some ⟨γ1 1, 0, none⟩), .pointer (some ⟨γ1 2, 0, none⟩), .pointer (some ⟨γ2 0, 0, none⟩)]), (2, .pointer (some ⟨γ4 0, 0, none⟩)), (4, .pointer (some ⟨γ4 1, 0, none⟩)), (17, .int .i64 ((n : Nat))), (22, .slice (some ⟨g173, 0, none⟩) m m)]) (fun ⟨c173, g173⟩ => [bx g173 c173 43, bx (γ4 1) (#[.slice none 0 0, .slice none 0 0]) 25, bx (γ4 0) (#[.slice p n cap, .slice q m capv]) 25, bx (γ2 0) (#[.int .i64 0]) 3, bx (γ1 3) (#[.slice none 0 0, .slice none 0 0]) 25, bx (γ1 2) (#[.int .u32 h, .int .u32 s]) 41, bx (γ1 1) (#[.int .i64 k]) 3, bx (γ1 0) (#[.slice p n cap, .slice q m capv]) 25]) ?_ (fun hmx13 => ?_)
   ·
    rintro ⟨c173, g173⟩ hc173
    refine any_fork [3, 9] (by kernel_rfl) (by simp) (each_cons _ rfl ?_ (each_cons _ rfl ?_ (each_nil)))
    ·
     refine ops_make (T := 32) (ks := 4) (by_ := 32) (n := n) rfl (by kernel_rfl) (by kernel_rfl) (by kernel_rfl) (by kernel_rfl) (by kernel_rfl) (by omega) (by have hmx : maxLen = 9223372036854775807 := rfl; omega) (fun g93 c93 hc93 => ?_)
     refine od_ ?_
     refine tk (m := 2) [8] [] [1, 2, 4] [(23, .agg #[.slice (some ⟨g93, 0, none⟩) n n, .slice (some ⟨g173, 0, none⟩) m m])] ([]) #[true, true, true, true, true, true, true, true, true, false, false] al0 ?_
     exact wk (hmx16 (c173, c93, g173, g93) ⟨hc173, hc93⟩) [1, 2, 4, 23] [[_], [_], [_], [_], [_], [_], [_], [_], [_]] [1, 0, 2, 3, 4, 5, 6, 7, 8] rfl rfl
    ·
     refine mo0 1 [] [1, 2, 4, 17, 22] (fun γ213 => [(7, .pointer (some ⟨γ213 0, 0, none⟩))]) (fun γ213 L => bx (γ213 0) (#[.slice none 0 0, .slice none 0 0]) 25 :: L) (fun γ213 => ?_)
     refine od_ ?_
     exact wk (hmx15 (c173, g173, γ213) hc173) [1, 2, 4, 7, 17, 22] [[_], [_], [_], [_], [_], [_], [_], [_], [_]] [0, 1, 2, 3, 4, 5, 6, 7, 8] rfl rfl
   refine any_cutX (V := (Array Value) × (Nat)) (fun ⟨c93, g93⟩ => c93.size = n * 4) 4 #[true, true, true, true, true, true, true, false, false, false, false] (fun ⟨c93, g93⟩ => [(1, .func (.func 53) #[] #[.pointer (some ⟨γ1 1, 0, none⟩), .pointer (some ⟨γ1 2, 0, none⟩), .pointer (some ⟨γ2 0, 0, none⟩)]), (2, .pointer (some ⟨γ4 0, 0, none⟩)), (4, .pointer (some ⟨γ4 1, 0, none⟩)), (18, .slice (some ⟨g93, 0, none⟩) n n), (21, .int .i64 ((m : Nat)))]) (fun ⟨c93, g93⟩ => [bx g93 c93 32, bx (γ4 1) (#[.slice none 0 0, .slice none 0 0]) 25, bx (γ4 0) (#[.slice p n cap, .slice q m capv]) 25, bx (γ2 0) (#[.int .i64 0]) 3, bx (γ1 3) (#[.slice none 0 0, .slice none 0 0]) 25, bx (γ1 2) (#[.int .u32 h, .int .u32 s]) 41, bx (γ1 1) (#[.int .i64 k]) 3, bx (γ1 0) (#[.slice p n cap, .slice q m capv]) 25]) ?_ (fun hmx12 => ?_)
   ·
    rintro ⟨c93, g93⟩ hc93
    refine any_fork [7, 9] (by kernel_rfl) (by simp) (each_cons _ rfl ?_ (each_cons _ rfl ?_ (each_nil)))
    ·
     refine ops_make (T := 43) (ks := 4) (by_ := 24) (n := m) rfl (by kernel_rfl) (by kernel_rfl) (by kernel_rfl) (by kernel_rfl) (by kernel_rfl) (by omega) (by have hmx : maxLen = 9223372036854775807 := rfl; omega) (fun g173 c173 hc173 => ?_)
     refine od_ ?_
     refine tk (m := 2) [8] [] [1, 2, 4] [(23, .agg #[.slice (some ⟨g93, 0, none⟩) n n, .slice (some ⟨g173, 0, none⟩) m m])] ([]) #[true, true, true, true, true, true, true, true, true, false, false] al0 ?_
     exact wk (hmx16 (c173, c93, g173, g93) ⟨hc173, hc93⟩) [1, 2, 4, 23] [[_], [_], [_], [_], [_], [_], [_], [_], [_]] [0, 1, 2, 3, 4, 5, 6, 7, 8] rfl rfl
    ·
     refine mo0 1 [] [1, 2, 4, 18, 21] (fun γ213 => [(7, .pointer (some ⟨γ213 0, 0, none⟩))]) (fun γ213 L => bx (γ213 0) (#[.slice none 0 0, .slice none 0 0]) 25 :: L) (fun γ213 => ?_)
     refine od_ ?_
     exact wk (hmx14 (c93, g93, γ213) hc93) [1, 2, 4, 7, 18, 21] [[_], [_], [_], [_], [_], [_], [_], [_], [_]] [0, 1, 2, 3, 4, 5, 6, 7, 8] rfl rfl
   refine any_cutX (V := (Nat → Nat)) (fun γ213 => True) 4 #[true, true, true, false, true, true, true, false, false, true, false] (fun γ213 => [(1, .func (.func 53) #[] #[.pointer (some ⟨γ1 1, 0, none⟩), .pointer (some ⟨γ1 2, 0, none⟩), .pointer (some ⟨γ2 0, 0, none⟩)]), (2, .pointer (some ⟨γ4 0, 0, none⟩)), (4, .pointer (some ⟨γ4 1, 0, none⟩)), (7, .pointer (some ⟨γ213 0, 0, none⟩)), (17, .int .i64 ((n : Nat))), (21, .int .i64 ((m : Nat)))]) (fun γ213 => [bx (γ213 0) (#[.slice none 0 0, .slice none 0 0]) 25, bx (γ4 1) (#[.slice none 0 0, .slice none 0 0]) 25, bx (γ4 0) (#[.slice p n cap, .slice q m capv]) 25, bx (γ2 0) (#[.int .i64 0]) 3, bx (γ1 3) (#[.slice none 0 0, .slice none 0 0]) 25, bx (γ1 2) (#[.int .u32 h, .int .u32 s]) 41, bx (γ1 1) (#[.int .i64 k]) 3, bx (γ1 0) (#[.slice p n cap, .slice q m capv]) 25]) ?_ (fun hmx11 => ?_)
   ·
    rintro γ213 _
    refine any_fork [3, 7] (by kernel_rfl) (by simp) (each_cons _ rfl ?_ (each_cons _ rfl ?_ (each_nil)))
    ·
     refine ops_make (T := 32) (ks := 4) (by_ := 32) (n := n) rfl (by kernel_rfl) (by kernel_rfl) (by kernel_rfl) (by kernel_rfl) (by kernel_rfl) (by omega) (by have hmx : maxLen = 9223372036854775807 := rfl; omega) (fun g93 c93 hc93 => ?_)
     refine od_ ?_
     exact wk (hmx14 (c93, g93, γ213) hc93) [1, 2, 4, 7, 18, 21] [[_], [_], [_], [_], [_], [_], [_], [_], [_]] [1, 0, 2, 3, 4, 5, 6, 7, 8] rfl rfl
    ·
     refine ops_make (T := 43) (ks := 4) (by_ := 24) (n := m) rfl (by kernel_rfl) (by kernel_rfl) (by kernel_rfl) (by kernel_rfl) (by kernel_rfl) (by omega) (by have hmx : maxLen = 9223372036854775807 := rfl; omega) (fun g173 c173 hc173 => ?_)
     refine od_ ?_
     exact wk (hmx15 (c173, g173, γ213) hc173) [1, 2, 4, 7, 17, 22] [[_], [_], [_], [_], [_], [_], [_], [_], [_]] [1, 0, 2, 3, 4, 5, 6, 7, 8] rfl rfl
   refine any_cutX (V := (Array Value) × (Nat) × (Nat → Nat)) (fun ⟨c173, g173, γ213⟩ => c173.size = m * 4) 5 #[true, false, false, false, true, true, true, true, false, true, false] (fun ⟨c173, g173, γ213⟩ => [(1, .func (.func 53) #[] #[.pointer (some ⟨γ1 1, 0, none⟩), .pointer (some ⟨γ1 2, 0, none⟩), .pointer (some ⟨γ2 0, 0, none⟩)]), (2, .pointer (some ⟨γ4 0, 0, none⟩)), (4, .pointer (some ⟨γ4 1, 0, none⟩)), (7, .pointer (some ⟨γ213 0, 0, none⟩)), (15, .pointer (some ⟨γ4 0, 0, none⟩)), (22, .slice (some ⟨g173, 0, none⟩) m m)]) (fun ⟨c173, g173, γ213⟩ => [bx (γ213 0) (#[.slice none 0 0, .slice none 0 0]) 25, bx g173 c173 43, bx (γ4 1) (#[.slice none 0 0, .slice none 0 0]) 25, bx (γ4 0) (#[.slice p n cap, .slice q m capv]) 25, bx (γ2 0) (#[.int .i64 0]) 3, bx (γ1 3) (#[.slice none 0 0, .slice none 0 0]) 25, bx (γ1 2) (#[.int .u32 h, .int .u32 s]) 41, bx (γ1 1) (#[.int .i64 k]) 3, bx (γ1 0) (#[.slice p n cap, .slice q m capv]) 25]) ?_ (fun hmx10 => ?_)
   ·
    rintro ⟨c173, g173, γ213⟩ hc173
    refine a1 1 rfl ?_
    refine qo0 1 [(1, .go (owns 3 0 1))] [1, 2, 4, 7, 22] [(16, .slice p n cap)] ?_
    refine od_ ?_
    refine tk (m := 3) [2] [] [1, 2, 4, 7, 22] [(17, .int .i64 ((n : Nat)))] ([]) #[true, true, true, false, true, true, true, true, false, true, false] al0 ?_
    exact wk (hmx15 (c173, g173, γ213) hc173) [1, 2, 4, 7, 17, 22] [[_], [_], [_], [_], [_], [_], [_], [_], [_]] [0, 1, 2, 3, 4, 5, 6, 7, 8] rfl rfl
   refine any_cutX (V := (Array Value) × (Nat) × (Nat → Nat)) (fun ⟨c93, g93, γ213⟩ => c93.size = n * 4) 5 #[true, true, true, true, true, false, false, false, false, true, false] (fun ⟨c93, g93, γ213⟩ => [(1, .func (.func 53) #[] #[.pointer (some ⟨γ1 1, 0, none⟩), .pointer (some ⟨γ1 2, 0, none⟩), .pointer (some ⟨γ2 0, 0, none⟩)]), (2, .pointer (some ⟨γ4 0, 0, none⟩)), (4, .pointer (some ⟨γ4 1, 0, none⟩)), (7, .pointer (some ⟨γ213 0, 0, none⟩)), (18, .slice (some ⟨g93, 0, none⟩) n n), (19, .pointer (some ⟨γ4 0, 1, none⟩))]) (fun ⟨c93, g93, γ213⟩ => [bx (γ213 0) (#[.slice none 0 0, .slice none 0 0]) 25, bx g93 c93 32, bx (γ4 1) (#[.slice none 0 0, .slice none 0 0]) 25, bx (γ4 0) (#[.slice p n cap, .slice q m capv]) 25, bx (γ2 0) (#[.int .i64 0]) 3, bx (γ1 3) (#[.slice none 0 0, .slice none 0 0]) 25, bx (γ1 2) (#[.int .u32 h, .int .u32 s]) 41, bx (γ1 1) (#[.int .i64 k]) 3, bx (γ1 0) (#[.slice p n cap, .slice q m capv]) 25]) ?_ (fun hmx9 => ?_)
   ·
    rintro ⟨c93, g93, γ213⟩ hc93
    refine a1 5 rfl ?_
    refine qo0 1 [(5, .go (owns 3 1 1))] [1, 2, 4, 7, 18] [(20, .slice q m capv)] ?_
    refine od_ ?_
    refine tk (m := 3) [6] [] [1, 2, 4, 7, 18] [(21, .int .i64 ((m : Nat)))] ([]) #[true, true, true, true, true, true, true, false, false, true, false] al0 ?_
    exact wk (hmx14 (c93, g93, γ213) hc93) [1, 2, 4, 7, 18, 21] [[_], [_], [_], [_], [_], [_], [_], [_], [_]] [0, 1, 2, 3, 4, 5, 6, 7, 8] rfl rfl
   refine any_cutX (V := Unit) (fun _ => True) 5 #[true, true, true, false, true, true, true, false, false, false, false] (fun _ => [(1, .func (.func 53) #[] #[.pointer (some ⟨γ1 1, 0, none⟩), .pointer (some ⟨γ1 2, 0, none⟩), .pointer (some ⟨γ2 0, 0, none⟩)]), (2, .pointer (some ⟨γ4 0, 0, none⟩)), (4, .pointer (some ⟨γ4 1, 0, none⟩)), (17, .int .i64 ((n : Nat))), (21, .int .i64 ((m : Nat)))]) (fun _ => [bx (γ4 1) (#[.slice none 0 0, .slice none 0 0]) 25, bx (γ4 0) (#[.slice p n cap, .slice q m capv]) 25, bx (γ2 0) (#[.int .i64 0]) 3, bx (γ1 3) (#[.slice none 0 0, .slice none 0 0]) 25, bx (γ1 2) (#[.int .u32 h, .int .u32 s]) 41, bx (γ1 1) (#[.int .i64 k]) 3, bx (γ1 0) (#[.slice p n cap, .slice q m capv]) 25]) ?_ (fun hmx8 => ?_)
   ·
    rintro _ _
    refine any_fork [3, 7, 9] (by kernel_rfl) (by simp) (each_cons _ rfl ?_ (each_cons _ rfl ?_ (each_cons _ rfl ?_ (each_nil))))
    ·
     refine ops_make (T := 32) (ks := 4) (by_ := 32) (n := n) rfl (by kernel_rfl) (by kernel_rfl) (by kernel_rfl) (by kernel_rfl) (by kernel_rfl) (by omega) (by have hmx : maxLen = 9223372036854775807 := rfl; omega) (fun g93 c93 hc93 => ?_)
     refine od_ ?_
     exact wk (hmx12 (c93, g93) hc93) [1, 2, 4, 18, 21] [[_], [_], [_], [_], [_], [_], [_], [_]] [0, 1, 2, 3, 4, 5, 6, 7] rfl rfl
    ·
     refine ops_make (T := 43) (ks := 4) (by_ := 24) (n := m) rfl (by kernel_rfl) (by kernel_rfl) (by kernel_rfl) (by kernel_rfl) (by kernel_rfl) (by omega) (by have hmx : maxLen = 9223372036854775807 := rfl; omega) (fun g173 c173 hc173 => ?_)
     refine od_ ?_
     exact wk (hmx13 (c173, g173) hc173) [1, 2, 4, 17, 22] [[_], [_], [_], [_], [_], [_], [_], [_]] [0, 1, 2, 3, 4, 5, 6, 7] rfl rfl
    ·
     refine mo0 1 [] [1, 2, 4, 17, 21] (fun γ213 => [(7, .pointer (some ⟨γ213 0, 0, none⟩))]) (fun γ213 L => bx (γ213 0) (#[.slice none 0 0, .slice none 0 0]) 25 :: L) (fun γ213 => ?_)
     refine od_ ?_
     exact wk (hmx11 γ213 trivial) [1, 2, 4, 7, 17, 21] [[_], [_], [_], [_], [_], [_], [_], [_]] [0, 1, 2, 3, 4, 5, 6, 7] rfl rfl
   refine any_cutX (V := (Array Value) × (Nat)) (fun ⟨c173, g173⟩ => c173.size = m * 4) 6 #[true, false, false, false, true, true, true, true, false, false, false] (fun ⟨c173, g173⟩ => [(1, .func (.func 53) #[] #[.pointer (some ⟨γ1 1, 0, none⟩), .pointer (some ⟨γ1 2, 0, none⟩), .pointer (some ⟨γ2 0, 0, none⟩)]), (2, .pointer (some ⟨γ4 0, 0, none⟩)), (4, .pointer (some ⟨γ4 1, 0, none⟩)), (15, .pointer (some ⟨γ4 0, 0, none⟩)), (22, .slice (some ⟨g173, 0, none⟩) m m)]) (fun ⟨c173, g173⟩ => [bx g173 c173 43, bx (γ4 1) (#[.slice none 0 0, .slice none 0 0]) 25, bx (γ4 0) (#[.slice p n cap, .slice q m capv]) 25, bx (γ2 0) (#[.int .i64 0]) 3, bx (γ1 3) (#[.slice none 0 0, .slice none 0 0]) 25, bx (γ1 2) (#[.int .u32 h, .int .u32 s]) 41, bx (γ1 1) (#[.int .i64 k]) 3, bx (γ1 0) (#[.slice p n cap, .slice q m capv]) 25]) ?_ (fun hmx7 => ?_)
   ·
    rintro ⟨c173, g173⟩ hc173
    refine any_fork [1, 9] (by kernel_rfl) (by simp) (each_cons _ rfl ?_ (each_cons _ rfl ?_ (each_nil)))
    ·
     refine qo0 1 [(1, .go (owns 2 0 1))] [1, 2, 4, 22] [(16, .slice p n cap)] ?_
     refine od_ ?_
     refine tk (m := 4) [2] [] [1, 2, 4, 22] [(17, .int .i64 ((n : Nat)))] ([]) #[true, true, true, false, true, true, true, true, false, false, false] al0 ?_
     exact wk (hmx13 (c173, g173) hc173) [1, 2, 4, 17, 22] [[_], [_], [_], [_], [_], [_], [_], [_]] [0, 1, 2, 3, 4, 5, 6, 7] rfl rfl
    ·
     refine mo0 1 [] [1, 2, 4, 15, 22] (fun γ213 => [(7, .pointer (some ⟨γ213 0, 0, none⟩))]) (fun γ213 L => bx (γ213 0) (#[.slice none 0 0, .slice none 0 0]) 25 :: L) (fun γ213 => ?_)
     refine od_ ?_
     exact wk (hmx10 (c173, g173, γ213) hc173) [1, 2, 4, 7, 15, 22] [[_], [_], [_], [_], [_], [_], [_], [_], [_]] [0, 1, 2, 3, 4, 5, 6, 7, 8] rfl rfl
   refine any_cutX (V := (Array Value) × (Nat)) (fun ⟨c93, g93⟩ => c93.size = n * 4) 6 #[true, true, true, true, true, false, false, false, false, false, false] (fun ⟨c93, g93⟩ => [(1, .func (.func 53) #[] #[.pointer (some ⟨γ1 1, 0, none⟩), .pointer (some ⟨γ1 2, 0, none⟩), .pointer (some ⟨γ2 0, 0, none⟩)]), (2, .pointer (some ⟨γ4 0, 0, none⟩)), (4, .pointer (some ⟨γ4 1, 0, none⟩)), (18, .slice (some ⟨g93, 0, none⟩) n n), (19, .pointer (some ⟨γ4 0, 1, none⟩))]) (fun ⟨c93, g93⟩ => [bx g93 c93 32, bx (γ4 1) (#[.slice none 0 0, .slice none 0 0]) 25, bx (γ4 0) (#[.slice p n cap, .slice q m capv]) 25, bx (γ2 0) (#[.int .i64 0]) 3, bx (γ1 3) (#[.slice none 0 0, .slice none 0 0]) 25, bx (γ1 2) (#[.int .u32 h, .int .u32 s]) 41, bx (γ1 1) (#[.int .i64 k]) 3, bx (γ1 0) (#[.slice p n cap, .slice q m capv]) 25]) ?_ (fun hmx6 => ?_)
   ·
    rintro ⟨c93, g93⟩ hc93
    refine any_fork [5, 9] (by kernel_rfl) (by simp) (each_cons _ rfl ?_ (each_cons _ rfl ?_ (each_nil)))
    ·
     refine qo0 1 [(5, .go (owns 2 1 1))] [1, 2, 4, 18] [(20, .slice q m capv)] ?_
     refine od_ ?_
     refine tk (m := 4) [6] [] [1, 2, 4, 18] [(21, .int .i64 ((m : Nat)))] ([]) #[true, true, true, true, true, true, true, false, false, false, false] al0 ?_
     exact wk (hmx12 (c93, g93) hc93) [1, 2, 4, 18, 21] [[_], [_], [_], [_], [_], [_], [_], [_]] [0, 1, 2, 3, 4, 5, 6, 7] rfl rfl
    ·
     refine mo0 1 [] [1, 2, 4, 18, 19] (fun γ213 => [(7, .pointer (some ⟨γ213 0, 0, none⟩))]) (fun γ213 L => bx (γ213 0) (#[.slice none 0 0, .slice none 0 0]) 25 :: L) (fun γ213 => ?_)
     refine od_ ?_
     exact wk (hmx9 (c93, g93, γ213) hc93) [1, 2, 4, 7, 18, 19] [[_], [_], [_], [_], [_], [_], [_], [_], [_]] [0, 1, 2, 3, 4, 5, 6, 7, 8] rfl rfl
   refine any_cutX (V := (Nat → Nat)) (fun γ213 => True) 6 #[true, false, false, false, true, true, true, false, false, true, false] (fun γ213 => [(1, .func (.func 53) #[] #[.pointer (some ⟨γ1 1, 0, none⟩), .pointer (some ⟨γ1 2, 0, none⟩), .pointer (some ⟨γ2 0, 0, none⟩)]), (2, .pointer (some ⟨γ4 0, 0, none⟩)), (4, .pointer (some ⟨γ4 1, 0, none⟩)), (7, .pointer (some ⟨γ213 0, 0, none⟩)), (15, .pointer (some ⟨γ4 0, 0, none⟩)), (21, .int .i64 ((m : Nat)))]) (fun γ213 => [bx (γ213 0) (#[.slice none 0 0, .slice none 0 0]) 25, bx (γ4 1) (#[.slice none 0 0, .slice none 0 0]) 25, bx (γ4 0) (#[.slice p n cap, .slice q m capv]) 25, bx (γ2 0) (#[.int .i64 0]) 3, bx (γ1 3) (#[.slice none 0 0, .slice none 0 0]) 25, bx (γ1 2) (#[.int .u32 h, .int .u32 s]) 41, bx (γ1 1) (#[.int .i64 k]) 3, bx (γ1 0) (#[.slice p n cap, .slice q m capv]) 25]) ?_ (fun hmx5 => ?_)
   ·
    rintro γ213 _
    refine any_fork [1, 7] (by kernel_rfl) (by simp) (each_cons _ rfl ?_ (each_cons _ rfl ?_ (each_nil)))
    ·
     refine qo0 1 [(1, .go (owns 2 0 1))] [1, 2, 4, 7, 21] [(16, .slice p n cap)] ?_
     refine od_ ?_
     refine tk (m := 4) [2] [] [1, 2, 4, 7, 21] [(17, .int .i64 ((n : Nat)))] ([]) #[true, true, true, false, true, true, true, false, false, true, false] al0 ?_
     exact wk (hmx11 γ213 trivial) [1, 2, 4, 7, 17, 21] [[_], [_], [_], [_], [_], [_], [_], [_]] [0, 1, 2, 3, 4, 5, 6, 7] rfl rfl
    ·
     refine ops_make (T := 43) (ks := 4) (by_ := 24) (n := m) rfl (by kernel_rfl) (by kernel_rfl) (by kernel_rfl) (by kernel_rfl) (by kernel_rfl) (by omega) (by have hmx : maxLen = 9223372036854775807 := rfl; omega) (fun g173 c173 hc173 => ?_)
     refine od_ ?_
     exact wk (hmx10 (c173, g173, γ213) hc173) [1, 2, 4, 7, 15, 22] [[_], [_], [_], [_], [_], [_], [_], [_], [_]] [1, 0, 2, 3, 4, 5, 6, 7, 8] rfl rfl
   refine any_cutX (V := (Nat → Nat)) (fun γ213 => True) 6 #[true, true, true, false, true, false, false, false, false, true, false] (fun γ213 => [(1, .func (.func 53) #[] #[.pointer (some ⟨γ1 1, 0, none⟩), .pointer (some ⟨γ1 2, 0, none⟩), .pointer (some ⟨γ2 0, 0, none⟩)]), (2, .pointer (some ⟨γ4 0, 0, none⟩)), (4, .pointer (some ⟨γ4 1, 0, none⟩)), (7, .pointer (some ⟨γ213 0, 0, none⟩)), (17, .int .i64 ((n : Nat))), (19, .pointer (some ⟨γ4 0, 1, none⟩))]) (fun γ213 => [bx (γ213 0) (#[.slice none 0 0, .slice none 0 0]) 25, bx (γ4 1) (#[.slice none 0 0, .slice none 0 0]) 25, bx (γ4 0) (#[.slice p n cap, .slice q m capv]) 25, bx (γ2 0) (#[.int .i64 0]) 3, bx (γ1 3) (#[.slice none 0 0, .slice none 0 0]) 25, bx (γ1 2) (#[.int .u32 h, .int .u32 s]) 41, bx (γ1 1) (#[.int .i64 k]) 3, bx (γ1 0) (#[.slice p n cap, .slice q m capv]) 25]) ?_ (fun hmx4 => ?_)
   ·
    rintro γ213 _
    refine any_fork [3, 5] (by kernel_rfl) (by simp) (each_cons _ rfl ?_ (each_cons _ rfl ?_ (each_nil)))
    ·
     refine ops_make (T := 32) (ks := 4) (by_ := 32) (n := n) rfl (by kernel_rfl) (by kernel_rfl) (by kernel_rfl) (by kernel_rfl) (by kernel_rfl) (by omega) (by have hmx : maxLen = 9223372036854775807 := rfl; omega) (fun g93 c93 hc93 => ?_)
     refine od_ ?_
     exact wk (hmx9 (c93, g93, γ213) hc93) [1, 2, 4, 7, 18, 19] [[_], [_], [_], [_], [_], [_], [_], [_], [_]] [1, 0, 2, 3, 4, 5, 6, 7, 8] rfl rfl
    ·
     refine qo0 1 [(5, .go (owns 2 1 1))] [1, 2, 4, 7, 17] [(20, .slice q m capv)] ?_
     refine od_ ?_
     refine tk (m := 4) [6] [] [1, 2, 4, 7, 17] [(21, .int .i64 ((m : Nat)))] ([]) #[true, true, true, false, true, true, true, false, false, true, false] al0 ?_
     exact wk (hmx11 γ213 trivial) [1, 2, 4, 7, 17, 21] [[_], [_], [_], [_], [_], [_], [_], [_]] [0, 1, 2, 3, 4, 5, 6, 7] rfl rfl
   refine any_cutX (V := Unit) (fun _ => True) 7 #[true, false, false, false, true, true, true, false, false, false, false] (fun _ => [(1, .func (.func 53) #[] #[.pointer (some ⟨γ1 1, 0, none⟩), .pointer (some ⟨γ1 2, 0, none⟩), .pointer (some ⟨γ2 0, 0, none⟩)]), (2, .pointer (some ⟨γ4 0, 0, none⟩)), (4, .pointer (some ⟨γ4 1, 0, none⟩)), (15, .pointer (some ⟨γ4 0, 0, none⟩)), (21, .int .i64 ((m : Nat)))]) (fun _ => [bx (γ4 1) (#[.slice none 0 0, .slice none 0 0]) 25, bx (γ4 0) (#[.slice p n cap, .slice q m capv]) 25, bx (γ2 0) (#[.int .i64 0]) 3, bx (γ1 3) (#[.slice none 0 0, .slice none 0 0]) 25, bx (γ1 2) (#[.int .u32 h, .int .u32 s]) 41, bx (γ1 1) (#[.int .i64 k]) 3, bx (γ1 0) (#[.slice p n cap, .slice q m capv]) 25]) ?_ (fun hmx3 => ?_)
   ·
    rintro _ _
    refine any_fork [1, 7, 9] (by kernel_rfl) (by simp) (each_cons _ rfl ?_ (each_cons _ rfl ?_ (each_cons _ rfl ?_ (each_nil))))
    ·
     refine qo0 1 [(1, .go (owns 1 0 1))] [1, 2, 4, 21] [(16, .slice p n cap)] ?_
     refine od_ ?_
     refine tk (m := 5) [2] [] [1, 2, 4, 21] [(17, .int .i64 ((n : Nat)))] ([]) #[true, true, true, false, true, true, true, false, false, false, false] al0 ?_
     exact wk (hmx8 () trivial) [1, 2, 4, 17, 21] [[_], [_], [_], [_], [_], [_], [_]] [0, 1, 2, 3, 4, 5, 6] rfl rfl
    ·
     refine ops_make (T := 43) (ks := 4) (by_ := 24) (n := m) rfl (by kernel_rfl) (by kernel_rfl) (by kernel_rfl) (by kernel_rfl) (by kernel_rfl) (by omega) (by have hmx : maxLen = 9223372036854775807 := rfl; omega) (fun g173 c173 hc173 => ?_)
     refine od_ ?_
     exact wk (hmx7 (c173, g173) hc173) [1, 2, 4, 15, 22] [[_], [_], [_], [_], [_], [_], [_], [_]] [0, 1, 2, 3, 4, 5, 6, 7] rfl rfl
    ·
     refine mo0 1 [] [1, 2, 4, 15, 21] (fun γ213 => [(7, .pointer (some ⟨γ213 0, 0, none⟩))]) (fun γ213 L => bx (γ213 0) (#[.slice none 0 0, .slice none 0 0]) 25 :: L) (fun γ213 => ?_)
     refine od_ ?_
     exact wk (hmx5 γ213 trivial) [1, 2, 4, 7, 15, 21] [[_], [_], [_], [_], [_], [_], [_], [_]] [0, 1, 2, 3, 4, 5, 6, 7] rfl rfl
   refine any_cutX (V := Unit) (fun _ => True) 7 #[true, true, true, false, true, false, false, false, false, false, false] (fun _ => [(1, .func (.func 53) #[] #[.pointer (some ⟨γ1 1, 0, none⟩), .pointer (some ⟨γ1 2, 0, none⟩), .pointer (some ⟨γ2 0, 0, none⟩)]), (2, .pointer (some ⟨γ4 0, 0, none⟩)), (4, .pointer (some ⟨γ4 1, 0, none⟩)), (17, .int .i64 ((n : Nat))), (19, .pointer (some ⟨γ4 0, 1, none⟩))]) (fun _ => [bx (γ4 1) (#[.slice none 0 0, .slice none 0 0]) 25, bx (γ4 0) (#[.slice p n cap, .slice q m capv]) 25, bx (γ2 0) (#[.int .i64 0]) 3, bx (γ1 3) (#[.slice none 0 0, .slice none 0 0]) 25, bx (γ1 2) (#[.int .u32 h, .int .u32 s]) 41, bx (γ1 1) (#[.int .i64 k]) 3, bx (γ1 0) (#[.slice p n cap, .slice q m capv]) 25]) ?_ (fun hmx2 => ?_)
   ·
    rintro _ _
    refine any_fork [3, 5, 9] (by kernel_rfl) (by simp) (each_cons _ rfl ?_ (each_cons _ rfl ?_ (each_cons _ rfl ?_ (each_nil))))
    ·
     refine ops_make (T := 32) (ks := 4) (by_ := 32) (n := n) rfl (by kernel_rfl) (by kernel_rfl) (by kernel_rfl) (by kernel_rfl) (by kernel_rfl) (by omega) (by have hmx : maxLen = 9223372036854775807 := rfl; omega) (fun g93 c93 hc93 => ?_)
     refine od_ ?_
     exact wk (hmx6 (c93, g93) hc93) [1, 2, 4, 18, 19] [[_], [_], [_], [_], [_], [_], [_], [_]] [0, 1, 2, 3, 4, 5, 6, 7] rfl rfl
    ·
     refine qo0 1 [(5, .go (owns 1 1 1))] [1, 2, 4, 17] [(20, .slice q m capv)] ?_
     refine od_ ?_
     refine tk (m := 5) [6] [] [1, 2, 4, 17] [(21, .int .i64 ((m : Nat)))] ([]) #[true, true, true, false, true, true, true, false, false, false, false] al0 ?_
     exact wk (hmx8 () trivial) [1, 2, 4, 17, 21] [[_], [_], [_], [_], [_], [_], [_]] [0, 1, 2, 3, 4, 5, 6] rfl rfl
    ·
     refine mo0 1 [] [1, 2, 4, 17, 19] (fun γ213 => [(7, .pointer (some ⟨γ213 0, 0, none⟩))]) (fun γ213 L => bx (γ213 0) (#[.slice none 0 0, .slice none 0 0]) 25 :: L) (fun γ213 => ?_)
     refine od_ ?_
     exact wk (hmx4 γ213 trivial) [1, 2, 4, 7, 17, 19] [[_], [_], [_], [_], [_], [_], [_], [_]] [0, 1, 2, 3, 4, 5, 6, 7] rfl rfl
   refine any_cutX (V := (Nat → Nat)) (fun γ213 => True) 8 #[true, false, false, false, true, false, false, false, false, true, false] (fun γ213 => [(1, .func (.func 53) #[] #[.pointer (some ⟨γ1 1, 0, none⟩), .pointer (some ⟨γ1 2, 0, none⟩), .pointer (some ⟨γ2 0, 0, none⟩)]), (2, .pointer (some ⟨γ4 0, 0, none⟩)), (4, .pointer (some ⟨γ4 1, 0, none⟩)), (7, .pointer (some ⟨γ213 0, 0, none⟩)), (15, .pointer (some ⟨γ4 0, 0, none⟩)), (19, .pointer (some ⟨γ4 0, 1, none⟩))]) (fun γ213 => [bx (γ213 0) (#[.slice none 0 0, .slice none 0 0]) 25, bx (γ4 1) (#[.slice none 0 0, .slice none 0 0]) 25, bx (γ4 0) (#[.slice p n cap, .slice q m capv]) 25, bx (γ2 0) (#[.int .i64 0]) 3, bx (γ1 3) (#[.slice none 0 0, .slice none 0 0]) 25, bx (γ1 2) (#[.int .u32 h, .int .u32 s]) 41, bx (γ1 1) (#[.int .i64 k]) 3, bx (γ1 0) (#[.slice p n cap, .slice q m capv]) 25]) ?_ (fun hmx1 => ?_)
   ·
    rintro γ213 _
    refine any_fork [1, 5] (by kernel_rfl) (by simp) (each_cons _ rfl ?_ (each_cons _ rfl ?_ (each_nil)))
    ·
     refine qo0 1 [(1, .go (owns 2 0 1))] [1, 2, 4, 7, 19] [(16, .slice p n cap)] ?_
     refine od_ ?_
     refine tk (m := 6) [2] [] [1, 2, 4, 7, 19] [(17, .int .i64 ((n : Nat)))] ([]) #[true, true, true, false, true, false, false, false, false, true, false] al0 ?_
     exact wk (hmx4 γ213 trivial) [1, 2, 4, 7, 17, 19] [[_], [_], [_], [_], [_], [_], [_], [_]] [0, 1, 2, 3, 4, 5, 6, 7] rfl rfl
    ·
     refine qo0 1 [(5, .go (owns 2 1 1))] [1, 2, 4, 7, 15] [(20, .slice q m capv)] ?_
     refine od_ ?_
     refine tk (m := 6) [6] [] [1, 2, 4, 7, 15] [(21, .int .i64 ((m : Nat)))] ([]) #[true, false, false, false, true, true, true, false, false, true, false] al0 ?_
     exact wk (hmx5 γ213 trivial) [1, 2, 4, 7, 15, 21] [[_], [_], [_], [_], [_], [_], [_], [_]] [0, 1, 2, 3, 4, 5, 6, 7] rfl rfl
   refine any_fork [1, 5, 9] (by kernel_rfl) (by simp) (each_cons _ rfl ?_ (each_cons _ rfl ?_ (each_cons _ rfl ?_ (each_nil))))
   ·
    refine qo0 1 [(1, .go (owns 1 0 1))] [1, 2, 4, 19] [(16, .slice p n cap)] ?_
    refine od_ ?_
    refine tk (m := 7) [2] [] [1, 2, 4, 19] [(17, .int .i64 ((n : Nat)))] ([]) #[true, true, true, false, true, false, false, false, false, false, false] al0 ?_
    exact wk (hmx2 () trivial) [1, 2, 4, 17, 19] [[_], [_], [_], [_], [_], [_], [_]] [0, 1, 2, 3, 4, 5, 6] rfl rfl
   ·
    refine qo0 1 [(5, .go (owns 1 1 1))] [1, 2, 4, 15] [(20, .slice q m capv)] ?_
    refine od_ ?_
    refine tk (m := 7) [6] [] [1, 2, 4, 15] [(21, .int .i64 ((m : Nat)))] ([]) #[true, false, false, false, true, true, true, false, false, false, false] al0 ?_
    exact wk (hmx3 () trivial) [1, 2, 4, 15, 21] [[_], [_], [_], [_], [_], [_], [_]] [0, 1, 2, 3, 4, 5, 6] rfl rfl
   ·
    refine mo0 1 [] [1, 2, 4, 15, 19] (fun γ213 => [(7, .pointer (some ⟨γ213 0, 0, none⟩))]) (fun γ213 L => bx (γ213 0) (#[.slice none 0 0, .slice none 0 0]) 25 :: L) (fun γ213 => ?_)
    refine od_ ?_
    exact wk (hmx1 γ213 trivial) [1, 2, 4, 7, 15, 19] [[_], [_], [_], [_], [_], [_], [_], [_]] [0, 1, 2, 3, 4, 5, 6, 7] rfl rfl
  rintro ⟨c173, c93, g173, g93, γ213⟩ ⟨hc173, hc93⟩
  refine any_nil (by kernel_rfl) ?_
  refine ds_ (sq_ (ao_ (qo0 4 [(1, .go (owns 0 0 1)), (3, .go (owns 4 0 1))] [1, 2, 4, 7] [(25, .slice (some ⟨g93, 0, none⟩) n n), (27, .slice p n cap)] (ops_copy 2 rfl (by kernel_rfl) (by kernel_rfl) (g := g93) (of := 0) (dn := n) (dc := n) (m := n) (cnt := n) (c := c93) (yv := (.slice p n cap)) (ds.flatMap Enc.enc) (by kernel_rfl) (by kernel_rfl) (T := 32) (ks := 4) (by_ := 32) (by kernel_rfl) (T' := 32) (by kernel_rfl) len_slice (by omega) (fun w hw => by have := first_sv (P := Try.prog) (w := w) (p := p) (m := n) (cap := cap) (cnt := n) (hds.kept hw.below) (by omega); rw [List.take_of_length_le (by omega)] at this; exact this) (by first | (rw [flat_len, Nat.zero_add, hc93, ← hn]; exact Nat.le_refl _) | (rw [flat_len, Nat.zero_add, hc93, ← hn])) (flat_one ds) ?_))))
  have hOw321 := OwnS.filled (l := ds) (n := n) hc93 hn (by have hmx : maxLen = 9223372036854775807 := rfl; omega)
  have hO321 := SlO.ofOwn (T := 32) (g := g93) hOw321 hn
  refine on_ (ds_ (sq_ (ao_ (qo0 4 [(1, .go (owns 0 1 1)), (3, .go (owns 4 1 1))] [1, 4, 7] [(30, .slice (some ⟨g173, 0, none⟩) m m), (32, .slice q m capv)] (ops_copy 1 rfl (by kernel_rfl) (by kernel_rfl) (g := g173) (of := 0) (dn := m) (dc := m) (m := m) (cnt := m) (c := c173) (yv := (.slice q m capv)) (vs.flatMap Enc.enc) (by kernel_rfl) (by kernel_rfl) (T := 43) (ks := 4) (by_ := 24) (by kernel_rfl) (T' := 43) (by kernel_rfl) len_slice (by omega) (fun w hw => by have := first_sv (P := Try.prog) (w := w) (p := q) (m := m) (cap := capv) (cnt := m) (hvs.kept hw.below) (by omega); rw [List.take_of_length_le (by omega)] at this; exact this) (by first | (rw [flat_len, Nat.zero_add, hc173, ← hm]; exact Nat.le_refl _) | (rw [flat_len, Nat.zero_add, hc173, ← hm])) (flat_one vs) ?_)))))
  have hOw324 := OwnS.filled (l := vs) (n := m) hc173 hm (by have hmx : maxLen = 9223372036854775807 := rfl; omega)
  have hO324 := SlO.ofOwn (T := 43) (g := g173) hOw324 hm
  refine on_ (ds_ (sq_ (sq_ (ao_ (qo0 1 [] [4, 7] [(34, .func (.func 53) #[] #[.pointer (some ⟨γ1 1, 0, none⟩), .pointer (some ⟨γ1 2, 0, none⟩), .pointer (some ⟨γ2 0, 0, none⟩)])] (ops_inline (g := 53) (args := #[.pointer (some ⟨γ213 0, 0, none⟩), .pointer (some ⟨γ1 1, 0, none⟩), .pointer (some ⟨γ1 2, 0, none⟩), .pointer (some ⟨γ2 0, 0, none⟩)]) (by kernel_rfl) (by kernel_rfl) (by kernel_rfl) (fun args w => Try.call53 args w) Try.func53 rfl Try.ntmps53 rfl (sq_ (qa0 [] [0, 1, 2, 3] [] (ds_ (sq_ ?_))))))))))
  refine at_calm rfl (by kernel_rfl) (by kernel_rfl) ?_
  refine cm 5 [(3, .go (owns 0 0 1)), (4, .go (owns 8 0 1))] [0, 1, 2, 3] [(13, .slice (some ⟨g93, 0, none⟩) n n), (14, .int .i64 k)] ([]) (by kernel_rfl) rfl al0 ?_
  rcases hg329 : getK Dom.id ds k with _ | y329
  ·
   have hpl329 := (pos_cut (k := k) (guests_iff.1 q6).dr).2.2
   refine cK (.tuple #[.int .i64 ((posK Dom.id ds k : Nat)), .bool false]) Try.call47 (fun w hw => by have := placed_d (some ⟨g93, 0, none⟩) n n ds k w (hO321.atN (A := [_, _]) hw) hn (by omega) (guests_iff.1 q6).dr; rw [hasK_none hg329] at this; exact this) ?_
   refine cm 5 [] [0, 1, 2, 3] [(7, .bool false)] ([]) (by kernel_rfl) rfl al0 ?_
   refine calm_nil' ?_
   refine ds_ (sq_ (at_block (sq_ (qa0 [] [0, 1, 2, 3] [(18, .bool true)] (ds_ (t_ (sq_ (qa0 [] [] [(5, .int .i64 4)] (ds_ (bk ([]) (.int .i64 4) (qo0 1 [] [4, 7] [(8, .int .i64 4)] (on_ (ds_ (sq_ (qa0 [] [4, 7, 8] [(37, .bool true)] (ds_ (t_ (sq_ (qa0 [(2, .go (owns 3 0 2))] [4] [(5, .int .i64 4)] (ds_ (bk (owns 3 0 2) (.tuple #[.agg #[.slice none 0 0, .slice none 0 0], .int .i64 4]) (mo0 6 [(7, .go (owns 0 0 2))] [6, 9] (fun γ336 => [(10, .pointer (some ⟨γ336 0, 0, none⟩)), (11, .int .i64 4)]) (fun γ336 L => bx (γ336 0) (#[.slice none 0 0, .slice none 0 0]) 25 :: L) (fun γ336 => on_ (ds_ (sq_ ?_)))))))))))))))))))))))))
   refine at_any (by kernel_rfl) ?_
   refine tk (m := 5) [2] [] [6, 9, 10] [(20, .int .i64 4)] ([]) #[false, false, true, false, false, false] al0 ?_
   refine any_cut 0 #[true, true, true, true, true, true] ([(6, .pointer (some ⟨γ1 3, 0, none⟩)), (7, .int .i64 0), (8, .int .i64 4)]) ([bx (γ336 0) (#[.slice none 0 0, .slice none 0 0]) 25, bx (γ213 0) (#[.slice (some ⟨g93, 0, none⟩) n n, .slice (some ⟨g173, 0, none⟩) m m]) 25, bx g173 ((sets c173 0 (vs.flatMap Enc.enc))) 43, bx g93 ((sets c93 0 (ds.flatMap Enc.enc))) 32, bx (γ4 1) (#[.slice none 0 0, .slice none 0 0]) 25, bx (γ4 0) (#[.slice p n cap, .slice q m capv]) 25, bx (γ2 0) (#[.int .i64 0]) 3, bx (γ1 3) (#[.slice none 0 0, .slice none 0 0]) 25, bx (γ1 2) (#[.int .u32 h, .int .u32 s]) 41, bx (γ1 1) (#[.int .i64 k]) 3, bx (γ1 0) (#[.slice p n cap, .slice q m capv]) 25]) ?_ (fun hm => ?_)
   rotate_left
   ·
    refine any_fork [0, 1] (by kernel_rfl) (by simp) (each_cons _ rfl ?_ (each_cons _ rfl ?_ (each_nil)))
    ·
     refine qo0 1 [(0, .go (owns 0 0 2))] [6, 9, 20] [(18, .agg #[.slice none 0 0, .slice none 0 0])] ?_
     refine od_ ?_
     refine any_fork [1, 3] (by kernel_rfl) (by simp) (each_cons _ rfl ?_ (each_cons _ rfl ?_ (each_nil)))
     ·
      refine qo0 1 [(1, .go (owns 6 0 1))] [6, 18, 20] [(19, .int .i64 0)] ?_
      refine od_ ?_
      refine a1 3 rfl ?_
      refine qo0 1 [(3, .go (owns 7 0 2))] [6, 19, 20] [] ?_
      refine od_ ?_
      refine tk (m := 0) [4, 5] [] [6] [(7, .int .i64 0), (8, .int .i64 4)] ([]) #[true, true, true, true, true, true] al0 ?_
      exact any_weak hm [6, 7, 8] (by kernel_rfl) rfl rfl rfl
     ·
      refine qo0 1 [(3, .go (owns 7 0 2))] [6, 9, 20] [] ?_
      refine od_ ?_
      refine a1 1 rfl ?_
      refine qo0 1 [(1, .go (owns 6 0 1))] [6, 20] [(19, .int .i64 0)] ?_
      refine od_ ?_
      refine tk (m := 0) [4, 5] [] [6] [(7, .int .i64 0), (8, .int .i64 4)] ([]) #[true, true, true, true, true, true] al0 ?_
      exact any_weak hm [6, 7, 8] (by kernel_rfl) rfl rfl rfl
    ·
     refine qo0 1 [(1, .go (owns 6 0 1))] [6, 10, 20] [(19, .int .i64 0)] ?_
     refine od_ ?_
     refine a1 0 rfl ?_
     refine qo0 1 [(0, .go (owns 0 0 2))] [6, 19, 20] [(18, .agg #[.slice none 0 0, .slice none 0 0])] ?_
     refine od_ ?_
     refine a1 3 rfl ?_
     refine qo0 1 [(3, .go (owns 7 0 2))] [6, 19, 20] [] ?_
     refine od_ ?_
     refine tk (m := 0) [4, 5] [] [6] [(7, .int .i64 0), (8, .int .i64 4)] ([]) #[true, true, true, true, true, true] al0 ?_
     exact any_weak hm [6, 7, 8] (by kernel_rfl) rfl rfl rfl
   refine any_nil (by kernel_rfl) ?_
   refine ds_ (rt (owns 7 0 2) (.tuple #[.agg #[.slice none 0 0, .slice none 0 0], .int .i64 0, .int .i64 4]) ?_)
   exact fun w' hw => by rw [(addN_no (addV_none q6 hg329) (by decide)), addV_none q6 hg329]; exact ⟨none, 0, 0, [], none, 0, 0, [], rfl, SlO.nil, SlO.nil, hw.below, hw.sub (List.nil_sublist _)⟩
  ·
   have hp_y329 := pos_getK (guests_iff.1 q6).dr hg329
   have hl_y329 := (List.getElem?_eq_some_iff.1 hp_y329).1
   refine cK (.tuple #[.int .i64 ((posK Dom.id ds k : Nat)), .bool true]) Try.call47 (fun w hw => by have := placed_d (some ⟨g93, 0, none⟩) n n ds k w (hO321.atN (A := [_, _]) hw) hn (by omega) (guests_iff.1 q6).dr; rw [hasK_some hg329] at this; exact this) ?_
   refine cm 5 [] [0, 1, 2, 3] [(7, .bool true)] ([]) (by kernel_rfl) rfl al0 ?_
   refine calm_nil' ?_
   refine ds_ (sq_ (at_block (sq_ (qa0 [] [0, 1, 2, 3] [(18, .bool false)] (ds_ (f_ (sq_ (ao_ (qo0 1 [(0, .go (owns 7 0 2))] [0, 1, 2, 3] [(22, .agg #[.int .u32 h, .int .u32 s])] ?_)))))))))
   rcases q357 : maskB h s with _ | _
   ·
    refine cD (.int .i64 170) Try.call48 (fun w hw => by have := mask_d h s w; rw [q357] at this; exact this) (qo0 2 [] [0, 1, 2, 3] [(21, .bool true)] (on_ (ds_ (t_ (sq_ (qa0 [] [] [(5, .int .i64 170)] (ds_ (bk ([]) (.int .i64 170) (qo0 1 [] [4, 7] [(8, .int .i64 170)] (on_ (ds_ (sq_ (qa0 [] [4, 7, 8] [(37, .bool true)] (ds_ (t_ (sq_ (qa0 [(2, .go (owns 3 0 2))] [4] [(5, .int .i64 170)] (ds_ (bk (owns 3 0 2) (.tuple #[.agg #[.slice none 0 0, .slice none 0 0], .int .i64 170]) (mo0 6 [(7, .go (owns 0 0 2))] [6, 9] (fun γ363 => [(10, .pointer (some ⟨γ363 0, 0, none⟩)), (11, .int .i64 170)]) (fun γ363 L => bx (γ363 0) (#[.slice none 0 0, .slice none 0 0]) 25 :: L) (fun γ363 => on_ (ds_ (sq_ ?_)))))))))))))))))))))))
    refine at_any (by kernel_rfl) ?_
    refine tk (m := 5) [2] [] [6, 9, 10] [(20, .int .i64 170)] ([]) #[false, false, true, false, false, false] al0 ?_
    refine any_cut 0 #[true, true, true, true, true, true] ([(6, .pointer (some ⟨γ1 3, 0, none⟩)), (7, .int .i64 0), (8, .int .i64 170)]) ([bx (γ363 0) (#[.slice none 0 0, .slice none 0 0]) 25, bx (γ213 0) (#[.slice (some ⟨g93, 0, none⟩) n n, .slice (some ⟨g173, 0, none⟩) m m]) 25, bx g173 ((sets c173 0 (vs.flatMap Enc.enc))) 43, bx g93 ((sets c93 0 (ds.flatMap Enc.enc))) 32, bx (γ4 1) (#[.slice none 0 0, .slice none 0 0]) 25, bx (γ4 0) (#[.slice p n cap, .slice q m capv]) 25, bx (γ2 0) (#[.int .i64 0]) 3, bx (γ1 3) (#[.slice none 0 0, .slice none 0 0]) 25, bx (γ1 2) (#[.int .u32 h, .int .u32 s]) 41, bx (γ1 1) (#[.int .i64 k]) 3, bx (γ1 0) (#[.slice p n cap, .slice q m capv]) 25]) ?_ (fun hm => ?_)
    rotate_left
    ·
     refine any_fork [0, 1] (by kernel_rfl) (by simp) (each_cons _ rfl ?_ (each_cons _ rfl ?_ (each_nil)))
     ·
      refine qo0 1 [(0, .go (owns 0 0 2))] [6, 9, 20] [(18, .agg #[.slice none 0 0, .slice none 0 0])] ?_
      refine od_ ?_
      refine any_fork [1, 3] (by kernel_rfl) (by simp) (each_cons _ rfl ?_ (each_cons _ rfl ?_ (each_nil)))
      ·
       refine qo0 1 [(1, .go (owns 6 0 1))] [6, 18, 20] [(19, .int .i64 0)] ?_
       refine od_ ?_
       refine a1 3 rfl ?_
       refine qo0 1 [(3, .go (owns 7 0 2))] [6, 19, 20] [] ?_
       refine od_ ?_
       refine tk (m := 0) [4, 5] [] [6] [(7, .int .i64 0), (8, .int .i64 170)] ([]) #[true, true, true, true, true, true] al0 ?_
       exact any_weak hm [6, 7, 8] (by kernel_rfl) rfl rfl rfl
      ·
       refine qo0 1 [(3, .go (owns 7 0 2))] [6, 9, 20] [] ?_
       refine od_ ?_
       refine a1 1 rfl ?_
       refine qo0 1 [(1, .go (owns 6 0 1))] [6, 20] [(19, .int .i64 0)] ?_
       refine od_ ?_
       refine tk (m := 0) [4, 5] [] [6] [(7, .int .i64 0), (8, .int .i64 170)] ([]) #[true, true, true, true, true, true] al0 ?_
       exact any_weak hm [6, 7, 8] (by kernel_rfl) rfl rfl rfl
     ·
      refine qo0 1 [(1, .go (owns 6 0 1))] [6, 10, 20] [(19, .int .i64 0)] ?_
      refine od_ ?_
      refine a1 0 rfl ?_
      refine qo0 1 [(0, .go (owns 0 0 2))] [6, 19, 20] [(18, .agg #[.slice none 0 0, .slice none 0 0])] ?_
      refine od_ ?_
      refine a1 3 rfl ?_
      refine qo0 1 [(3, .go (owns 7 0 2))] [6, 19, 20] [] ?_
      refine od_ ?_
      refine tk (m := 0) [4, 5] [] [6] [(7, .int .i64 0), (8, .int .i64 170)] ([]) #[true, true, true, true, true, true] al0 ?_
      exact any_weak hm [6, 7, 8] (by kernel_rfl) rfl rfl rfl
    refine any_nil (by kernel_rfl) ?_
    refine ds_ (rt (owns 7 0 2) (.tuple #[.agg #[.slice none 0 0, .slice none 0 0], .int .i64 0, .int .i64 170]) ?_)
    exact fun w' hw => by rw [(addN_no (addV_mask q6 hg329 q357) (by decide)), addV_mask q6 hg329 q357]; exact ⟨none, 0, 0, [], none, 0, 0, [], rfl, SlO.nil, SlO.nil, hw.below, hw.sub (List.nil_sublist _)⟩
   ·
    refine cD (.int .i64 0) Try.call48 (fun w hw => by have := mask_d h s w; rw [q357] at this; exact this) (qo0 2 [] [0, 1, 2, 3] [(21, .bool false)] (on_ (ds_ (f_ (sq_ ?_)))))
    by_cases q383 : ((m : Nat) : Int) = (16 : Int)
    ·
     refine cq [(3, .go (owns 0 1 1)), (5, .yes)] [0, 1, 2, 3] [(25, .bool true)] ([((m : Nat) : Int) = (16 : Int)]) rfl (by kernel_rfl) (by kernel_rfl) (by kernel_rfl) (al1 q383) (ds_ (t_ (sq_ (qa0 [] [] [(5, .int .i64 6)] (ds_ (bk ([]) (.int .i64 6) (qo0 1 [] [4, 7] [(8, .int .i64 6)] (on_ (ds_ (sq_ (qa0 [] [4, 7, 8] [(37, .bool true)] (ds_ (t_ (sq_ (qa0 [(2, .go (owns 3 0 2))] [4] [(5, .int .i64 6)] (ds_ (bk (owns 3 0 2) (.tuple #[.agg #[.slice none 0 0, .slice none 0 0], .int .i64 6]) (mo0 6 [(7, .go (owns 0 0 2))] [6, 9] (fun γ389 => [(10, .pointer (some ⟨γ389 0, 0, none⟩)), (11, .int .i64 6)]) (fun γ389 L => bx (γ389 0) (#[.slice none 0 0, .slice none 0 0]) 25 :: L) (fun γ389 => on_ (ds_ (sq_ ?_)))))))))))))))))))))
     refine at_any (by kernel_rfl) ?_
     refine tk (m := 5) [2] [] [6, 9, 10] [(20, .int .i64 6)] ([]) #[false, false, true, false, false, false] al0 ?_
     refine any_cut 0 #[true, true, true, true, true, true] ([(6, .pointer (some ⟨γ1 3, 0, none⟩)), (7, .int .i64 0), (8, .int .i64 6)]) ([bx (γ389 0) (#[.slice none 0 0, .slice none 0 0]) 25, bx (γ213 0) (#[.slice (some ⟨g93, 0, none⟩) n n, .slice (some ⟨g173, 0, none⟩) m m]) 25, bx g173 ((sets c173 0 (vs.flatMap Enc.enc))) 43, bx g93 ((sets c93 0 (ds.flatMap Enc.enc))) 32, bx (γ4 1) (#[.slice none 0 0, .slice none 0 0]) 25, bx (γ4 0) (#[.slice p n cap, .slice q m capv]) 25, bx (γ2 0) (#[.int .i64 0]) 3, bx (γ1 3) (#[.slice none 0 0, .slice none 0 0]) 25, bx (γ1 2) (#[.int .u32 h, .int .u32 s]) 41, bx (γ1 1) (#[.int .i64 k]) 3, bx (γ1 0) (#[.slice p n cap, .slice q m capv]) 25]) ?_ (fun hm => ?_)
     rotate_left
     ·
      refine any_fork [0, 1] (by kernel_rfl) (by simp) (each_cons _ rfl ?_ (each_cons _ rfl ?_ (each_nil)))
      ·
       refine qo0 1 [(0, .go (owns 0 0 2))] [6, 9, 20] [(18, .agg #[.slice none 0 0, .slice none 0 0])] ?_
       refine od_ ?_
       refine any_fork [1, 3] (by kernel_rfl) (by simp) (each_cons _ rfl ?_ (each_cons _ rfl ?_ (each_nil)))
       ·
        refine qo0 1 [(1, .go (owns 6 0 1))] [6, 18, 20] [(19, .int .i64 0)] ?_
        refine od_ ?_
        refine a1 3 rfl ?_
        refine qo0 1 [(3, .go (owns 7 0 2))] [6, 19, 20] [] ?_
        refine od_ ?_
        refine tk (m := 0) [4, 5] [] [6] [(7, .int .i64 0), (8, .int .i64 6)] ([]) #[true, true, true, true, true, true] al0 ?_
        exact any_weak hm [6, 7, 8] (by kernel_rfl) rfl rfl rfl
       ·
        refine qo0 1 [(3, .go (owns 7 0 2))] [6, 9, 20] [] ?_
        refine od_ ?_
        refine a1 1 rfl ?_
        refine qo0 1 [(1, .go (owns 6 0 1))] [6, 20] [(19, .int .i64 0)] ?_
        refine od_ ?_
        refine tk (m := 0) [4, 5] [] [6] [(7, .int .i64 0), (8, .int .i64 6)] ([]) #[true, true, true, true, true, true] al0 ?_
        exact any_weak hm [6, 7, 8] (by kernel_rfl) rfl rfl rfl
      ·
       refine qo0 1 [(1, .go (owns 6 0 1))] [6, 10, 20] [(19, .int .i64 0)] ?_
       refine od_ ?_
       refine a1 0 rfl ?_
       refine qo0 1 [(0, .go (owns 0 0 2))] [6, 19, 20] [(18, .agg #[.slice none 0 0, .slice none 0 0])] ?_
       refine od_ ?_
       refine a1 3 rfl ?_
       refine qo0 1 [(3, .go (owns 7 0 2))] [6, 19, 20] [] ?_
       refine od_ ?_
       refine tk (m := 0) [4, 5] [] [6] [(7, .int .i64 0), (8, .int .i64 6)] ([]) #[true, true, true, true, true, true] al0 ?_
       exact any_weak hm [6, 7, 8] (by kernel_rfl) rfl rfl rfl
     refine any_nil (by kernel_rfl) ?_
     refine ds_ (rt (owns 7 0 2) (.tuple #[.agg #[.slice none 0 0, .slice none 0 0], .int .i64 0, .int .i64 6]) ?_)
     exact fun w' hw => by rw [(addN_no (addV_full q6 hg329 q357 (.inl (by omega))) (by decide)), addV_full q6 hg329 q357 (.inl (by omega))]; exact ⟨none, 0, 0, [], none, 0, 0, [], rfl, SlO.nil, SlO.nil, hw.below, hw.sub (List.nil_sublist _)⟩
    ·
     refine at_calm rfl (by kernel_rfl) (by kernel_rfl) ?_
     refine cm 11 [(3, .go (owns 0 1 1)), (5, .no), (9, .go (owns 0 0 2)), (10, .go (owns 8 0 1))] [0, 1, 2, 3] [(32, .bool false), (35, .agg #[.slice (some ⟨g93, 0, none⟩) n n, .slice (some ⟨g173, 0, none⟩) m m]), (36, .int .i64 k)] ([¬ (((m : Nat) : Int) = (16 : Int))]) (by kernel_rfl) rfl (al1 q383) ?_
     refine cK (.int .i64 ((cntV vs k : Nat))) Try.call46 (fun w hw => count_d (some ⟨g93, 0, none⟩) n n ds (some ⟨g173, 0, none⟩) m m vs k w (hO324.atN (A := [_]) hw) hm (by omega)) ?_
     by_cases q409 : ((cntV vs k : Nat) : Int) = (8 : Int)
     ·
      refine cm 3 [(12, .yes)] [0, 1, 2, 3] [(25, .bool true)] ([((cntV vs k : Nat) : Int) = (8 : Int)]) (by kernel_rfl) rfl (al1 q409) ?_
      refine calm_nil' ?_
      refine ds_ (t_ (sq_ (qa0 [] [] [(5, .int .i64 6)] (ds_ (bk ([]) (.int .i64 6) (qo0 1 [] [4, 7] [(8, .int .i64 6)] (on_ (ds_ (sq_ (qa0 [] [4, 7, 8] [(37, .bool true)] (ds_ (t_ (sq_ (qa0 [(2, .go (owns 3 0 2))] [4] [(5, .int .i64 6)] (ds_ (bk (owns 3 0 2) (.tuple #[.agg #[.slice none 0 0, .slice none 0 0], .int .i64 6]) (mo0 6 [(7, .go (owns 0 0 2))] [6, 9] (fun γ415 => [(10, .pointer (some ⟨γ415 0, 0, none⟩)), (11, .int .i64 6)]) (fun γ415 L => bx (γ415 0) (#[.slice none 0 0, .slice none 0 0]) 25 :: L) (fun γ415 => on_ (ds_ (sq_ ?_))))))))))))))))))))
      refine at_any (by kernel_rfl) ?_
      refine tk (m := 5) [2] [] [6, 9, 10] [(20, .int .i64 6)] ([]) #[false, false, true, false, false, false] al0 ?_
      refine any_cut 0 #[true, true, true, true, true, true] ([(6, .pointer (some ⟨γ1 3, 0, none⟩)), (7, .int .i64 0), (8, .int .i64 6)]) ([bx (γ415 0) (#[.slice none 0 0, .slice none 0 0]) 25, bx (γ213 0) (#[.slice (some ⟨g93, 0, none⟩) n n, .slice (some ⟨g173, 0, none⟩) m m]) 25, bx g173 ((sets c173 0 (vs.flatMap Enc.enc))) 43, bx g93 ((sets c93 0 (ds.flatMap Enc.enc))) 32, bx (γ4 1) (#[.slice none 0 0, .slice none 0 0]) 25, bx (γ4 0) (#[.slice p n cap, .slice q m capv]) 25, bx (γ2 0) (#[.int .i64 0]) 3, bx (γ1 3) (#[.slice none 0 0, .slice none 0 0]) 25, bx (γ1 2) (#[.int .u32 h, .int .u32 s]) 41, bx (γ1 1) (#[.int .i64 k]) 3, bx (γ1 0) (#[.slice p n cap, .slice q m capv]) 25]) ?_ (fun hm => ?_)
      rotate_left
      ·
       refine any_fork [0, 1] (by kernel_rfl) (by simp) (each_cons _ rfl ?_ (each_cons _ rfl ?_ (each_nil)))
       ·
        refine qo0 1 [(0, .go (owns 0 0 2))] [6, 9, 20] [(18, .agg #[.slice none 0 0, .slice none 0 0])] ?_
        refine od_ ?_
        refine any_fork [1, 3] (by kernel_rfl) (by simp) (each_cons _ rfl ?_ (each_cons _ rfl ?_ (each_nil)))
        ·
         refine qo0 1 [(1, .go (owns 6 0 1))] [6, 18, 20] [(19, .int .i64 0)] ?_
         refine od_ ?_
         refine a1 3 rfl ?_
         refine qo0 1 [(3, .go (owns 7 0 2))] [6, 19, 20] [] ?_
         refine od_ ?_
         refine tk (m := 0) [4, 5] [] [6] [(7, .int .i64 0), (8, .int .i64 6)] ([]) #[true, true, true, true, true, true] al0 ?_
         exact any_weak hm [6, 7, 8] (by kernel_rfl) rfl rfl rfl
        ·
         refine qo0 1 [(3, .go (owns 7 0 2))] [6, 9, 20] [] ?_
         refine od_ ?_
         refine a1 1 rfl ?_
         refine qo0 1 [(1, .go (owns 6 0 1))] [6, 20] [(19, .int .i64 0)] ?_
         refine od_ ?_
         refine tk (m := 0) [4, 5] [] [6] [(7, .int .i64 0), (8, .int .i64 6)] ([]) #[true, true, true, true, true, true] al0 ?_
         exact any_weak hm [6, 7, 8] (by kernel_rfl) rfl rfl rfl
       ·
        refine qo0 1 [(1, .go (owns 6 0 1))] [6, 10, 20] [(19, .int .i64 0)] ?_
        refine od_ ?_
        refine a1 0 rfl ?_
        refine qo0 1 [(0, .go (owns 0 0 2))] [6, 19, 20] [(18, .agg #[.slice none 0 0, .slice none 0 0])] ?_
        refine od_ ?_
        refine a1 3 rfl ?_
        refine qo0 1 [(3, .go (owns 7 0 2))] [6, 19, 20] [] ?_
        refine od_ ?_
        refine tk (m := 0) [4, 5] [] [6] [(7, .int .i64 0), (8, .int .i64 6)] ([]) #[true, true, true, true, true, true] al0 ?_
        exact any_weak hm [6, 7, 8] (by kernel_rfl) rfl rfl rfl
      refine any_nil (by kernel_rfl) ?_
      refine ds_ (rt (owns 7 0 2) (.tuple #[.agg #[.slice none 0 0, .slice none 0 0], .int .i64 0, .int .i64 6]) ?_)
      exact fun w' hw => by rw [(addN_no (addV_full q6 hg329 q357 (.inr (by omega))) (by decide)), addV_full q6 hg329 q357 (.inr (by omega))]; exact ⟨none, 0, 0, [], none, 0, 0, [], rfl, SlO.nil, SlO.nil, hw.below, hw.sub (List.nil_sublist _)⟩
     ·
      refine cm 3 [(12, .no)] [0, 1, 2, 3] [(25, .bool false)] ([¬ (((cntV vs k : Nat) : Int) = (8 : Int))]) (by kernel_rfl) rfl (al1 q409) ?_
      refine calm_nil' ?_
      refine ds_ (f_ (at_skip (done_block (ds_ (sq_ (qa0 [] [0, 1, 2, 3] [(8, .int .i64 0)] (ds_ (sq_ (at_block (at_loop (α := Nat) [0, 1, 2, 3, 8] (fun j => [(0, .pointer (some ⟨γ213 0, 0, none⟩)), (1, .pointer (some ⟨γ1 1, 0, none⟩)), (2, .pointer (some ⟨γ1 2, 0, none⟩)), (3, .pointer (some ⟨γ2 0, 0, none⟩)), (8, .int .i64 ((j : Nat)))]) (fun j => [bx (γ213 0) (#[.slice (some ⟨g93, 0, none⟩) n n, .slice (some ⟨g173, 0, none⟩) m m]) 25, bx g173 ((sets c173 0 (vs.flatMap Enc.enc))) 43, bx g93 ((sets c93 0 (ds.flatMap Enc.enc))) 32, bx (γ4 1) (#[.slice none 0 0, .slice none 0 0]) 25, bx (γ4 0) (#[.slice p n cap, .slice q m capv]) 25, bx (γ2 0) (#[.int .i64 0]) 3, bx (γ1 3) (#[.slice none 0 0, .slice none 0 0]) 25, bx (γ1 2) (#[.int .u32 h, .int .u32 s]) 41, bx (γ1 1) (#[.int .i64 k]) 3, bx (γ1 0) (#[.slice p n cap, .slice q m capv]) 25]) (fun j => j ≤ m ∧ gapV (vs.drop j) j = gapV vs 0) (fun j => m - j) 0 (by kernel_rfl) rfl ⟨Nat.zero_le _, by rw [List.drop_zero]⟩ ?_))))))))))
      rintro j
      rintro ⟨hj, hI⟩
      refine sq_ (sq_ ?_)
      by_cases q436 : ((j : Nat) : Int) < ((m : Nat) : Int)
      ·
       obtain ⟨x438, hx438⟩ := get_some (l := vs) (m := j) (by omega)
       by_cases q440 : (x438.id : Int) = ((j + 1 : Nat) : Int)
       ·
        refine qa [(4, .go (owns 0 1 1)), (6, .yes), (11, .go (owns 0 1 1)), (13, .at g173 0 j), (15, .go (ownps 1 (0 + j * 4) [.int .i64 x438.id])), (17, .fit), (18, .yes)] [0, 1, 2, 3, 8] [(59, .bool true)] ([((j : Nat) : Int) < ((m : Nat) : Int)] ++ ([(some ⟨g173, 0, none⟩ : Option Addr) = some ⟨g173, 0, none⟩, ((j : Nat)) = ((j : Nat) : Int), j < m] ++ (acellsP ((sets c173 0 (vs.flatMap Enc.enc))) (0 + j * 4) [.int .i64 x438.id] ++ ([Fit .i64 ((j + 1 : Nat))] ++ ([(x438.id : Int) = ((j + 1 : Nat) : Int)]))))) (alA (al1 q436) (alA (al2 rfl (al2 rfl (al1 (by omega)))) (alA (rda_pre ((hOw324.rdx hm hx438)) _ rfl) (alA (al1 (fit64 (by omega) (by omega))) (al1 q440))))) (ds_ (t_ (at_skip (ds_ (at_block (qa [(1, .fit)] [0, 1, 2, 3] [(8, .int .i64 ((j + 1 : Nat)))] ([Fit .i64 ((j + 1 : Nat))]) (al1 (fit64 (by omega) (by omega))) (done_block ?_)))))))
        exact dr [0, 1, 2, 3, 8] (j + 1) ⟨by omega, gap_on hI hx438 (by omega)⟩
       ·
        refine qa [(4, .go (owns 0 1 1)), (6, .yes), (11, .go (owns 0 1 1)), (13, .at g173 0 j), (15, .go (ownps 1 (0 + j * 4) [.int .i64 x438.id])), (17, .fit), (18, .no)] [0, 1, 2, 3, 8] [(59, .bool false)] ([((j : Nat) : Int) < ((m : Nat) : Int)] ++ ([(some ⟨g173, 0, none⟩ : Option Addr) = some ⟨g173, 0, none⟩, ((j : Nat)) = ((j : Nat) : Int), j < m] ++ (acellsP ((sets c173 0 (vs.flatMap Enc.enc))) (0 + j * 4) [.int .i64 x438.id] ++ ([Fit .i64 ((j + 1 : Nat))] ++ ([¬ ((x438.id : Int) = ((j + 1 : Nat) : Int))]))))) (alA (al1 q436) (alA (al2 rfl (al2 rfl (al1 (by omega)))) (alA (rda_pre ((hOw324.rdx hm hx438)) _ rfl) (alA (al1 (fit64 (by omega) (by omega))) (al1 q440))))) (ds_ (f_ (at_leave _ rfl (ds_ (sq_ (ma [(1, .fit), (2, .go (owns 5 0 1))] [0, 1, 2, 3, 8] (fun _ => []) (fun _ L => (L.set 5 (bx (γ2 0) (#[.int .i64 ((j + 1 : Nat))]) 3))) (fun _ => [Fit .i64 ((j + 1 : Nat))]) (fun _ => (al1 (fit64 (by omega) (by omega)))) (fun _ => ds_ (sq_ ?_))))))))
        refine at_any (by kernel_rfl) ?_
        refine tk (m := 10) [0, 1, 2, 3, 5] [] [1, 2, 3] [(64, .pointer (some ⟨γ213 0, 0, none⟩)), (67, .pointer (some ⟨γ213 0, 1, none⟩)), (69, .int .i64 ((j : Nat)))] ([]) #[true, true, true, true, false, true, false, false, false, false, false, false, false, false, false] al0 ?_
        refine any_cutG 4 #[true, true, true, true, true, true, true, true, true, true, true, false, false, false, false] (fun γ452 => [(64, .pointer (some ⟨γ213 0, 0, none⟩)), (68, .slice (some ⟨g173, 0, none⟩) m m), (69, .int .i64 ((j : Nat))), (74, .slice (some ⟨γ452 0, 0, none⟩) 1 1)]) (fun γ452 => [bx (γ452 0) (#[.int .i64 ((j + 1 : Nat)), .int .i64 k, .int .u32 h, .int .u32 s]) 43, bx (γ213 0) (#[.slice (some ⟨g93, 0, none⟩) n n, .slice (some ⟨g173, 0, none⟩) m m]) 25, bx g173 ((sets c173 0 (vs.flatMap Enc.enc))) 43, bx g93 ((sets c93 0 (ds.flatMap Enc.enc))) 32, bx (γ4 1) (#[.slice none 0 0, .slice none 0 0]) 25, bx (γ4 0) (#[.slice p n cap, .slice q m capv]) 25, bx (γ2 0) (#[.int .i64 ((j + 1 : Nat))]) 3, bx (γ1 3) (#[.slice none 0 0, .slice none 0 0]) 25, bx (γ1 2) (#[.int .u32 h, .int .u32 s]) 41, bx (γ1 1) (#[.int .i64 k]) 3, bx (γ1 0) (#[.slice p n cap, .slice q m capv]) 25]) (fun γ452 => ?_) (fun hm => ?_)
        rotate_left
        ·
         refine any_fork [4, 6, 7, 8] (by kernel_rfl) (by simp) (each_cons _ rfl ?_ (each_cons _ rfl ?_ (each_cons _ rfl ?_ (each_cons _ rfl ?_ (each_nil)))))
         ·
          refine qo0 1 [(4, .go (owns 0 1 1))] [1, 2, 3, 64, 69] [(68, .slice (some ⟨g173, 0, none⟩) m m)] ?_
          refine od_ ?_
          refine any_fork [6, 7, 8] (by kernel_rfl) (by simp) (each_cons _ rfl ?_ (each_cons _ rfl ?_ (each_cons _ rfl ?_ (each_nil))))
          ·
           refine qo0 1 [(6, .go (owns 5 0 1))] [1, 2, 64, 68, 69] [(70, .int .i64 ((j + 1 : Nat)))] ?_
           refine od_ ?_
           refine any_fork [7, 8] (by kernel_rfl) (by simp) (each_cons _ rfl ?_ (each_cons _ rfl ?_ (each_nil)))
           ·
            refine qo0 1 [(7, .go (owns 8 0 1))] [2, 64, 68, 69, 70] [(71, .int .i64 k)] ?_
            refine od_ ?_
            refine a1 8 rfl ?_
            refine qo0 1 [(8, .go (owns 7 0 2))] [64, 68, 69, 70, 71] [(72, .agg #[.int .u32 h, .int .u32 s])] ?_
            refine od_ ?_
            refine tk (m := 5) [9] [] [64, 68, 69] [(73, .agg #[.int .i64 ((j + 1 : Nat)), .int .i64 k, .int .u32 h, .int .u32 s])] ([]) #[true, true, true, true, true, true, true, true, true, true, false, false, false, false, false] al0 ?_
            refine a1 10 rfl ?_
            refine mo0 1 [] [64, 68, 69] (fun γ458 => [(74, .slice (some ⟨γ458 0, 0, none⟩) 1 1)]) (fun γ458 L => bx (γ458 0) (#[.int .i64 ((j + 1 : Nat)), .int .i64 k, .int .u32 h, .int .u32 s]) 43 :: L) (fun γ458 => ?_)
            refine od_ ?_
            exact any_weak (hm fun i => [γ458 0].getD i 0) [64, 68, 69, 74] (by kernel_rfl) rfl rfl rfl
           ·
            refine qo0 1 [(8, .go (owns 7 0 2))] [1, 64, 68, 69, 70] [(72, .agg #[.int .u32 h, .int .u32 s])] ?_
            refine od_ ?_
            refine a1 7 rfl ?_
            refine qo0 1 [(7, .go (owns 8 0 1))] [64, 68, 69, 70, 72] [(71, .int .i64 k)] ?_
            refine od_ ?_
            refine tk (m := 5) [9] [] [64, 68, 69] [(73, .agg #[.int .i64 ((j + 1 : Nat)), .int .i64 k, .int .u32 h, .int .u32 s])] ([]) #[true, true, true, true, true, true, true, true, true, true, false, false, false, false, false] al0 ?_
            refine a1 10 rfl ?_
            refine mo0 1 [] [64, 68, 69] (fun γ462 => [(74, .slice (some ⟨γ462 0, 0, none⟩) 1 1)]) (fun γ462 L => bx (γ462 0) (#[.int .i64 ((j + 1 : Nat)), .int .i64 k, .int .u32 h, .int .u32 s]) 43 :: L) (fun γ462 => ?_)
            refine od_ ?_
            exact any_weak (hm fun i => [γ462 0].getD i 0) [64, 68, 69, 74] (by kernel_rfl) rfl rfl rfl
          ·
           refine qo0 1 [(7, .go (owns 8 0 1))] [2, 3, 64, 68, 69] [(71, .int .i64 k)] ?_
           refine od_ ?_
           refine any_fork [6, 8] (by kernel_rfl) (by simp) (each_cons _ rfl ?_ (each_cons _ rfl ?_ (each_nil)))
           ·
            refine qo0 1 [(6, .go (owns 5 0 1))] [2, 64, 68, 69, 71] [(70, .int .i64 ((j + 1 : Nat)))] ?_
            refine od_ ?_
            refine a1 8 rfl ?_
            refine qo0 1 [(8, .go (owns 7 0 2))] [64, 68, 69, 70, 71] [(72, .agg #[.int .u32 h, .int .u32 s])] ?_
            refine od_ ?_
            refine tk (m := 5) [9] [] [64, 68, 69] [(73, .agg #[.int .i64 ((j + 1 : Nat)), .int .i64 k, .int .u32 h, .int .u32 s])] ([]) #[true, true, true, true, true, true, true, true, true, true, false, false, false, false, false] al0 ?_
            refine a1 10 rfl ?_
            refine mo0 1 [] [64, 68, 69] (fun γ467 => [(74, .slice (some ⟨γ467 0, 0, none⟩) 1 1)]) (fun γ467 L => bx (γ467 0) (#[.int .i64 ((j + 1 : Nat)), .int .i64 k, .int .u32 h, .int .u32 s]) 43 :: L) (fun γ467 => ?_)
            refine od_ ?_
            exact any_weak (hm fun i => [γ467 0].getD i 0) [64, 68, 69, 74] (by kernel_rfl) rfl rfl rfl
           ·
            refine qo0 1 [(8, .go (owns 7 0 2))] [3, 64, 68, 69, 71] [(72, .agg #[.int .u32 h, .int .u32 s])] ?_
            refine od_ ?_
            refine a1 6 rfl ?_
            refine qo0 1 [(6, .go (owns 5 0 1))] [64, 68, 69, 71, 72] [(70, .int .i64 ((j + 1 : Nat)))] ?_
            refine od_ ?_
            refine tk (m := 5) [9] [] [64, 68, 69] [(73, .agg #[.int .i64 ((j + 1 : Nat)), .int .i64 k, .int .u32 h, .int .u32 s])] ([]) #[true, true, true, true, true, true, true, true, true, true, false, false, false, false, false] al0 ?_
            refine a1 10 rfl ?_
            refine mo0 1 [] [64, 68, 69] (fun γ471 => [(74, .slice (some ⟨γ471 0, 0, none⟩) 1 1)]) (fun γ471 L => bx (γ471 0) (#[.int .i64 ((j + 1 : Nat)), .int .i64 k, .int .u32 h, .int .u32 s]) 43 :: L) (fun γ471 => ?_)
            refine od_ ?_
            exact any_weak (hm fun i => [γ471 0].getD i 0) [64, 68, 69, 74] (by kernel_rfl) rfl rfl rfl
          ·
           refine qo0 1 [(8, .go (owns 7 0 2))] [1, 3, 64, 68, 69] [(72, .agg #[.int .u32 h, .int .u32 s])] ?_
           refine od_ ?_
           refine any_fork [6, 7] (by kernel_rfl) (by simp) (each_cons _ rfl ?_ (each_cons _ rfl ?_ (each_nil)))
           ·
            refine qo0 1 [(6, .go (owns 5 0 1))] [1, 64, 68, 69, 72] [(70, .int .i64 ((j + 1 : Nat)))] ?_
            refine od_ ?_
            refine a1 7 rfl ?_
            refine qo0 1 [(7, .go (owns 8 0 1))] [64, 68, 69, 70, 72] [(71, .int .i64 k)] ?_
            refine od_ ?_
            refine tk (m := 5) [9] [] [64, 68, 69] [(73, .agg #[.int .i64 ((j + 1 : Nat)), .int .i64 k, .int .u32 h, .int .u32 s])] ([]) #[true, true, true, true, true, true, true, true, true, true, false, false, false, false, false] al0 ?_
            refine a1 10 rfl ?_
            refine mo0 1 [] [64, 68, 69] (fun γ476 => [(74, .slice (some ⟨γ476 0, 0, none⟩) 1 1)]) (fun γ476 L => bx (γ476 0) (#[.int .i64 ((j + 1 : Nat)), .int .i64 k, .int .u32 h, .int .u32 s]) 43 :: L) (fun γ476 => ?_)
            refine od_ ?_
            exact any_weak (hm fun i => [γ476 0].getD i 0) [64, 68, 69, 74] (by kernel_rfl) rfl rfl rfl
           ·
            refine qo0 1 [(7, .go (owns 8 0 1))] [3, 64, 68, 69, 72] [(71, .int .i64 k)] ?_
            refine od_ ?_
            refine a1 6 rfl ?_
            refine qo0 1 [(6, .go (owns 5 0 1))] [64, 68, 69, 71, 72] [(70, .int .i64 ((j + 1 : Nat)))] ?_
            refine od_ ?_
            refine tk (m := 5) [9] [] [64, 68, 69] [(73, .agg #[.int .i64 ((j + 1 : Nat)), .int .i64 k, .int .u32 h, .int .u32 s])] ([]) #[true, true, true, true, true, true, true, true, true, true, false, false, false, false, false] al0 ?_
            refine a1 10 rfl ?_
            refine mo0 1 [] [64, 68, 69] (fun γ480 => [(74, .slice (some ⟨γ480 0, 0, none⟩) 1 1)]) (fun γ480 L => bx (γ480 0) (#[.int .i64 ((j + 1 : Nat)), .int .i64 k, .int .u32 h, .int .u32 s]) 43 :: L) (fun γ480 => ?_)
            refine od_ ?_
            exact any_weak (hm fun i => [γ480 0].getD i 0) [64, 68, 69, 74] (by kernel_rfl) rfl rfl rfl
         ·
          refine qo0 1 [(6, .go (owns 5 0 1))] [1, 2, 64, 67, 69] [(70, .int .i64 ((j + 1 : Nat)))] ?_
          refine od_ ?_
          refine any_fork [4, 7, 8] (by kernel_rfl) (by simp) (each_cons _ rfl ?_ (each_cons _ rfl ?_ (each_cons _ rfl ?_ (each_nil))))
          ·
           refine qo0 1 [(4, .go (owns 0 1 1))] [1, 2, 64, 69, 70] [(68, .slice (some ⟨g173, 0, none⟩) m m)] ?_
           refine od_ ?_
           refine any_fork [7, 8] (by kernel_rfl) (by simp) (each_cons _ rfl ?_ (each_cons _ rfl ?_ (each_nil)))
           ·
            refine qo0 1 [(7, .go (owns 8 0 1))] [2, 64, 68, 69, 70] [(71, .int .i64 k)] ?_
            refine od_ ?_
            refine a1 8 rfl ?_
            refine qo0 1 [(8, .go (owns 7 0 2))] [64, 68, 69, 70, 71] [(72, .agg #[.int .u32 h, .int .u32 s])] ?_
            refine od_ ?_
            refine tk (m := 5) [9] [] [64, 68, 69] [(73, .agg #[.int .i64 ((j + 1 : Nat)), .int .i64 k, .int .u32 h, .int .u32 s])] ([]) #[true, true, true, true, true, true, true, true, true, true, false, false, false, false, false] al0 ?_
            refine a1 10 rfl ?_
            refine mo0 1 [] [64, 68, 69] (fun γ486 => [(74, .slice (some ⟨γ486 0, 0, none⟩) 1 1)]) (fun γ486 L => bx (γ486 0) (#[.int .i64 ((j + 1 : Nat)), .int .i64 k, .int .u32 h, .int .u32 s]) 43 :: L) (fun γ486 => ?_)
            refine od_ ?_
            exact any_weak (hm fun i => [γ486 0].getD i 0) [64, 68, 69, 74] (by kernel_rfl) rfl rfl rfl
           ·
            refine qo0 1 [(8, .go (owns 7 0 2))] [1, 64, 68, 69, 70] [(72, .agg #[.int .u32 h, .int .u32 s])] ?_
            refine od_ ?_
            refine a1 7 rfl ?_
            refine qo0 1 [(7, .go (owns 8 0 1))] [64, 68, 69, 70, 72] [(71, .int .i64 k)] ?_
            refine od_ ?_
            refine tk (m := 5) [9] [] [64, 68, 69] [(73, .agg #[.int .i64 ((j + 1 : Nat)), .int .i64 k, .int .u32 h, .int .u32 s])] ([]) #[true, true, true, true, true, true, true, true, true, true, false, false, false, false, false] al0 ?_
            refine a1 10 rfl ?_
            refine mo0 1 [] [64, 68, 69] (fun γ490 => [(74, .slice (some ⟨γ490 0, 0, none⟩) 1 1)]) (fun γ490 L => bx (γ490 0) (#[.int .i64 ((j + 1 : Nat)), .int .i64 k, .int .u32 h, .int .u32 s]) 43 :: L) (fun γ490 => ?_)
            refine od_ ?_
            exact any_weak (hm fun i => [γ490 0].getD i 0) [64, 68, 69, 74] (by kernel_rfl) rfl rfl rfl
          ·
           refine qo0 1 [(7, .go (owns 8 0 1))] [2, 64, 67, 69, 70] [(71, .int .i64 k)] ?_
           refine od_ ?_
           refine any_fork [4, 8] (by kernel_rfl) (by simp) (each_cons _ rfl ?_ (each_cons _ rfl ?_ (each_nil)))
           ·
            refine qo0 1 [(4, .go (owns 0 1 1))] [2, 64, 69, 70, 71] [(68, .slice (some ⟨g173, 0, none⟩) m m)] ?_
            refine od_ ?_
            refine a1 8 rfl ?_
            refine qo0 1 [(8, .go (owns 7 0 2))] [64, 68, 69, 70, 71] [(72, .agg #[.int .u32 h, .int .u32 s])] ?_
            refine od_ ?_
            refine tk (m := 5) [9] [] [64, 68, 69] [(73, .agg #[.int .i64 ((j + 1 : Nat)), .int .i64 k, .int .u32 h, .int .u32 s])] ([]) #[true, true, true, true, true, true, true, true, true, true, false, false, false, false, false] al0 ?_
            refine a1 10 rfl ?_
            refine mo0 1 [] [64, 68, 69] (fun γ495 => [(74, .slice (some ⟨γ495 0, 0, none⟩) 1 1)]) (fun γ495 L => bx (γ495 0) (#[.int .i64 ((j + 1 : Nat)), .int .i64 k, .int .u32 h, .int .u32 s]) 43 :: L) (fun γ495 => ?_)
            refine od_ ?_
            exact any_weak (hm fun i => [γ495 0].getD i 0) [64, 68, 69, 74] (by kernel_rfl) rfl rfl rfl
           ·
            refine qo0 1 [(8, .go (owns 7 0 2))] [64, 67, 69, 70, 71] [(72, .agg #[.int .u32 h, .int .u32 s])] ?_
            refine od_ ?_
            refine tk (m := 6) [9] [] [64, 67, 69] [(73, .agg #[.int .i64 ((j + 1 : Nat)), .int .i64 k, .int .u32 h, .int .u32 s])] ([]) #[true, true, true, true, false, true, true, true, true, true, false, false, false, false, false] al0 ?_
            refine any_fork [4, 10] (by kernel_rfl) (by simp) (each_cons _ rfl ?_ (each_cons _ rfl ?_ (each_nil)))
            ·
             refine qo0 1 [(4, .go (owns 0 1 1))] [64, 69, 73] [(68, .slice (some ⟨g173, 0, none⟩) m m)] ?_
             refine od_ ?_
             refine a1 10 rfl ?_
             refine mo0 1 [] [64, 68, 69] (fun γ499 => [(74, .slice (some ⟨γ499 0, 0, none⟩) 1 1)]) (fun γ499 L => bx (γ499 0) (#[.int .i64 ((j + 1 : Nat)), .int .i64 k, .int .u32 h, .int .u32 s]) 43 :: L) (fun γ499 => ?_)
             refine od_ ?_
             exact any_weak (hm fun i => [γ499 0].getD i 0) [64, 68, 69, 74] (by kernel_rfl) rfl rfl rfl
            ·
             refine mo0 1 [] [64, 67, 69] (fun γ500 => [(74, .slice (some ⟨γ500 0, 0, none⟩) 1 1)]) (fun γ500 L => bx (γ500 0) (#[.int .i64 ((j + 1 : Nat)), .int .i64 k, .int .u32 h, .int .u32 s]) 43 :: L) (fun γ500 => ?_)
             refine od_ ?_
             refine a1 4 rfl ?_
             refine qo0 1 [(4, .go (owns 1 1 1))] [64, 69, 74] [(68, .slice (some ⟨g173, 0, none⟩) m m)] ?_
             refine od_ ?_
             exact any_weak (hm fun i => [γ500 0].getD i 0) [64, 68, 69, 74] (by kernel_rfl) rfl rfl rfl
          ·
           refine qo0 1 [(8, .go (owns 7 0 2))] [1, 64, 67, 69, 70] [(72, .agg #[.int .u32 h, .int .u32 s])] ?_
           refine od_ ?_
           refine any_fork [4, 7] (by kernel_rfl) (by simp) (each_cons _ rfl ?_ (each_cons _ rfl ?_ (each_nil)))
           ·
            refine qo0 1 [(4, .go (owns 0 1 1))] [1, 64, 69, 70, 72] [(68, .slice (some ⟨g173, 0, none⟩) m m)] ?_
            refine od_ ?_
            refine a1 7 rfl ?_
            refine qo0 1 [(7, .go (owns 8 0 1))] [64, 68, 69, 70, 72] [(71, .int .i64 k)] ?_
            refine od_ ?_
            refine tk (m := 5) [9] [] [64, 68, 69] [(73, .agg #[.int .i64 ((j + 1 : Nat)), .int .i64 k, .int .u32 h, .int .u32 s])] ([]) #[true, true, true, true, true, true, true, true, true, true, false, false, false, false, false] al0 ?_
            refine a1 10 rfl ?_
            refine mo0 1 [] [64, 68, 69] (fun γ506 => [(74, .slice (some ⟨γ506 0, 0, none⟩) 1 1)]) (fun γ506 L => bx (γ506 0) (#[.int .i64 ((j + 1 : Nat)), .int .i64 k, .int .u32 h, .int .u32 s]) 43 :: L) (fun γ506 => ?_)
            refine od_ ?_
            exact any_weak (hm fun i => [γ506 0].getD i 0) [64, 68, 69, 74] (by kernel_rfl) rfl rfl rfl
           ·
            refine qo0 1 [(7, .go (owns 8 0 1))] [64, 67, 69, 70, 72] [(71, .int .i64 k)] ?_
            refine od_ ?_
            refine tk (m := 6) [9] [] [64, 67, 69] [(73, .agg #[.int .i64 ((j + 1 : Nat)), .int .i64 k, .int .u32 h, .int .u32 s])] ([]) #[true, true, true, true, false, true, true, true, true, true, false, false, false, false, false] al0 ?_
            refine any_fork [4, 10] (by kernel_rfl) (by simp) (each_cons _ rfl ?_ (each_cons _ rfl ?_ (each_nil)))
            ·
             refine qo0 1 [(4, .go (owns 0 1 1))] [64, 69, 73] [(68, .slice (some ⟨g173, 0, none⟩) m m)] ?_
             refine od_ ?_
             refine a1 10 rfl ?_
             refine mo0 1 [] [64, 68, 69] (fun γ510 => [(74, .slice (some ⟨γ510 0, 0, none⟩) 1 1)]) (fun γ510 L => bx (γ510 0) (#[.int .i64 ((j + 1 : Nat)), .int .i64 k, .int .u32 h, .int .u32 s]) 43 :: L) (fun γ510 => ?_)
             refine od_ ?_
             exact any_weak (hm fun i => [γ510 0].getD i 0) [64, 68, 69, 74] (by kernel_rfl) rfl rfl rfl
            ·
             refine mo0 1 [] [64, 67, 69] (fun γ511 => [(74, .slice (some ⟨γ511 0, 0, none⟩) 1 1)]) (fun γ511 L => bx (γ511 0) (#[.int .i64 ((j + 1 : Nat)), .int .i64 k, .int .u32 h, .int .u32 s]) 43 :: L) (fun γ511 => ?_)
             refine od_ ?_
             refine a1 4 rfl ?_
             refine qo0 1 [(4, .go (owns 1 1 1))] [64, 69, 74] [(68, .slice (some ⟨g173, 0, none⟩) m m)] ?_
             refine od_ ?_
             exact any_weak (hm fun i => [γ511 0].getD i 0) [64, 68, 69, 74] (by kernel_rfl) rfl rfl rfl
         ·
          refine qo0 1 [(7, .go (owns 8 0 1))] [2, 3, 64, 67, 69] [(71, .int .i64 k)] ?_
          refine od_ ?_
          refine any_fork [4, 6, 8] (by kernel_rfl) (by simp) (each_cons _ rfl ?_ (each_cons _ rfl ?_ (each_cons _ rfl ?_ (each_nil))))
          ·
           refine qo0 1 [(4, .go (owns 0 1 1))] [2, 3, 64, 69, 71] [(68, .slice (some ⟨g173, 0, none⟩) m m)] ?_
           refine od_ ?_
           refine any_fork [6, 8] (by kernel_rfl) (by simp) (each_cons _ rfl ?_ (each_cons _ rfl ?_ (each_nil)))
           ·
            refine qo0 1 [(6, .go (owns 5 0 1))] [2, 64, 68, 69, 71] [(70, .int .i64 ((j + 1 : Nat)))] ?_
            refine od_ ?_
            refine a1 8 rfl ?_
            refine qo0 1 [(8, .go (owns 7 0 2))] [64, 68, 69, 70, 71] [(72, .agg #[.int .u32 h, .int .u32 s])] ?_
            refine od_ ?_
            refine tk (m := 5) [9] [] [64, 68, 69] [(73, .agg #[.int .i64 ((j + 1 : Nat)), .int .i64 k, .int .u32 h, .int .u32 s])] ([]) #[true, true, true, true, true, true, true, true, true, true, false, false, false, false, false] al0 ?_
            refine a1 10 rfl ?_
            refine mo0 1 [] [64, 68, 69] (fun γ518 => [(74, .slice (some ⟨γ518 0, 0, none⟩) 1 1)]) (fun γ518 L => bx (γ518 0) (#[.int .i64 ((j + 1 : Nat)), .int .i64 k, .int .u32 h, .int .u32 s]) 43 :: L) (fun γ518 => ?_)
            refine od_ ?_
            exact any_weak (hm fun i => [γ518 0].getD i 0) [64, 68, 69, 74] (by kernel_rfl) rfl rfl rfl
           ·
            refine qo0 1 [(8, .go (owns 7 0 2))] [3, 64, 68, 69, 71] [(72, .agg #[.int .u32 h, .int .u32 s])] ?_
            refine od_ ?_
            refine a1 6 rfl ?_
            refine qo0 1 [(6, .go (owns 5 0 1))] [64, 68, 69, 71, 72] [(70, .int .i64 ((j + 1 : Nat)))] ?_
            refine od_ ?_
            refine tk (m := 5) [9] [] [64, 68, 69] [(73, .agg #[.int .i64 ((j + 1 : Nat)), .int .i64 k, .int .u32 h, .int .u32 s])] ([]) #[true, true, true, true, true, true, true, true, true, true, false, false, false, false, false] al0 ?_
            refine a1 10 rfl ?_
            refine mo0 1 [] [64, 68, 69] (fun γ522 => [(74, .slice (some ⟨γ522 0, 0, none⟩) 1 1)]) (fun γ522 L => bx (γ522 0) (#[.int .i64 ((j + 1 : Nat)), .int .i64 k, .int .u32 h, .int .u32 s]) 43 :: L) (fun γ522 => ?_)
            refine od_ ?_
            exact any_weak (hm fun i => [γ522 0].getD i 0) [64, 68, 69, 74] (by kernel_rfl) rfl rfl rfl
          ·
           refine qo0 1 [(6, .go (owns 5 0 1))] [2, 64, 67, 69, 71] [(70, .int .i64 ((j + 1 : Nat)))] ?_
           refine od_ ?_
           refine any_fork [4, 8] (by kernel_rfl) (by simp) (each_cons _ rfl ?_ (each_cons _ rfl ?_ (each_nil)))
           ·
            refine qo0 1 [(4, .go (owns 0 1 1))] [2, 64, 69, 70, 71] [(68, .slice (some ⟨g173, 0, none⟩) m m)] ?_
            refine od_ ?_
            refine a1 8 rfl ?_
            refine qo0 1 [(8, .go (owns 7 0 2))] [64, 68, 69, 70, 71] [(72, .agg #[.int .u32 h, .int .u32 s])] ?_
            refine od_ ?_
            refine tk (m := 5) [9] [] [64, 68, 69] [(73, .agg #[.int .i64 ((j + 1 : Nat)), .int .i64 k, .int .u32 h, .int .u32 s])] ([]) #[true, true, true, true, true, true, true, true, true, true, false, false, false, false, false] al0 ?_
            refine a1 10 rfl ?_
            refine mo0 1 [] [64, 68, 69] (fun γ527 => [(74, .slice (some ⟨γ527 0, 0, none⟩) 1 1)]) (fun γ527 L => bx (γ527 0) (#[.int .i64 ((j + 1 : Nat)), .int .i64 k, .int .u32 h, .int .u32 s]) 43 :: L) (fun γ527 => ?_)
            refine od_ ?_
            exact any_weak (hm fun i => [γ527 0].getD i 0) [64, 68, 69, 74] (by kernel_rfl) rfl rfl rfl
           ·
            refine qo0 1 [(8, .go (owns 7 0 2))] [64, 67, 69, 70, 71] [(72, .agg #[.int .u32 h, .int .u32 s])] ?_
            refine od_ ?_
            refine tk (m := 6) [9] [] [64, 67, 69] [(73, .agg #[.int .i64 ((j + 1 : Nat)), .int .i64 k, .int .u32 h, .int .u32 s])] ([]) #[true, true, true, true, false, true, true, true, true, true, false, false, false, false, false] al0 ?_
            refine any_fork [4, 10] (by kernel_rfl) (by simp) (each_cons _ rfl ?_ (each_cons _ rfl ?_ (each_nil)))
            ·
             refine qo0 1 [(4, .go (owns 0 1 1))] [64, 69, 73] [(68, .slice (some ⟨g173, 0, none⟩) m m)] ?_
             refine od_ ?_
             refine a1 10 rfl ?_
             refine mo0 1 [] [64, 68, 69] (fun γ531 => [(74, .slice (some ⟨γ531 0, 0, none⟩) 1 1)]) (fun γ531 L => bx (γ531 0) (#[.int .i64 ((j + 1 : Nat)), .int .i64 k, .int .u32 h, .int .u32 s]) 43 :: L) (fun γ531 => ?_)
             refine od_ ?_
             exact any_weak (hm fun i => [γ531 0].getD i 0) [64, 68, 69, 74] (by kernel_rfl) rfl rfl rfl
            ·
             refine mo0 1 [] [64, 67, 69] (fun γ532 => [(74, .slice (some ⟨γ532 0, 0, none⟩) 1 1)]) (fun γ532 L => bx (γ532 0) (#[.int .i64 ((j + 1 : Nat)), .int .i64 k, .int .u32 h, .int .u32 s]) 43 :: L) (fun γ532 => ?_)
             refine od_ ?_
             refine a1 4 rfl ?_
             refine qo0 1 [(4, .go (owns 1 1 1))] [64, 69, 74] [(68, .slice (some ⟨g173, 0, none⟩) m m)] ?_
             refine od_ ?_
             exact any_weak (hm fun i => [γ532 0].getD i 0) [64, 68, 69, 74] (by kernel_rfl) rfl rfl rfl
          ·
           refine qo0 1 [(8, .go (owns 7 0 2))] [3, 64, 67, 69, 71] [(72, .agg #[.int .u32 h, .int .u32 s])] ?_
           refine od_ ?_
           refine any_fork [4, 6] (by kernel_rfl) (by simp) (each_cons _ rfl ?_ (each_cons _ rfl ?_ (each_nil)))
           ·
            refine qo0 1 [(4, .go (owns 0 1 1))] [3, 64, 69, 71, 72] [(68, .slice (some ⟨g173, 0, none⟩) m m)] ?_
            refine od_ ?_
            refine a1 6 rfl ?_
            refine qo0 1 [(6, .go (owns 5 0 1))] [64, 68, 69, 71, 72] [(70, .int .i64 ((j + 1 : Nat)))] ?_
            refine od_ ?_
            refine tk (m := 5) [9] [] [64, 68, 69] [(73, .agg #[.int .i64 ((j + 1 : Nat)), .int .i64 k, .int .u32 h, .int .u32 s])] ([]) #[true, true, true, true, true, true, true, true, true, true, false, false, false, false, false] al0 ?_
            refine a1 10 rfl ?_
            refine mo0 1 [] [64, 68, 69] (fun γ538 => [(74, .slice (some ⟨γ538 0, 0, none⟩) 1 1)]) (fun γ538 L => bx (γ538 0) (#[.int .i64 ((j + 1 : Nat)), .int .i64 k, .int .u32 h, .int .u32 s]) 43 :: L) (fun γ538 => ?_)
            refine od_ ?_
            exact any_weak (hm fun i => [γ538 0].getD i 0) [64, 68, 69, 74] (by kernel_rfl) rfl rfl rfl
           ·
            refine qo0 1 [(6, .go (owns 5 0 1))] [64, 67, 69, 71, 72] [(70, .int .i64 ((j + 1 : Nat)))] ?_
            refine od_ ?_
            refine tk (m := 6) [9] [] [64, 67, 69] [(73, .agg #[.int .i64 ((j + 1 : Nat)), .int .i64 k, .int .u32 h, .int .u32 s])] ([]) #[true, true, true, true, false, true, true, true, true, true, false, false, false, false, false] al0 ?_
            refine any_fork [4, 10] (by kernel_rfl) (by simp) (each_cons _ rfl ?_ (each_cons _ rfl ?_ (each_nil)))
            ·
             refine qo0 1 [(4, .go (owns 0 1 1))] [64, 69, 73] [(68, .slice (some ⟨g173, 0, none⟩) m m)] ?_
             refine od_ ?_
             refine a1 10 rfl ?_
             refine mo0 1 [] [64, 68, 69] (fun γ542 => [(74, .slice (some ⟨γ542 0, 0, none⟩) 1 1)]) (fun γ542 L => bx (γ542 0) (#[.int .i64 ((j + 1 : Nat)), .int .i64 k, .int .u32 h, .int .u32 s]) 43 :: L) (fun γ542 => ?_)
             refine od_ ?_
             exact any_weak (hm fun i => [γ542 0].getD i 0) [64, 68, 69, 74] (by kernel_rfl) rfl rfl rfl
            ·
             refine mo0 1 [] [64, 67, 69] (fun γ543 => [(74, .slice (some ⟨γ543 0, 0, none⟩) 1 1)]) (fun γ543 L => bx (γ543 0) (#[.int .i64 ((j + 1 : Nat)), .int .i64 k, .int .u32 h, .int .u32 s]) 43 :: L) (fun γ543 => ?_)
             refine od_ ?_
             refine a1 4 rfl ?_
             refine qo0 1 [(4, .go (owns 1 1 1))] [64, 69, 74] [(68, .slice (some ⟨g173, 0, none⟩) m m)] ?_
             refine od_ ?_
             exact any_weak (hm fun i => [γ543 0].getD i 0) [64, 68, 69, 74] (by kernel_rfl) rfl rfl rfl
         ·
          refine qo0 1 [(8, .go (owns 7 0 2))] [1, 3, 64, 67, 69] [(72, .agg #[.int .u32 h, .int .u32 s])] ?_
          refine od_ ?_
          refine any_fork [4, 6, 7] (by kernel_rfl) (by simp) (each_cons _ rfl ?_ (each_cons _ rfl ?_ (each_cons _ rfl ?_ (each_nil))))
          ·
           refine qo0 1 [(4, .go (owns 0 1 1))] [1, 3, 64, 69, 72] [(68, .slice (some ⟨g173, 0, none⟩) m m)] ?_
           refine od_ ?_
           refine any_fork [6, 7] (by kernel_rfl) (by simp) (each_cons _ rfl ?_ (each_cons _ rfl ?_ (each_nil)))
           ·
            refine qo0 1 [(6, .go (owns 5 0 1))] [1, 64, 68, 69, 72] [(70, .int .i64 ((j + 1 : Nat)))] ?_
            refine od_ ?_
            refine a1 7 rfl ?_
            refine qo0 1 [(7, .go (owns 8 0 1))] [64, 68, 69, 70, 72] [(71, .int .i64 k)] ?_
            refine od_ ?_
            refine tk (m := 5) [9] [] [64, 68, 69] [(73, .agg #[.int .i64 ((j + 1 : Nat)), .int .i64 k, .int .u32 h, .int .u32 s])] ([]) #[true, true, true, true, true, true, true, true, true, true, false, false, false, false, false] al0 ?_
            refine a1 10 rfl ?_
            refine mo0 1 [] [64, 68, 69] (fun γ550 => [(74, .slice (some ⟨γ550 0, 0, none⟩) 1 1)]) (fun γ550 L => bx (γ550 0) (#[.int .i64 ((j + 1 : Nat)), .int .i64 k, .int .u32 h, .int .u32 s]) 43 :: L) (fun γ550 => ?_)
            refine od_ ?_
            exact any_weak (hm fun i => [γ550 0].getD i 0) [64, 68, 69, 74] (by kernel_rfl) rfl rfl rfl
           ·
            refine qo0 1 [(7, .go (owns 8 0 1))] [3, 64, 68, 69, 72] [(71, .int .i64 k)] ?_
            refine od_ ?_
            refine a1 6 rfl ?_
            refine qo0 1 [(6, .go (owns 5 0 1))] [64, 68, 69, 71, 72] [(70, .int .i64 ((j + 1 : Nat)))] ?_
            refine od_ ?_
            refine tk (m := 5) [9] [] [64, 68, 69] [(73, .agg #[.int .i64 ((j + 1 : Nat)), .int .i64 k, .int .u32 h, .int .u32 s])] ([]) #[true, true, true, true, true, true, true, true, true, true, false, false, false, false, false] al0 ?_
            refine a1 10 rfl ?_
            refine mo0 1 [] [64, 68, 69] (fun γ554 => [(74, .slice (some ⟨γ554 0, 0, none⟩) 1 1)]) (fun γ554 L => bx (γ554 0) (#[.int .i64 ((j + 1 : Nat)), .int .i64 k, .int .u32 h, .int .u32 s]) 43 :: L) (fun γ554 => ?_)
            refine od_ ?_
            exact any_weak (hm fun i => [γ554 0].getD i 0) [64, 68, 69, 74] (by kernel_rfl) rfl rfl rfl
          ·
           refine qo0 1 [(6, .go (owns 5 0 1))] [1, 64, 67, 69, 72] [(70, .int .i64 ((j + 1 : Nat)))] ?_
           refine od_ ?_
           refine any_fork [4, 7] (by kernel_rfl) (by simp) (each_cons _ rfl ?_ (each_cons _ rfl ?_ (each_nil)))
           ·
            refine qo0 1 [(4, .go (owns 0 1 1))] [1, 64, 69, 70, 72] [(68, .slice (some ⟨g173, 0, none⟩) m m)] ?_
            refine od_ ?_
            refine a1 7 rfl ?_
            refine qo0 1 [(7, .go (owns 8 0 1))] [64, 68, 69, 70, 72] [(71, .int .i64 k)] ?_
            refine od_ ?_
            refine tk (m := 5) [9] [] [64, 68, 69] [(73, .agg #[.int .i64 ((j + 1 : Nat)), .int .i64 k, .int .u32 h, .int .u32 s])] ([]) #[true, true, true, true, true, true, true, true, true, true, false, false, false, false, false] al0 ?_
            refine a1 10 rfl ?_
            refine mo0 1 [] [64, 68, 69] (fun γ559 => [(74, .slice (some ⟨γ559 0, 0, none⟩) 1 1)]) (fun γ559 L => bx (γ559 0) (#[.int .i64 ((j + 1 : Nat)), .int .i64 k, .int .u32 h, .int .u32 s]) 43 :: L) (fun γ559 => ?_)
            refine od_ ?_
            exact any_weak (hm fun i => [γ559 0].getD i 0) [64, 68, 69, 74] (by kernel_rfl) rfl rfl rfl
           ·
            refine qo0 1 [(7, .go (owns 8 0 1))] [64, 67, 69, 70, 72] [(71, .int .i64 k)] ?_
            refine od_ ?_
            refine tk (m := 6) [9] [] [64, 67, 69] [(73, .agg #[.int .i64 ((j + 1 : Nat)), .int .i64 k, .int .u32 h, .int .u32 s])] ([]) #[true, true, true, true, false, true, true, true, true, true, false, false, false, false, false] al0 ?_
            refine any_fork [4, 10] (by kernel_rfl) (by simp) (each_cons _ rfl ?_ (each_cons _ rfl ?_ (each_nil)))
            ·
             refine qo0 1 [(4, .go (owns 0 1 1))] [64, 69, 73] [(68, .slice (some ⟨g173, 0, none⟩) m m)] ?_
             refine od_ ?_
             refine a1 10 rfl ?_
             refine mo0 1 [] [64, 68, 69] (fun γ563 => [(74, .slice (some ⟨γ563 0, 0, none⟩) 1 1)]) (fun γ563 L => bx (γ563 0) (#[.int .i64 ((j + 1 : Nat)), .int .i64 k, .int .u32 h, .int .u32 s]) 43 :: L) (fun γ563 => ?_)
             refine od_ ?_
             exact any_weak (hm fun i => [γ563 0].getD i 0) [64, 68, 69, 74] (by kernel_rfl) rfl rfl rfl
            ·
             refine mo0 1 [] [64, 67, 69] (fun γ564 => [(74, .slice (some ⟨γ564 0, 0, none⟩) 1 1)]) (fun γ564 L => bx (γ564 0) (#[.int .i64 ((j + 1 : Nat)), .int .i64 k, .int .u32 h, .int .u32 s]) 43 :: L) (fun γ564 => ?_)
             refine od_ ?_
             refine a1 4 rfl ?_
             refine qo0 1 [(4, .go (owns 1 1 1))] [64, 69, 74] [(68, .slice (some ⟨g173, 0, none⟩) m m)] ?_
             refine od_ ?_
             exact any_weak (hm fun i => [γ564 0].getD i 0) [64, 68, 69, 74] (by kernel_rfl) rfl rfl rfl
          ·
           refine qo0 1 [(7, .go (owns 8 0 1))] [3, 64, 67, 69, 72] [(71, .int .i64 k)] ?_
           refine od_ ?_
           refine any_fork [4, 6] (by kernel_rfl) (by simp) (each_cons _ rfl ?_ (each_cons _ rfl ?_ (each_nil)))
           ·
            refine qo0 1 [(4, .go (owns 0 1 1))] [3, 64, 69, 71, 72] [(68, .slice (some ⟨g173, 0, none⟩) m m)] ?_
            refine od_ ?_
            refine a1 6 rfl ?_
            refine qo0 1 [(6, .go (owns 5 0 1))] [64, 68, 69, 71, 72] [(70, .int .i64 ((j + 1 : Nat)))] ?_
            refine od_ ?_
            refine tk (m := 5) [9] [] [64, 68, 69] [(73, .agg #[.int .i64 ((j + 1 : Nat)), .int .i64 k, .int .u32 h, .int .u32 s])] ([]) #[true, true, true, true, true, true, true, true, true, true, false, false, false, false, false] al0 ?_
            refine a1 10 rfl ?_
            refine mo0 1 [] [64, 68, 69] (fun γ570 => [(74, .slice (some ⟨γ570 0, 0, none⟩) 1 1)]) (fun γ570 L => bx (γ570 0) (#[.int .i64 ((j + 1 : Nat)), .int .i64 k, .int .u32 h, .int .u32 s]) 43 :: L) (fun γ570 => ?_)
            refine od_ ?_
            exact any_weak (hm fun i => [γ570 0].getD i 0) [64, 68, 69, 74] (by kernel_rfl) rfl rfl rfl
           ·
            refine qo0 1 [(6, .go (owns 5 0 1))] [64, 67, 69, 71, 72] [(70, .int .i64 ((j + 1 : Nat)))] ?_
            refine od_ ?_
            refine tk (m := 6) [9] [] [64, 67, 69] [(73, .agg #[.int .i64 ((j + 1 : Nat)), .int .i64 k, .int .u32 h, .int .u32 s])] ([]) #[true, true, true, true, false, true, true, true, true, true, false, false, false, false, false] al0 ?_
            refine any_fork [4, 10] (by kernel_rfl) (by simp) (each_cons _ rfl ?_ (each_cons _ rfl ?_ (each_nil)))
            ·
             refine qo0 1 [(4, .go (owns 0 1 1))] [64, 69, 73] [(68, .slice (some ⟨g173, 0, none⟩) m m)] ?_
             refine od_ ?_
             refine a1 10 rfl ?_
             refine mo0 1 [] [64, 68, 69] (fun γ574 => [(74, .slice (some ⟨γ574 0, 0, none⟩) 1 1)]) (fun γ574 L => bx (γ574 0) (#[.int .i64 ((j + 1 : Nat)), .int .i64 k, .int .u32 h, .int .u32 s]) 43 :: L) (fun γ574 => ?_)
             refine od_ ?_
             exact any_weak (hm fun i => [γ574 0].getD i 0) [64, 68, 69, 74] (by kernel_rfl) rfl rfl rfl
            ·
             refine mo0 1 [] [64, 67, 69] (fun γ575 => [(74, .slice (some ⟨γ575 0, 0, none⟩) 1 1)]) (fun γ575 L => bx (γ575 0) (#[.int .i64 ((j + 1 : Nat)), .int .i64 k, .int .u32 h, .int .u32 s]) 43 :: L) (fun γ575 => ?_)
             refine od_ ?_
             refine a1 4 rfl ?_
             refine qo0 1 [(4, .go (owns 1 1 1))] [64, 69, 74] [(68, .slice (some ⟨g173, 0, none⟩) m m)] ?_
             refine od_ ?_
             exact any_weak (hm fun i => [γ575 0].getD i 0) [64, 68, 69, 74] (by kernel_rfl) rfl rfl rfl
        refine a1 11 rfl ?_
        refine Ops.pick [[bx (γ452 0) (#[.int .i64 ((j + 1 : Nat)), .int .i64 k, .int .u32 h, .int .u32 s]) 43], [bx (γ213 0) (#[.slice (some ⟨g93, 0, none⟩) n n, .slice (some ⟨g173, 0, none⟩) m m]) 25], [bx g173 ((sets c173 0 (vs.flatMap Enc.enc))) 43], [bx g93 ((sets c93 0 (ds.flatMap Enc.enc))) 32], [bx (γ4 1) (#[.slice none 0 0, .slice none 0 0]) 25], [bx (γ4 0) (#[.slice p n cap, .slice q m capv]) 25], [bx (γ2 0) (#[.int .i64 ((j + 1 : Nat))]) 3], [bx (γ1 3) (#[.slice none 0 0, .slice none 0 0]) 25], [bx (γ1 2) (#[.int .u32 h, .int .u32 s]) 41], [bx (γ1 1) (#[.int .i64 k]) 3], [bx (γ1 0) (#[.slice p n cap, .slice q m capv]) 25]] [0, 1, 3, 4, 5, 6, 7, 8, 9, 10, 2] [] ([bx (γ452 0) (#[.int .i64 ((j + 1 : Nat)), .int .i64 k, .int .u32 h, .int .u32 s]) 43, bx (γ213 0) (#[.slice (some ⟨g93, 0, none⟩) n n, .slice (some ⟨g173, 0, none⟩) m m]) 25, bx g93 ((sets c93 0 (ds.flatMap Enc.enc))) 32, bx (γ4 1) (#[.slice none 0 0, .slice none 0 0]) 25, bx (γ4 0) (#[.slice p n cap, .slice q m capv]) 25, bx (γ2 0) (#[.int .i64 ((j + 1 : Nat))]) 3, bx (γ1 3) (#[.slice none 0 0, .slice none 0 0]) 25, bx (γ1 2) (#[.int .u32 h, .int .u32 s]) 41, bx (γ1 1) (#[.int .i64 k]) 3, bx (γ1 0) (#[.slice p n cap, .slice q m capv]) 25, bx g173 ((sets c173 0 (vs.flatMap Enc.enc))) 43]) (by kernel_rfl) rfl rfl (cP (fun v L' => ∃ q_ capq_ Y_, v = .slice q_ (m + 1) capq_ ∧ L' = [bx (γ213 0) (#[.slice (some ⟨g93, 0, none⟩) n n, .slice (some ⟨g173, 0, none⟩) m m]) 25, bx g93 ((sets c93 0 (ds.flatMap Enc.enc))) 32, bx (γ4 1) (#[.slice none 0 0, .slice none 0 0]) 25, bx (γ4 0) (#[.slice p n cap, .slice q m capv]) 25, bx (γ2 0) (#[.int .i64 ((j + 1 : Nat))]) 3, bx (γ1 3) (#[.slice none 0 0, .slice none 0 0]) 25, bx (γ1 2) (#[.int .u32 h, .int .u32 s]) 41, bx (γ1 1) (#[.int .i64 k]) 3, bx (γ1 0) (#[.slice p n cap, .slice q m capv]) 25] ++ (Y_ ++ []) ∧ SlO 43 Y_ q_ (m + 1) capq_ (vs.take j ++ [⟨(j + 1 : Nat), k, h, s⟩] ++ vs.drop j)) Try.call54 (fun w hw => (insertV_d _ ([bx (γ213 0) (#[.slice (some ⟨g93, 0, none⟩) n n, .slice (some ⟨g173, 0, none⟩) m m]) 25, bx g93 ((sets c93 0 (ds.flatMap Enc.enc))) 32, bx (γ4 1) (#[.slice none 0 0, .slice none 0 0]) 25, bx (γ4 0) (#[.slice p n cap, .slice q m capv]) 25, bx (γ2 0) (#[.int .i64 ((j + 1 : Nat))]) 3, bx (γ1 3) (#[.slice none 0 0, .slice none 0 0]) 25, bx (γ1 2) (#[.int .u32 h, .int .u32 s]) 41, bx (γ1 1) (#[.int .i64 k]) 3, bx (γ1 0) (#[.slice p n cap, .slice q m capv]) 25] ++ []) [bx g173 ((sets c173 0 (vs.flatMap Enc.enc))) 43] (some ⟨g173, 0, none⟩) m m vs j (γ452 0) (#[.int .i64 ((j + 1 : Nat)), .int .i64 k, .int .u32 h, .int .u32 s]) 1 ([⟨(j + 1 : Nat), k, h, s⟩]) w (hw.pull (A := [bx (γ213 0) (#[.slice (some ⟨g93, 0, none⟩) n n, .slice (some ⟨g173, 0, none⟩) m m]) 25, bx g93 ((sets c93 0 (ds.flatMap Enc.enc))) 32, bx (γ4 1) (#[.slice none 0 0, .slice none 0 0]) 25, bx (γ4 0) (#[.slice p n cap, .slice q m capv]) 25, bx (γ2 0) (#[.int .i64 ((j + 1 : Nat))]) 3, bx (γ1 3) (#[.slice none 0 0, .slice none 0 0]) 25, bx (γ1 2) (#[.int .u32 h, .int .u32 s]) 41, bx (γ1 1) (#[.int .i64 k]) 3, bx (γ1 0) (#[.slice p n cap, .slice q m capv]) 25]) (Y := [bx g173 ((sets c173 0 (vs.flatMap Enc.enc))) 43]) (R := [])) hO324 (by rfl) (by rfl) (by omega) (by omega) (by omega) (by omega)).mono fun e w' ⟨q_, capq_, Y_, he, hO, hY⟩ => ⟨_, _, he, ⟨q_, capq_, Y_, rfl, rfl, hO⟩, hY.push⟩) ?_)
        rintro v577 L577 ⟨q577, cq577, Y577, rfl, rfl, hO577⟩
        refine od_ ?_
        refine tk (m := 1) [12, 13] [] [75] [(77, .pointer (some ⟨γ213 0, 1, none⟩))] ([]) #[true, true, true, true, true, true, true, true, true, true, true, true, true, true, false] al0 ?_
        refine a1 14 rfl ?_
        refine mo0 1 [(14, .go (owns 0 1 1))] [] (fun _ => []) (fun _ L => (L.set 0 (bx (γ213 0) (#[.slice (some ⟨g93, 0, none⟩) n n, .slice q577 (m + 1) cq577]) 25))) (fun _ => ?_)
        refine od_ ?_
        refine any_nil (by kernel_rfl) ?_
        refine ds_ (sq_ (qa0 [] [] [(5, .int .i64 0)] (ds_ (bk ([]) (.int .i64 0) (qo0 1 [] [4, 7] [(8, .int .i64 0)] (on_ (ds_ (sq_ (qa0 [] [4, 7, 8] [(37, .bool false)] (ds_ (f_ (at_skip (ds_ (sq_ (ma0 [(0, .go (owns 0 0 2)), (1, .go (owns 2 0 2))] [4] (fun _ => [(5, .int .i64 0)]) (fun _ L => (L.set 2 (bx (γ4 1) (#[.slice (some ⟨g93, 0, none⟩) n n, .slice q577 (m + 1) cq577]) 25))) (fun _ => ds_ (bk (owns 2 0 2) (.tuple #[.agg #[.slice (some ⟨g93, 0, none⟩) n n, .slice q577 (m + 1) cq577], .int .i64 0]) (mo0 6 [(7, .go (owns 0 0 2))] [6, 9] (fun γ584 => [(10, .pointer (some ⟨γ584 0, 0, none⟩)), (11, .int .i64 0)]) (fun γ584 L => bx (γ584 0) (#[.slice (some ⟨g93, 0, none⟩) n n, .slice q577 (m + 1) cq577]) 25 :: L) (fun γ584 => on_ (ds_ (sq_ ?_)))))))))))))))))))))
        refine at_any (by kernel_rfl) ?_
        refine tk (m := 5) [2] [] [6, 9, 10] [(20, .int .i64 0)] ([]) #[false, false, true, false, false, false] al0 ?_
        refine any_cut 0 #[true, true, true, true, true, true] ([(6, .pointer (some ⟨γ1 3, 0, none⟩)), (7, .int .i64 ((j + 1 : Nat))), (8, .int .i64 0)]) (bx (γ584 0) (#[.slice (some ⟨g93, 0, none⟩) n n, .slice q577 (m + 1) cq577]) 25 :: bx (γ213 0) (#[.slice (some ⟨g93, 0, none⟩) n n, .slice q577 (m + 1) cq577]) 25 :: bx g93 ((sets c93 0 (ds.flatMap Enc.enc))) 32 :: bx (γ4 1) (#[.slice (some ⟨g93, 0, none⟩) n n, .slice q577 (m + 1) cq577]) 25 :: bx (γ4 0) (#[.slice p n cap, .slice q m capv]) 25 :: bx (γ2 0) (#[.int .i64 ((j + 1 : Nat))]) 3 :: bx (γ1 3) (#[.slice (some ⟨g93, 0, none⟩) n n, .slice q577 (m + 1) cq577]) 25 :: bx (γ1 2) (#[.int .u32 h, .int .u32 s]) 41 :: bx (γ1 1) (#[.int .i64 k]) 3 :: bx (γ1 0) (#[.slice p n cap, .slice q m capv]) 25 :: (Y577 ++ [])) ?_ (fun hm => ?_)
        rotate_left
        ·
         refine any_fork [0, 1] (by kernel_rfl) (by simp) (each_cons _ rfl ?_ (each_cons _ rfl ?_ (each_nil)))
         ·
          refine qo0 1 [(0, .go (owns 0 0 2))] [6, 9, 20] [(18, .agg #[.slice (some ⟨g93, 0, none⟩) n n, .slice q577 (m + 1) cq577])] ?_
          refine od_ ?_
          refine any_fork [1, 3] (by kernel_rfl) (by simp) (each_cons _ rfl ?_ (each_cons _ rfl ?_ (each_nil)))
          ·
           refine qo0 1 [(1, .go (owns 5 0 1))] [6, 18, 20] [(19, .int .i64 ((j + 1 : Nat)))] ?_
           refine od_ ?_
           refine a1 3 rfl ?_
           refine mo0 1 [(3, .go (owns 6 0 2))] [6, 19, 20] (fun _ => []) (fun _ L => (L.set 6 (bx (γ1 3) (#[.slice (some ⟨g93, 0, none⟩) n n, .slice q577 (m + 1) cq577]) 25))) (fun _ => ?_)
           refine od_ ?_
           refine tk (m := 0) [4, 5] [] [6] [(7, .int .i64 ((j + 1 : Nat))), (8, .int .i64 0)] ([]) #[true, true, true, true, true, true] al0 ?_
           exact any_weak hm [6, 7, 8] (by kernel_rfl) rfl rfl rfl
          ·
           refine mo0 1 [(3, .go (owns 6 0 2))] [6, 9, 20] (fun _ => []) (fun _ L => (L.set 6 (bx (γ1 3) (#[.slice (some ⟨g93, 0, none⟩) n n, .slice q577 (m + 1) cq577]) 25))) (fun _ => ?_)
           refine od_ ?_
           refine a1 1 rfl ?_
           refine qo0 1 [(1, .go (owns 5 0 1))] [6, 20] [(19, .int .i64 ((j + 1 : Nat)))] ?_
           refine od_ ?_
           refine tk (m := 0) [4, 5] [] [6] [(7, .int .i64 ((j + 1 : Nat))), (8, .int .i64 0)] ([]) #[true, true, true, true, true, true] al0 ?_
           exact any_weak hm [6, 7, 8] (by kernel_rfl) rfl rfl rfl
         ·
          refine qo0 1 [(1, .go (owns 5 0 1))] [6, 10, 20] [(19, .int .i64 ((j + 1 : Nat)))] ?_
          refine od_ ?_
          refine a1 0 rfl ?_
          refine qo0 1 [(0, .go (owns 0 0 2))] [6, 19, 20] [(18, .agg #[.slice (some ⟨g93, 0, none⟩) n n, .slice q577 (m + 1) cq577])] ?_
          refine od_ ?_
          refine a1 3 rfl ?_
          refine mo0 1 [(3, .go (owns 6 0 2))] [6, 19, 20] (fun _ => []) (fun _ L => (L.set 6 (bx (γ1 3) (#[.slice (some ⟨g93, 0, none⟩) n n, .slice q577 (m + 1) cq577]) 25))) (fun _ => ?_)
          refine od_ ?_
          refine tk (m := 0) [4, 5] [] [6] [(7, .int .i64 ((j + 1 : Nat))), (8, .int .i64 0)] ([]) #[true, true, true, true, true, true] al0 ?_
          exact any_weak hm [6, 7, 8] (by kernel_rfl) rfl rfl rfl
        refine any_nil (by kernel_rfl) ?_
        refine ds_ (rt (owns 6 0 2) (.tuple #[.agg #[.slice (some ⟨g93, 0, none⟩) n n, .slice q577 (m + 1) cq577], .int .i64 ((j + 1 : Nat)), .int .i64 0]) ?_)
        exact fun w' hw => by rw [(addN_ok (addV_ok q6 hg329 q357 (by omega) (gap_at hI hx438 (by omega))) (gap_at hI hx438 (by omega))), addV_ok q6 hg329 q357 (by omega) (gap_at hI hx438 (by omega))]; exact ⟨_, _, _, _, _, _, _, _, rfl, hO321, hO577, hw.below, two_tails (Hs.pick [[bx (γ584 0) (#[.slice (some ⟨g93, 0, none⟩) n n, .slice q577 (m + 1) cq577]) 25], [bx (γ213 0) (#[.slice (some ⟨g93, 0, none⟩) n n, .slice q577 (m + 1) cq577]) 25], [bx g93 ((sets c93 0 (ds.flatMap Enc.enc))) 32], [bx (γ4 1) (#[.slice (some ⟨g93, 0, none⟩) n n, .slice q577 (m + 1) cq577]) 25], [bx (γ4 0) (#[.slice p n cap, .slice q m capv]) 25], [bx (γ2 0) (#[.int .i64 ((j + 1 : Nat))]) 3], [bx (γ1 3) (#[.slice (some ⟨g93, 0, none⟩) n n, .slice q577 (m + 1) cq577]) 25], [bx (γ1 2) (#[.int .u32 h, .int .u32 s]) 41], [bx (γ1 1) (#[.int .i64 k]) 3], [bx (γ1 0) (#[.slice p n cap, .slice q m capv]) 25], Y577] [2, 10] [0, 1, 3, 4, 5, 6, 7, 8, 9] (by kernel_rfl) hw)⟩
      ·
       refine qa [(4, .go (owns 0 1 1)), (6, .no)] [0, 1, 2, 3, 8] [(59, .bool false)] ([¬ (((j : Nat) : Int) < ((m : Nat) : Int))]) (al1 q436) (ds_ (f_ (at_leave _ rfl (ds_ (sq_ (ma [(1, .fit), (2, .go (owns 5 0 1))] [0, 1, 2, 3, 8] (fun _ => []) (fun _ L => (L.set 5 (bx (γ2 0) (#[.int .i64 ((j + 1 : Nat))]) 3))) (fun _ => [Fit .i64 ((j + 1 : Nat))]) (fun _ => (al1 (fit64 (by omega) (by omega)))) (fun _ => ds_ (sq_ ?_))))))))
       refine at_any (by kernel_rfl) ?_
       refine tk (m := 10) [0, 1, 2, 3, 5] [] [1, 2, 3] [(64, .pointer (some ⟨γ213 0, 0, none⟩)), (67, .pointer (some ⟨γ213 0, 1, none⟩)), (69, .int .i64 ((j : Nat)))] ([]) #[true, true, true, true, false, true, false, false, false, false, false, false, false, false, false] al0 ?_
       refine any_cutG 4 #[true, true, true, true, true, true, true, true, true, true, true, false, false, false, false] (fun γ611 => [(64, .pointer (some ⟨γ213 0, 0, none⟩)), (68, .slice (some ⟨g173, 0, none⟩) m m), (69, .int .i64 ((j : Nat))), (74, .slice (some ⟨γ611 0, 0, none⟩) 1 1)]) (fun γ611 => [bx (γ611 0) (#[.int .i64 ((j + 1 : Nat)), .int .i64 k, .int .u32 h, .int .u32 s]) 43, bx (γ213 0) (#[.slice (some ⟨g93, 0, none⟩) n n, .slice (some ⟨g173, 0, none⟩) m m]) 25, bx g173 ((sets c173 0 (vs.flatMap Enc.enc))) 43, bx g93 ((sets c93 0 (ds.flatMap Enc.enc))) 32, bx (γ4 1) (#[.slice none 0 0, .slice none 0 0]) 25, bx (γ4 0) (#[.slice p n cap, .slice q m capv]) 25, bx (γ2 0) (#[.int .i64 ((j + 1 : Nat))]) 3, bx (γ1 3) (#[.slice none 0 0, .slice none 0 0]) 25, bx (γ1 2) (#[.int .u32 h, .int .u32 s]) 41, bx (γ1 1) (#[.int .i64 k]) 3, bx (γ1 0) (#[.slice p n cap, .slice q m capv]) 25]) (fun γ611 => ?_) (fun hm => ?_)
       rotate_left
       ·
        refine any_fork [4, 6, 7, 8] (by kernel_rfl) (by simp) (each_cons _ rfl ?_ (each_cons _ rfl ?_ (each_cons _ rfl ?_ (each_cons _ rfl ?_ (each_nil)))))
        ·
         refine qo0 1 [(4, .go (owns 0 1 1))] [1, 2, 3, 64, 69] [(68, .slice (some ⟨g173, 0, none⟩) m m)] ?_
         refine od_ ?_
         refine any_fork [6, 7, 8] (by kernel_rfl) (by simp) (each_cons _ rfl ?_ (each_cons _ rfl ?_ (each_cons _ rfl ?_ (each_nil))))
         ·
          refine qo0 1 [(6, .go (owns 5 0 1))] [1, 2, 64, 68, 69] [(70, .int .i64 ((j + 1 : Nat)))] ?_
          refine od_ ?_
          refine any_fork [7, 8] (by kernel_rfl) (by simp) (each_cons _ rfl ?_ (each_cons _ rfl ?_ (each_nil)))
          ·
           refine qo0 1 [(7, .go (owns 8 0 1))] [2, 64, 68, 69, 70] [(71, .int .i64 k)] ?_
           refine od_ ?_
           refine a1 8 rfl ?_
           refine qo0 1 [(8, .go (owns 7 0 2))] [64, 68, 69, 70, 71] [(72, .agg #[.int .u32 h, .int .u32 s])] ?_
           refine od_ ?_
           refine tk (m := 5) [9] [] [64, 68, 69] [(73, .agg #[.int .i64 ((j + 1 : Nat)), .int .i64 k, .int .u32 h, .int .u32 s])] ([]) #[true, true, true, true, true, true, true, true, true, true, false, false, false, false, false] al0 ?_
           refine a1 10 rfl ?_
           refine mo0 1 [] [64, 68, 69] (fun γ617 => [(74, .slice (some ⟨γ617 0, 0, none⟩) 1 1)]) (fun γ617 L => bx (γ617 0) (#[.int .i64 ((j + 1 : Nat)), .int .i64 k, .int .u32 h, .int .u32 s]) 43 :: L) (fun γ617 => ?_)
           refine od_ ?_
           exact any_weak (hm fun i => [γ617 0].getD i 0) [64, 68, 69, 74] (by kernel_rfl) rfl rfl rfl
          ·
           refine qo0 1 [(8, .go (owns 7 0 2))] [1, 64, 68, 69, 70] [(72, .agg #[.int .u32 h, .int .u32 s])] ?_
           refine od_ ?_
           refine a1 7 rfl ?_
           refine qo0 1 [(7, .go (owns 8 0 1))] [64, 68, 69, 70, 72] [(71, .int .i64 k)] ?_
           refine od_ ?_
           refine tk (m := 5) [9] [] [64, 68, 69] [(73, .agg #[.int .i64 ((j + 1 : Nat)), .int .i64 k, .int .u32 h, .int .u32 s])] ([]) #[true, true, true, true, true, true, true, true, true, true, false, false, false, false, false] al0 ?_
           refine a1 10 rfl ?_
           refine mo0 1 [] [64, 68, 69] (fun γ621 => [(74, .slice (some ⟨γ621 0, 0, none⟩) 1 1)]) (fun γ621 L => bx (γ621 0) (#[.int .i64 ((j + 1 : Nat)), .int .i64 k, .int .u32 h, .int .u32 s]) 43 :: L) (fun γ621 => ?_)
           refine od_ ?_
           exact any_weak (hm fun i => [γ621 0].getD i 0) [64, 68, 69, 74] (by kernel_rfl) rfl rfl rfl
         ·
          refine qo0 1 [(7, .go (owns 8 0 1))] [2, 3, 64, 68, 69] [(71, .int .i64 k)] ?_
          refine od_ ?_
          refine any_fork [6, 8] (by kernel_rfl) (by simp) (each_cons _ rfl ?_ (each_cons _ rfl ?_ (each_nil)))
          ·
           refine qo0 1 [(6, .go (owns 5 0 1))] [2, 64, 68, 69, 71] [(70, .int .i64 ((j + 1 : Nat)))] ?_
           refine od_ ?_
           refine a1 8 rfl ?_
           refine qo0 1 [(8, .go (owns 7 0 2))] [64, 68, 69, 70, 71] [(72, .agg #[.int .u32 h, .int .u32 s])] ?_
           refine od_ ?_
           refine tk (m := 5) [9] [] [64, 68, 69] [(73, .agg #[.int .i64 ((j + 1 : Nat)), .int .i64 k, .int .u32 h, .int .u32 s])] ([]) #[true, true, true, true, true, true, true, true, true, true, false, false, false, false, false] al0 ?_
           refine a1 10 rfl ?_
           refine mo0 1 [] [64, 68, 69] (fun γ626 => [(74, .slice (some ⟨γ626 0, 0, none⟩) 1 1)]) (fun γ626 L => bx (γ626 0) (#[.int .i64 ((j + 1 : Nat)), .int .i64 k, .int .u32 h, .int .u32 s]) 43 :: L) (fun γ626 => ?_)
           refine od_ ?_
           exact any_weak (hm fun i => [γ626 0].getD i 0) [64, 68, 69, 74] (by kernel_rfl) rfl rfl rfl
          ·
           refine qo0 1 [(8, .go (owns 7 0 2))] [3, 64, 68, 69, 71] [(72, .agg #[.int .u32 h, .int .u32 s])] ?_
           refine od_ ?_
           refine a1 6 rfl ?_
           refine qo0 1 [(6, .go (owns 5 0 1))] [64, 68, 69, 71, 72] [(70, .int .i64 ((j + 1 : Nat)))] ?_
           refine od_ ?_
           refine tk (m := 5) [9] [] [64, 68, 69] [(73, .agg #[.int .i64 ((j + 1 : Nat)), .int .i64 k, .int .u32 h, .int .u32 s])] ([]) #[true, true, true, true, true, true, true, true, true, true, false, false, false, false, false] al0 ?_
           refine a1 10 rfl ?_
           refine mo0 1 [] [64, 68, 69] (fun γ630 => [(74, .slice (some ⟨γ630 0, 0, none⟩) 1 1)]) (fun γ630 L => bx (γ630 0) (#[.int .i64 ((j + 1 : Nat)), .int .i64 k, .int .u32 h, .int .u32 s]) 43 :: L) (fun γ630 => ?_)
           refine od_ ?_
           exact any_weak (hm fun i => [γ630 0].getD i 0) [64, 68, 69, 74] (by kernel_rfl) rfl rfl rfl
         ·
          refine qo0 1 [(8, .go (owns 7 0 2))] [1, 3, 64, 68, 69] [(72, .agg #[.int .u32 h, .int .u32 s])] ?_
          refine od_ ?_
          refine any_fork [6, 7] (by kernel_rfl) (by simp) (each_cons _ rfl ?_ (each_cons _ rfl ?_ (each_nil)))
          ·
           refine qo0 1 [(6, .go (owns 5 0 1))] [1, 64, 68, 69, 72] [(70, .int .i64 ((j + 1 : Nat)))] ?_
           refine od_ ?_
           refine a1 7 rfl ?_
           refine qo0 1 [(7, .go (owns 8 0 1))] [64, 68, 69, 70, 72] [(71, .int .i64 k)] ?_
           refine od_ ?_
           refine tk (m := 5) [9] [] [64, 68, 69] [(73, .agg #[.int .i64 ((j + 1 : Nat)), .int .i64 k, .int .u32 h, .int .u32 s])] ([]) #[true, true, true, true, true, true, true, true, true, true, false, false, false, false, false] al0 ?_
           refine a1 10 rfl ?_
           refine mo0 1 [] [64, 68, 69] (fun γ635 => [(74, .slice (some ⟨γ635 0, 0, none⟩) 1 1)]) (fun γ635 L => bx (γ635 0) (#[.int .i64 ((j + 1 : Nat)), .int .i64 k, .int .u32 h, .int .u32 s]) 43 :: L) (fun γ635 => ?_)
           refine od_ ?_
           exact any_weak (hm fun i => [γ635 0].getD i 0) [64, 68, 69, 74] (by kernel_rfl) rfl rfl rfl
          ·
           refine qo0 1 [(7, .go (owns 8 0 1))] [3, 64, 68, 69, 72] [(71, .int .i64 k)] ?_
           refine od_ ?_
           refine a1 6 rfl ?_
           refine qo0 1 [(6, .go (owns 5 0 1))] [64, 68, 69, 71, 72] [(70, .int .i64 ((j + 1 : Nat)))] ?_
           refine od_ ?_
           refine tk (m := 5) [9] [] [64, 68, 69] [(73, .agg #[.int .i64 ((j + 1 : Nat)), .int .i64 k, .int .u32 h, .int .u32 s])] ([]) #[true, true, true, true, true, true, true, true, true, true, false, false, false, false, false] al0 ?_
           refine a1 10 rfl ?_
           refine mo0 1 [] [64, 68, 69] (fun γ639 => [(74, .slice (some ⟨γ639 0, 0, none⟩) 1 1)]) (fun γ639 L => bx (γ639 0) (#[.int .i64 ((j + 1 : Nat)), .int .i64 k, .int .u32 h, .int .u32 s]) 43 :: L) (fun γ639 => ?_)
           refine od_ ?_
           exact any_weak (hm fun i => [γ639 0].getD i 0) [64, 68, 69, 74] (by kernel_rfl) rfl rfl rfl
        ·
         refine qo0 1 [(6, .go (owns 5 0 1))] [1, 2, 64, 67, 69] [(70, .int .i64 ((j + 1 : Nat)))] ?_
         refine od_ ?_
         refine any_fork [4, 7, 8] (by kernel_rfl) (by simp) (each_cons _ rfl ?_ (each_cons _ rfl ?_ (each_cons _ rfl ?_ (each_nil))))
         ·
          refine qo0 1 [(4, .go (owns 0 1 1))] [1, 2, 64, 69, 70] [(68, .slice (some ⟨g173, 0, none⟩) m m)] ?_
          refine od_ ?_
          refine any_fork [7, 8] (by kernel_rfl) (by simp) (each_cons _ rfl ?_ (each_cons _ rfl ?_ (each_nil)))
          ·
           refine qo0 1 [(7, .go (owns 8 0 1))] [2, 64, 68, 69, 70] [(71, .int .i64 k)] ?_
           refine od_ ?_
           refine a1 8 rfl ?_
           refine qo0 1 [(8, .go (owns 7 0 2))] [64, 68, 69, 70, 71] [(72, .agg #[.int .u32 h, .int .u32 s])] ?_
           refine od_ ?_
           refine tk (m := 5) [9] [] [64, 68, 69] [(73, .agg #[.int .i64 ((j + 1 : Nat)), .int .i64 k, .int .u32 h, .int .u32 s])] ([]) #[true, true, true, true, true, true, true, true, true, true, false, false, false, false, false] al0 ?_
           refine a1 10 rfl ?_
           refine mo0 1 [] [64, 68, 69] (fun γ645 => [(74, .slice (some ⟨γ645 0, 0, none⟩) 1 1)]) (fun γ645 L => bx (γ645 0) (#[.int .i64 ((j + 1 : Nat)), .int .i64 k, .int .u32 h, .int .u32 s]) 43 :: L) (fun γ645 => ?_)
           refine od_ ?_
           exact any_weak (hm fun i => [γ645 0].getD i 0) [64, 68, 69, 74] (by kernel_rfl) rfl rfl rfl
          ·
           refine qo0 1 [(8, .go (owns 7 0 2))] [1, 64, 68, 69, 70] [(72, .agg #[.int .u32 h, .int .u32 s])] ?_
           refine od_ ?_
           refine a1 7 rfl ?_
           refine qo0 1 [(7, .go (owns 8 0 1))] [64, 68, 69, 70, 72] [(71, .int .i64 k)] ?_
           refine od_ ?_
           refine tk (m := 5) [9] [] [64, 68, 69] [(73, .agg #[.int .i64 ((j + 1 : Nat)), .int .i64 k, .int .u32 h, .int .u32 s])] ([]) #[true, true, true, true, true, true, true, true, true, true, false, false, false, false, false] al0 ?_
           refine a1 10 rfl ?_
           refine mo0 1 [] [64, 68, 69] (fun γ649 => [(74, .slice (some ⟨γ649 0, 0, none⟩) 1 1)]) (fun γ649 L => bx (γ649 0) (#[.int .i64 ((j + 1 : Nat)), .int .i64 k, .int .u32 h, .int .u32 s]) 43 :: L) (fun γ649 => ?_)
           refine od_ ?_
           exact any_weak (hm fun i => [γ649 0].getD i 0) [64, 68, 69, 74] (by kernel_rfl) rfl rfl rfl
         ·
          refine qo0 1 [(7, .go (owns 8 0 1))] [2, 64, 67, 69, 70] [(71, .int .i64 k)] ?_
          refine od_ ?_
          refine any_fork [4, 8] (by kernel_rfl) (by simp) (each_cons _ rfl ?_ (each_cons _ rfl ?_ (each_nil)))
          ·
           refine qo0 1 [(4, .go (owns 0 1 1))] [2, 64, 69, 70, 71] [(68, .slice (some ⟨g173, 0, none⟩) m m)] ?_
           refine od_ ?_
           refine a1 8 rfl ?_
           refine qo0 1 [(8, .go (owns 7 0 2))] [64, 68, 69, 70, 71] [(72, .agg #[.int .u32 h, .int .u32 s])] ?_
           refine od_ ?_
           refine tk (m := 5) [9] [] [64, 68, 69] [(73, .agg #[.int .i64 ((j + 1 : Nat)), .int .i64 k, .int .u32 h, .int .u32 s])] ([]) #[true, true, true, true, true, true, true, true, true, true, false, false, false, false, false] al0 ?_
           refine a1 10 rfl ?_
           refine mo0 1 [] [64, 68, 69] (fun γ654 => [(74, .slice (some ⟨γ654 0, 0, none⟩) 1 1)]) (fun γ654 L => bx (γ654 0) (#[.int .i64 ((j + 1 : Nat)), .int .i64 k, .int .u32 h, .int .u32 s]) 43 :: L) (fun γ654 => ?_)
           refine od_ ?_
           exact any_weak (hm fun i => [γ654 0].getD i 0) [64, 68, 69, 74] (by kernel_rfl) rfl rfl rfl
          ·
           refine qo0 1 [(8, .go (owns 7 0 2))] [64, 67, 69, 70, 71] [(72, .agg #[.int .u32 h, .int .u32 s])] ?_
           refine od_ ?_
           refine tk (m := 6) [9] [] [64, 67, 69] [(73, .agg #[.int .i64 ((j + 1 : Nat)), .int .i64 k, .int .u32 h, .int .u32 s])] ([]) #[true, true, true, true, false, true, true, true, true, true, false, false, false, false, false] al0 ?_
           refine any_fork [4, 10] (by kernel_rfl) (by simp) (each_cons _ rfl ?_ (each_cons _ rfl ?_ (each_nil)))
           ·
            refine qo0 1 [(4, .go (owns 0 1 1))] [64, 69, 73] [(68, .slice (some ⟨g173, 0, none⟩) m m)] ?_
            refine od_ ?_
            refine a1 10 rfl ?_
            refine mo0 1 [] [64, 68, 69] (fun γ658 => [(74, .slice (some ⟨γ658 0, 0, none⟩) 1 1)]) (fun γ658 L => bx (γ658 0) (#[.int .i64 ((j + 1 : Nat)), .int .i64 k, .int .u32 h, .int .u32 s]) 43 :: L) (fun γ658 => ?_)
            refine od_ ?_
            exact any_weak (hm fun i => [γ658 0].getD i 0) [64, 68, 69, 74] (by kernel_rfl) rfl rfl rfl
           ·
            refine mo0 1 [] [64, 67, 69] (fun γ659 => [(74, .slice (some ⟨γ659 0, 0, none⟩) 1 1)]) (fun γ659 L => bx (γ659 0) (#[.int .i64 ((j + 1 : Nat)), .int .i64 k, .int .u32 h, .int .u32 s]) 43 :: L) (fun γ659 => ?_)
            refine od_ ?_
            refine a1 4 rfl ?_
            refine qo0 1 [(4, .go (owns 1 1 1))] [64, 69, 74] [(68, .slice (some ⟨g173, 0, none⟩) m m)] ?_
            refine od_ ?_
            exact any_weak (hm fun i => [γ659 0].getD i 0) [64, 68, 69, 74] (by kernel_rfl) rfl rfl rfl
         ·
          refine qo0 1 [(8, .go (owns 7 0 2))] [1, 64, 67, 69, 70] [(72, .agg #[.int .u32 h, .int .u32 s])] ?_
          refine od_ ?_
          refine any_fork [4, 7] (by kernel_rfl) (by simp) (each_cons _ rfl ?_ (each_cons _ rfl ?_ (each_nil)))
          ·
           refine qo0 1 [(4, .go (owns 0 1 1))] [1, 64, 69, 70, 72] [(68, .slice (some ⟨g173, 0, none⟩) m m)] ?_
           refine od_ ?_
           refine a1 7 rfl ?_
           refine qo0 1 [(7, .go (owns 8 0 1))] [64, 68, 69, 70, 72] [(71, .int .i64 k)] ?_
           refine od_ ?_
           refine tk (m := 5) [9] [] [64, 68, 69] [(73, .agg #[.int .i64 ((j + 1 : Nat)), .int .i64 k, .int .u32 h, .int .u32 s])] ([]) #[true, true, true, true, true, true, true, true, true, true, false, false, false, false, false] al0 ?_
           refine a1 10 rfl ?_
           refine mo0 1 [] [64, 68, 69] (fun γ665 => [(74, .slice (some ⟨γ665 0, 0, none⟩) 1 1)]) (fun γ665 L => bx (γ665 0) (#[.int .i64 ((j + 1 : Nat)), .int .i64 k, .int .u32 h, .int .u32 s]) 43 :: L) (fun γ665 => ?_)
           refine od_ ?_
           exact any_weak (hm fun i => [γ665 0].getD i 0) [64, 68, 69, 74] (by kernel_rfl) rfl rfl rfl
          ·
           refine qo0 1 [(7, .go (owns 8 0 1))] [64, 67, 69, 70, 72] [(71, .int .i64 k)] ?_
           refine od_ ?_
           refine tk (m := 6) [9] [] [64, 67, 69] [(73, .agg #[.int .i64 ((j + 1 : Nat)), .int .i64 k, .int .u32 h, .int .u32 s])] ([]) #[true, true, true, true, false, true, true, true, true, true, false, false, false, false, false] al0 ?_
           refine any_fork [4, 10] (by kernel_rfl) (by simp) (each_cons _ rfl ?_ (each_cons _ rfl ?_ (each_nil)))
           ·
            refine qo0 1 [(4, .go (owns 0 1 1))] [64, 69, 73] [(68, .slice (some ⟨g173, 0, none⟩) m m)] ?_
            refine od_ ?_
            refine a1 10 rfl ?_
            refine mo0 1 [] [64, 68, 69] (fun γ669 => [(74, .slice (some ⟨γ669 0, 0, none⟩) 1 1)]) (fun γ669 L => bx (γ669 0) (#[.int .i64 ((j + 1 : Nat)), .int .i64 k, .int .u32 h, .int .u32 s]) 43 :: L) (fun γ669 => ?_)
            refine od_ ?_
            exact any_weak (hm fun i => [γ669 0].getD i 0) [64, 68, 69, 74] (by kernel_rfl) rfl rfl rfl
           ·
            refine mo0 1 [] [64, 67, 69] (fun γ670 => [(74, .slice (some ⟨γ670 0, 0, none⟩) 1 1)]) (fun γ670 L => bx (γ670 0) (#[.int .i64 ((j + 1 : Nat)), .int .i64 k, .int .u32 h, .int .u32 s]) 43 :: L) (fun γ670 => ?_)
            refine od_ ?_
            refine a1 4 rfl ?_
            refine qo0 1 [(4, .go (owns 1 1 1))] [64, 69, 74] [(68, .slice (some ⟨g173, 0, none⟩) m m)] ?_
            refine od_ ?_
            exact any_weak (hm fun i => [γ670 0].getD i 0) [64, 68, 69, 74] (by kernel_rfl) rfl rfl rfl
        ·
         refine qo0 1 [(7, .go (owns 8 0 1))] [2, 3, 64, 67, 69] [(71, .int .i64 k)] ?_
         refine od_ ?_
         refine any_fork [4, 6, 8] (by kernel_rfl) (by simp) (each_cons _ rfl ?_ (each_cons _ rfl ?_ (each_cons _ rfl ?_ (each_nil))))
         ·
          refine qo0 1 [(4, .go (owns 0 1 1))] [2, 3, 64, 69, 71] [(68, .slice (some ⟨g173, 0, none⟩) m m)] ?_
          refine od_ ?_
          refine any_fork [6, 8] (by kernel_rfl) (by simp) (each_cons _ rfl ?_ (each_cons _ rfl ?_ (each_nil)))
          ·
           refine qo0 1 [(6, .go (owns 5 0 1))] [2, 64, 68, 69, 71] [(70, .int .i64 ((j + 1 : Nat)))] ?_
           refine od_ ?_
           refine a1 8 rfl ?_
           refine qo0 1 [(8, .go (owns 7 0 2))] [64, 68, 69, 70, 71] [(72, .agg #[.int .u32 h, .int .u32 s])] ?_
           refine od_ ?_
           refine tk (m := 5) [9] [] [64, 68, 69] [(73, .agg #[.int .i64 ((j + 1 : Nat)), .int .i64 k, .int .u32 h, .int .u32 s])] ([]) #[true, true, true, true, true, true, true, true, true, true, false, false, false, false, false] al0 ?_
           refine a1 10 rfl ?_
           refine mo0 1 [] [64, 68, 69] (fun γ677 => [(74, .slice (some ⟨γ677 0, 0, none⟩) 1 1)]) (fun γ677 L => bx (γ677 0) (#[.int .i64 ((j + 1 : Nat)), .int .i64 k, .int .u32 h, .int .u32 s]) 43 :: L) (fun γ677 => ?_)
           refine od_ ?_
           exact any_weak (hm fun i => [γ677 0].getD i 0) [64, 68, 69, 74] (by kernel_rfl) rfl rfl rfl
          ·
           refine qo0 1 [(8, .go (owns 7 0 2))] [3, 64, 68, 69, 71] [(72, .agg #[.int .u32 h, .int .u32 s])] ?_
           refine od_ ?_
           refine a1 6 rfl ?_
           refine qo0 1 [(6, .go (owns 5 0 1))] [64, 68, 69, 71, 72] [(70, .int .i64 ((j + 1 : Nat)))] ?_
           refine od_ ?_
           refine tk (m := 5) [9] [] [64, 68, 69] [(73, .agg #[.int .i64 ((j + 1 : Nat)), .int .i64 k, .int .u32 h, .int .u32 s])] ([]) #[true, true, true, true, true, true, true, true, true, true, false, false, false, false, false] al0 ?_
           refine a1 10 rfl ?_
           refine mo0 1 [] [64, 68, 69] (fun γ681 => [(74, .slice (some ⟨γ681 0, 0, none⟩) 1 1)]) (fun γ681 L => bx (γ681 0) (#[.int .i64 ((j + 1 : Nat)), .int .i64 k, .int .u32 h, .int .u32 s]) 43 :: L) (fun γ681 => ?_)
           refine od_ ?_
           exact any_weak (hm fun i => [γ681 0].getD i 0) [64, 68, 69, 74] (by kernel_rfl) rfl rfl rfl
         ·
          refine qo0 1 [(6, .go (owns 5 0 1))] [2, 64, 67, 69, 71] [(70, .int .i64 ((j + 1 : Nat)))] ?_
          refine od_ ?_
          refine any_fork [4, 8] (by kernel_rfl) (by simp) (each_cons _ rfl ?_ (each_cons _ rfl ?_ (each_nil)))
          ·
           refine qo0 1 [(4, .go (owns 0 1 1))] [2, 64, 69, 70, 71] [(68, .slice (some ⟨g173, 0, none⟩) m m)] ?_
           refine od_ ?_
           refine a1 8 rfl ?_
           refine qo0 1 [(8, .go (owns 7 0 2))] [64, 68, 69, 70, 71] [(72, .agg #[.int .u32 h, .int .u32 s])] ?_
           refine od_ ?_
           refine tk (m := 5) [9] [] [64, 68, 69] [(73, .agg #[.int .i64 ((j + 1 : Nat)), .int .i64 k, .int .u32 h, .int .u32 s])] ([]) #[true, true, true, true, true, true, true, true, true, true, false, false, false, false, false] al0 ?_
           refine a1 10 rfl ?_
           refine mo0 1 [] [64, 68, 69] (fun γ686 => [(74, .slice (some ⟨γ686 0, 0, none⟩) 1 1)]) (fun γ686 L => bx (γ686 0) (#[.int .i64 ((j + 1 : Nat)), .int .i64 k, .int .u32 h, .int .u32 s]) 43 :: L) (fun γ686 => ?_)
           refine od_ ?_
           exact any_weak (hm fun i => [γ686 0].getD i 0) [64, 68, 69, 74] (by kernel_rfl) rfl rfl rfl
          ·
           refine qo0 1 [(8, .go (owns 7 0 2))] [64, 67, 69, 70, 71] [(72, .agg #[.int .u32 h, .int .u32 s])] ?_
           refine od_ ?_
           refine tk (m := 6) [9] [] [64, 67, 69] [(73, .agg #[.int .i64 ((j + 1 : Nat)), .int .i64 k, .int .u32 h, .int .u32 s])] ([]) #[true, true, true, true, false, true, true, true, true, true, false, false, false, false, false] al0 ?_
           refine any_fork [4, 10] (by kernel_rfl) (by simp) (each_cons _ rfl ?_ (each_cons _ rfl ?_ (each_nil)))
           ·
            refine qo0 1 [(4, .go (owns 0 1 1))] [64, 69, 73] [(68, .slice (some ⟨g173, 0, none⟩) m m)] ?_
            refine od_ ?_
            refine a1 10 rfl ?_
            refine mo0 1 [] [64, 68, 69] (fun γ690 => [(74, .slice (some ⟨γ690 0, 0, none⟩) 1 1)]) (fun γ690 L => bx (γ690 0) (#[.int .i64 ((j + 1 : Nat)), .int .i64 k, .int .u32 h, .int .u32 s]) 43 :: L) (fun γ690 => ?_)
            refine od_ ?_
            exact any_weak (hm fun i => [γ690 0].getD i 0) [64, 68, 69, 74] (by kernel_rfl) rfl rfl rfl
           ·
            refine mo0 1 [] [64, 67, 69] (fun γ691 => [(74, .slice (some ⟨γ691 0, 0, none⟩) 1 1)]) (fun γ691 L => bx (γ691 0) (#[.int .i64 ((j + 1 : Nat)), .int .i64 k, .int .u32 h, .int .u32 s]) 43 :: L) (fun γ691 => ?_)
            refine od_ ?_
            refine a1 4 rfl ?_
            refine qo0 1 [(4, .go (owns 1 1 1))] [64, 69, 74] [(68, .slice (some ⟨g173, 0, none⟩) m m)] ?_
            refine od_ ?_
            exact any_weak (hm fun i => [γ691 0].getD i 0) [64, 68, 69, 74] (by kernel_rfl) rfl rfl rfl
         ·
          refine qo0 1 [(8, .go (owns 7 0 2))] [3, 64, 67, 69, 71] [(72, .agg #[.int .u32 h, .int .u32 s])] ?_
          refine od_ ?_
          refine any_fork [4, 6] (by kernel_rfl) (by simp) (each_cons _ rfl ?_ (each_cons _ rfl ?_ (each_nil)))
          ·
           refine qo0 1 [(4, .go (owns 0 1 1))] [3, 64, 69, 71, 72] [(68, .slice (some ⟨g173, 0, none⟩) m m)] ?_
           refine od_ ?_
           refine a1 6 rfl ?_
           refine qo0 1 [(6, .go (owns 5 0 1))] [64, 68, 69, 71, 72] [(70, .int .i64 ((j + 1 : Nat)))] ?_
           refine od_ ?_
           refine tk (m := 5) [9] [] [64, 68, 69] [(73, .agg #[.int .i64 ((j + 1 : Nat)), .int .i64 k, .int .u32 h, .int .u32 s])] ([]) #[true, true, true, true, true, true, true, true, true, true, false, false, false, false, false] al0 ?_
           refine a1 10 rfl ?_
           refine mo0 1 [] [64, 68, 69] (fun γ697 => [(74, .slice (some ⟨γ697 0, 0, none⟩) 1 1)]) (fun γ697 L => bx (γ697 0) (#[.int .i64 ((j + 1 : Nat)), .int .i64 k, .int .u32 h, .int .u32 s]) 43 :: L) (fun γ697 => ?_)
           refine od_ ?_
           exact any_weak (hm fun i => [γ697 0].getD i 0) [64, 68, 69, 74] (by kernel_rfl) rfl rfl rfl
          ·
           refine qo0 1 [(6, .go (owns 5 0 1))] [64, 67, 69, 71, 72] [(70, .int .i64 ((j + 1 : Nat)))] ?_
           refine od_ ?_
           refine tk (m := 6) [9] [] [64, 67, 69] [(73, .agg #[.int .i64 ((j + 1 : Nat)), .int .i64 k, .int .u32 h, .int .u32 s])] ([]) #[true, true, true, true, false, true, true, true, true, true, false, false, false, false, false] al0 ?_
           refine any_fork [4, 10] (by kernel_rfl) (by simp) (each_cons _ rfl ?_ (each_cons _ rfl ?_ (each_nil)))
           ·
            refine qo0 1 [(4, .go (owns 0 1 1))] [64, 69, 73] [(68, .slice (some ⟨g173, 0, none⟩) m m)] ?_
            refine od_ ?_
            refine a1 10 rfl ?_
            refine mo0 1 [] [64, 68, 69] (fun γ701 => [(74, .slice (some ⟨γ701 0, 0, none⟩) 1 1)]) (fun γ701 L => bx (γ701 0) (#[.int .i64 ((j + 1 : Nat)), .int .i64 k, .int .u32 h, .int .u32 s]) 43 :: L) (fun γ701 => ?_)
            refine od_ ?_
            exact any_weak (hm fun i => [γ701 0].getD i 0) [64, 68, 69, 74] (by kernel_rfl) rfl rfl rfl
           ·
            refine mo0 1 [] [64, 67, 69] (fun γ702 => [(74, .slice (some ⟨γ702 0, 0, none⟩) 1 1)]) (fun γ702 L => bx (γ702 0) (#[.int .i64 ((j + 1 : Nat)), .int .i64 k, .int .u32 h, .int .u32 s]) 43 :: L) (fun γ702 => ?_)
            refine od_ ?_
            refine a1 4 rfl ?_
            refine qo0 1 [(4, .go (owns 1 1 1))] [64, 69, 74] [(68, .slice (some ⟨g173, 0, none⟩) m m)] ?_
            refine od_ ?_
            exact any_weak (hm fun i => [γ702 0].getD i 0) [64, 68, 69, 74] (by kernel_rfl) rfl rfl rfl
        ·
         refine qo0 1 [(8, .go (owns 7 0 2))] [1, 3, 64, 67, 69] [(72, .agg #[.int .u32 h, .int .u32 s])] ?_
         refine od_ ?_
         refine any_fork [4, 6, 7] (by kernel_rfl) (by simp) (each_cons _ rfl ?_ (each_cons _ rfl ?_ (each_cons _ rfl ?_ (each_nil))))
         ·
          refine qo0 1 [(4, .go (owns 0 1 1))] [1, 3, 64, 69, 72] [(68, .slice (some ⟨g173, 0, none⟩) m m)] ?_
          refine od_ ?_
          refine any_fork [6, 7] (by kernel_rfl) (by simp) (each_cons _ rfl ?_ (each_cons _ rfl ?_ (each_nil)))
          ·
           refine qo0 1 [(6, .go (owns 5 0 1))] [1, 64, 68, 69, 72] [(70, .int .i64 ((j + 1 : Nat)))] ?_
           refine od_ ?_
           refine a1 7 rfl ?_
           refine qo0 1 [(7, .go (owns 8 0 1))] [64, 68, 69, 70, 72] [(71, .int .i64 k)] ?_
           refine od_ ?_
           refine tk (m := 5) [9] [] [64, 68, 69] [(73, .agg #[.int .i64 ((j + 1 : Nat)), .int .i64 k, .int .u32 h, .int .u32 s])] ([]) #[true, true, true, true, true, true, true, true, true, true, false, false, false, false, false] al0 ?_
           refine a1 10 rfl ?_
           refine mo0 1 [] [64, 68, 69] (fun γ709 => [(74, .slice (some ⟨γ709 0, 0, none⟩) 1 1)]) (fun γ709 L => bx (γ709 0) (#[.int .i64 ((j + 1 : Nat)), .int .i64 k, .int .u32 h, .int .u32 s]) 43 :: L) (fun γ709 => ?_)
           refine od_ ?_
           exact any_weak (hm fun i => [γ709 0].getD i 0) [64, 68, 69, 74] (by kernel_rfl) rfl rfl rfl
          ·
           refine qo0 1 [(7, .go (owns 8 0 1))] [3, 64, 68, 69, 72] [(71, .int .i64 k)] ?_
           refine od_ ?_
           refine a1 6 rfl ?_
           refine qo0 1 [(6, .go (owns 5 0 1))] [64, 68, 69, 71, 72] [(70, .int .i64 ((j + 1 : Nat)))] ?_
           refine od_ ?_
           refine tk (m := 5) [9] [] [64, 68, 69] [(73, .agg #[.int .i64 ((j + 1 : Nat)), .int .i64 k, .int .u32 h, .int .u32 s])] ([]) #[true, true, true, true, true, true, true, true, true, true, false, false, false, false, false] al0 ?_
           refine a1 10 rfl ?_
           refine mo0 1 [] [64, 68, 69] (fun γ713 => [(74, .slice (some ⟨γ713 0, 0, none⟩) 1 1)]) (fun γ713 L => bx (γ713 0) (#[.int .i64 ((j + 1 : Nat)), .int .i64 k, .int .u32 h, .int .u32 s]) 43 :: L) (fun γ713 => ?_)
           refine od_ ?_
           exact any_weak (hm fun i => [γ713 0].getD i 0) [64, 68, 69, 74] (by kernel_rfl) rfl rfl rfl
         ·
          refine qo0 1 [(6, .go (owns 5 0 1))] [1, 64, 67, 69, 72] [(70, .int .i64 ((j + 1 : Nat)))] ?_
          refine od_ ?_
          refine any_fork [4, 7] (by kernel_rfl) (by simp) (each_cons _ rfl ?_ (each_cons _ rfl ?_ (each_nil)))
          ·
           refine qo0 1 [(4, .go (owns 0 1 1))] [1, 64, 69, 70, 72] [(68, .slice (some ⟨g173, 0, none⟩) m m)] ?_
           refine od_ ?_
           refine a1 7 rfl ?_
           refine qo0 1 [(7, .go (owns 8 0 1))] [64, 68, 69, 70, 72] [(71, .int .i64 k)] ?_
           refine od_ ?_
           refine tk (m := 5) [9] [] [64, 68, 69] [(73, .agg #[.int .i64 ((j + 1 : Nat)), .int .i64 k, .int .u32 h, .int .u32 s])] ([]) #[true, true, true, true, true, true, true, true, true, true, false, false, false, false, false] al0 ?_
           refine a1 10 rfl ?_
           refine mo0 1 [] [64, 68, 69] (fun γ718 => [(74, .slice (some ⟨γ718 0, 0, none⟩) 1 1)]) (fun γ718 L => bx (γ718 0) (#[.int .i64 ((j + 1 : Nat)), .int .i64 k, .int .u32 h, .int .u32 s]) 43 :: L) (fun γ718 => ?_)
           refine od_ ?_
           exact any_weak (hm fun i => [γ718 0].getD i 0) [64, 68, 69, 74] (by kernel_rfl) rfl rfl rfl
          ·
           refine qo0 1 [(7, .go (owns 8 0 1))] [64, 67, 69, 70, 72] [(71, .int .i64 k)] ?_
           refine od_ ?_
           refine tk (m := 6) [9] [] [64, 67, 69] [(73, .agg #[.int .i64 ((j + 1 : Nat)), .int .i64 k, .int .u32 h, .int .u32 s])] ([]) #[true, true, true, true, false, true, true, true, true, true, false, false, false, false, false] al0 ?_
           refine any_fork [4, 10] (by kernel_rfl) (by simp) (each_cons _ rfl ?_ (each_cons _ rfl ?_ (each_nil)))
           ·
            refine qo0 1 [(4, .go (owns 0 1 1))] [64, 69, 73] [(68, .slice (some ⟨g173, 0, none⟩) m m)] ?_
            refine od_ ?_
            refine a1 10 rfl ?_
            refine mo0 1 [] [64, 68, 69] (fun γ722 => [(74, .slice (some ⟨γ722 0, 0, none⟩) 1 1)]) (fun γ722 L => bx (γ722 0) (#[.int .i64 ((j + 1 : Nat)), .int .i64 k, .int .u32 h, .int .u32 s]) 43 :: L) (fun γ722 => ?_)
            refine od_ ?_
            exact any_weak (hm fun i => [γ722 0].getD i 0) [64, 68, 69, 74] (by kernel_rfl) rfl rfl rfl
           ·
            refine mo0 1 [] [64, 67, 69] (fun γ723 => [(74, .slice (some ⟨γ723 0, 0, none⟩) 1 1)]) (fun γ723 L => bx (γ723 0) (#[.int .i64 ((j + 1 : Nat)), .int .i64 k, .int .u32 h, .int .u32 s]) 43 :: L) (fun γ723 => ?_)
            refine od_ ?_
            refine a1 4 rfl ?_
            refine qo0 1 [(4, .go (owns 1 1 1))] [64, 69, 74] [(68, .slice (some ⟨g173, 0, none⟩) m m)] ?_
            refine od_ ?_
            exact any_weak (hm fun i => [γ723 0].getD i 0) [64, 68, 69, 74] (by kernel_rfl) rfl rfl rfl
         ·
          refine qo0 1 [(7, .go (owns 8 0 1))] [3, 64, 67, 69, 72] [(71, .int .i64 k)] ?_
          refine od_ ?_
          refine any_fork [4, 6] (by kernel_rfl) (by simp) (each_cons _ rfl ?_ (each_cons _ rfl ?_ (each_nil)))
          ·
           refine qo0 1 [(4, .go (owns 0 1 1))] [3, 64, 69, 71, 72] [(68, .slice (some ⟨g173, 0, none⟩) m m)] ?_
           refine od_ ?_
           refine a1 6 rfl ?_
           refine qo0 1 [(6, .go (owns 5 0 1))] [64, 68, 69, 71, 72] [(70, .int .i64 ((j + 1 : Nat)))] ?_
           refine od_ ?_
           refine tk (m := 5) [9] [] [64, 68, 69] [(73, .agg #[.int .i64 ((j + 1 : Nat)), .int .i64 k, .int .u32 h, .int .u32 s])] ([]) #[true, true, true, true, true, true, true, true, true, true, false, false, false, false, false] al0 ?_
           refine a1 10 rfl ?_
           refine mo0 1 [] [64, 68, 69] (fun γ729 => [(74, .slice (some ⟨γ729 0, 0, none⟩) 1 1)]) (fun γ729 L => bx (γ729 0) (#[.int .i64 ((j + 1 : Nat)), .int .i64 k, .int .u32 h, .int .u32 s]) 43 :: L) (fun γ729 => ?_)
           refine od_ ?_
           exact any_weak (hm fun i => [γ729 0].getD i 0) [64, 68, 69, 74] (by kernel_rfl) rfl rfl rfl
          ·
           refine qo0 1 [(6, .go (owns 5 0 1))] [64, 67, 69, 71, 72] [(70, .int .i64 ((j + 1 : Nat)))] ?_
           refine od_ ?_
           refine tk (m := 6) [9] [] [64, 67, 69] [(73, .agg #[.int .i64 ((j + 1 : Nat)), .int .i64 k, .int .u32 h, .int .u32 s])] ([]) #[true, true, true, true, false, true, true, true, true, true, false, false, false, false, false] al0 ?_
           refine any_fork [4, 10] (by kernel_rfl) (by simp) (each_cons _ rfl ?_ (each_cons _ rfl ?_ (each_nil)))
           ·
            refine qo0 1 [(4, .go (owns 0 1 1))] [64, 69, 73] [(68, .slice (some ⟨g173, 0, none⟩) m m)] ?_
            refine od_ ?_
            refine a1 10 rfl ?_
            refine mo0 1 [] [64, 68, 69] (fun γ733 => [(74, .slice (some ⟨γ733 0, 0, none⟩) 1 1)]) (fun γ733 L => bx (γ733 0) (#[.int .i64 ((j + 1 : Nat)), .int .i64 k, .int .u32 h, .int .u32 s]) 43 :: L) (fun γ733 => ?_)
            refine od_ ?_
            exact any_weak (hm fun i => [γ733 0].getD i 0) [64, 68, 69, 74] (by kernel_rfl) rfl rfl rfl
           ·
            refine mo0 1 [] [64, 67, 69] (fun γ734 => [(74, .slice (some ⟨γ734 0, 0, none⟩) 1 1)]) (fun γ734 L => bx (γ734 0) (#[.int .i64 ((j + 1 : Nat)), .int .i64 k, .int .u32 h, .int .u32 s]) 43 :: L) (fun γ734 => ?_)
            refine od_ ?_
            refine a1 4 rfl ?_
            refine qo0 1 [(4, .go (owns 1 1 1))] [64, 69, 74] [(68, .slice (some ⟨g173, 0, none⟩) m m)] ?_
            refine od_ ?_
            exact any_weak (hm fun i => [γ734 0].getD i 0) [64, 68, 69, 74] (by kernel_rfl) rfl rfl rfl
       refine a1 11 rfl ?_
       refine Ops.pick [[bx (γ611 0) (#[.int .i64 ((j + 1 : Nat)), .int .i64 k, .int .u32 h, .int .u32 s]) 43], [bx (γ213 0) (#[.slice (some ⟨g93, 0, none⟩) n n, .slice (some ⟨g173, 0, none⟩) m m]) 25], [bx g173 ((sets c173 0 (vs.flatMap Enc.enc))) 43], [bx g93 ((sets c93 0 (ds.flatMap Enc.enc))) 32], [bx (γ4 1) (#[.slice none 0 0, .slice none 0 0]) 25], [bx (γ4 0) (#[.slice p n cap, .slice q m capv]) 25], [bx (γ2 0) (#[.int .i64 ((j + 1 : Nat))]) 3], [bx (γ1 3) (#[.slice none 0 0, .slice none 0 0]) 25], [bx (γ1 2) (#[.int .u32 h, .int .u32 s]) 41], [bx (γ1 1) (#[.int .i64 k]) 3], [bx (γ1 0) (#[.slice p n cap, .slice q m capv]) 25]] [0, 1, 3, 4, 5, 6, 7, 8, 9, 10, 2] [] ([bx (γ611 0) (#[.int .i64 ((j + 1 : Nat)), .int .i64 k, .int .u32 h, .int .u32 s]) 43, bx (γ213 0) (#[.slice (some ⟨g93, 0, none⟩) n n, .slice (some ⟨g173, 0, none⟩) m m]) 25, bx g93 ((sets c93 0 (ds.flatMap Enc.enc))) 32, bx (γ4 1) (#[.slice none 0 0, .slice none 0 0]) 25, bx (γ4 0) (#[.slice p n cap, .slice q m capv]) 25, bx (γ2 0) (#[.int .i64 ((j + 1 : Nat))]) 3, bx (γ1 3) (#[.slice none 0 0, .slice none 0 0]) 25, bx (γ1 2) (#[.int .u32 h, .int .u32 s]) 41, bx (γ1 1) (#[.int .i64 k]) 3, bx (γ1 0) (#[.slice p n cap, .slice q m capv]) 25, bx g173 ((sets c173 0 (vs.flatMap Enc.enc))) 43]) (by kernel_rfl) rfl rfl (cP (fun v L' => ∃ q_ capq_ Y_, v = .slice q_ (m + 1) capq_ ∧ L' = [bx (γ213 0) (#[.slice (some ⟨g93, 0, none⟩) n n, .slice (some ⟨g173, 0, none⟩) m m]) 25, bx g93 ((sets c93 0 (ds.flatMap Enc.enc))) 32, bx (γ4 1) (#[.slice none 0 0, .slice none 0 0]) 25, bx (γ4 0) (#[.slice p n cap, .slice q m capv]) 25, bx (γ2 0) (#[.int .i64 ((j + 1 : Nat))]) 3, bx (γ1 3) (#[.slice none 0 0, .slice none 0 0]) 25, bx (γ1 2) (#[.int .u32 h, .int .u32 s]) 41, bx (γ1 1) (#[.int .i64 k]) 3, bx (γ1 0) (#[.slice p n cap, .slice q m capv]) 25] ++ (Y_ ++ []) ∧ SlO 43 Y_ q_ (m + 1) capq_ (vs.take j ++ [⟨(j + 1 : Nat), k, h, s⟩] ++ vs.drop j)) Try.call54 (fun w hw => (insertV_d _ ([bx (γ213 0) (#[.slice (some ⟨g93, 0, none⟩) n n, .slice (some ⟨g173, 0, none⟩) m m]) 25, bx g93 ((sets c93 0 (ds.flatMap Enc.enc))) 32, bx (γ4 1) (#[.slice none 0 0, .slice none 0 0]) 25, bx (γ4 0) (#[.slice p n cap, .slice q m capv]) 25, bx (γ2 0) (#[.int .i64 ((j + 1 : Nat))]) 3, bx (γ1 3) (#[.slice none 0 0, .slice none 0 0]) 25, bx (γ1 2) (#[.int .u32 h, .int .u32 s]) 41, bx (γ1 1) (#[.int .i64 k]) 3, bx (γ1 0) (#[.slice p n cap, .slice q m capv]) 25] ++ []) [bx g173 ((sets c173 0 (vs.flatMap Enc.enc))) 43] (some ⟨g173, 0, none⟩) m m vs j (γ611 0) (#[.int .i64 ((j + 1 : Nat)), .int .i64 k, .int .u32 h, .int .u32 s]) 1 ([⟨(j + 1 : Nat), k, h, s⟩]) w (hw.pull (A := [bx (γ213 0) (#[.slice (some ⟨g93, 0, none⟩) n n, .slice (some ⟨g173, 0, none⟩) m m]) 25, bx g93 ((sets c93 0 (ds.flatMap Enc.enc))) 32, bx (γ4 1) (#[.slice none 0 0, .slice none 0 0]) 25, bx (γ4 0) (#[.slice p n cap, .slice q m capv]) 25, bx (γ2 0) (#[.int .i64 ((j + 1 : Nat))]) 3, bx (γ1 3) (#[.slice none 0 0, .slice none 0 0]) 25, bx (γ1 2) (#[.int .u32 h, .int .u32 s]) 41, bx (γ1 1) (#[.int .i64 k]) 3, bx (γ1 0) (#[.slice p n cap, .slice q m capv]) 25]) (Y := [bx g173 ((sets c173 0 (vs.flatMap Enc.enc))) 43]) (R := [])) hO324 (by rfl) (by rfl) (by omega) (by omega) (by omega) (by omega)).mono fun e w' ⟨q_, capq_, Y_, he, hO, hY⟩ => ⟨_, _, he, ⟨q_, capq_, Y_, rfl, rfl, hO⟩, hY.push⟩) ?_)
       rintro v736 L736 ⟨q736, cq736, Y736, rfl, rfl, hO736⟩
       refine od_ ?_
       refine tk (m := 1) [12, 13] [] [75] [(77, .pointer (some ⟨γ213 0, 1, none⟩))] ([]) #[true, true, true, true, true, true, true, true, true, true, true, true, true, true, false] al0 ?_
       refine a1 14 rfl ?_
       refine mo0 1 [(14, .go (owns 0 1 1))] [] (fun _ => []) (fun _ L => (L.set 0 (bx (γ213 0) (#[.slice (some ⟨g93, 0, none⟩) n n, .slice q736 (m + 1) cq736]) 25))) (fun _ => ?_)
       refine od_ ?_
       refine any_nil (by kernel_rfl) ?_
       refine ds_ (sq_ (qa0 [] [] [(5, .int .i64 0)] (ds_ (bk ([]) (.int .i64 0) (qo0 1 [] [4, 7] [(8, .int .i64 0)] (on_ (ds_ (sq_ (qa0 [] [4, 7, 8] [(37, .bool false)] (ds_ (f_ (at_skip (ds_ (sq_ (ma0 [(0, .go (owns 0 0 2)), (1, .go (owns 2 0 2))] [4] (fun _ => [(5, .int .i64 0)]) (fun _ L => (L.set 2 (bx (γ4 1) (#[.slice (some ⟨g93, 0, none⟩) n n, .slice q736 (m + 1) cq736]) 25))) (fun _ => ds_ (bk (owns 2 0 2) (.tuple #[.agg #[.slice (some ⟨g93, 0, none⟩) n n, .slice q736 (m + 1) cq736], .int .i64 0]) (mo0 6 [(7, .go (owns 0 0 2))] [6, 9] (fun γ743 => [(10, .pointer (some ⟨γ743 0, 0, none⟩)), (11, .int .i64 0)]) (fun γ743 L => bx (γ743 0) (#[.slice (some ⟨g93, 0, none⟩) n n, .slice q736 (m + 1) cq736]) 25 :: L) (fun γ743 => on_ (ds_ (sq_ ?_)))))))))))))))))))))
       refine at_any (by kernel_rfl) ?_
       refine tk (m := 5) [2] [] [6, 9, 10] [(20, .int .i64 0)] ([]) #[false, false, true, false, false, false] al0 ?_
       refine any_cut 0 #[true, true, true, true, true, true] ([(6, .pointer (some ⟨γ1 3, 0, none⟩)), (7, .int .i64 ((j + 1 : Nat))), (8, .int .i64 0)]) (bx (γ743 0) (#[.slice (some ⟨g93, 0, none⟩) n n, .slice q736 (m + 1) cq736]) 25 :: bx (γ213 0) (#[.slice (some ⟨g93, 0, none⟩) n n, .slice q736 (m + 1) cq736]) 25 :: bx g93 ((sets c93 0 (ds.flatMap Enc.enc))) 32 :: bx (γ4 1) (#[.slice (some ⟨g93, 0, none⟩) n n, .slice q736 (m + 1) cq736]) 25 :: bx (γ4 0) (#[.slice p n cap, .slice q m capv]) 25 :: bx (γ2 0) (#[.int .i64 ((j + 1 : Nat))]) 3 :: bx (γ1 3) (#[.slice (some ⟨g93, 0, none⟩) n n, .slice q736 (m + 1) cq736]) 25 :: bx (γ1 2) (#[.int .u32 h, .int .u32 s]) 41 :: bx (γ1 1) (#[.int .i64 k]) 3 :: bx (γ1 0) (#[.slice p n cap, .slice q m capv]) 25 :: (Y736 ++ [])) ?_ (fun hm => ?_)
       rotate_left
       ·
        refine any_fork [0, 1] (by kernel_rfl) (by simp) (each_cons _ rfl ?_ (each_cons _ rfl ?_ (each_nil)))
        ·
         refine qo0 1 [(0, .go (owns 0 0 2))] [6, 9, 20] [(18, .agg #[.slice (some ⟨g93, 0, none⟩) n n, .slice q736 (m + 1) cq736])] ?_
         refine od_ ?_
         refine any_fork [1, 3] (by kernel_rfl) (by simp) (each_cons _ rfl ?_ (each_cons _ rfl ?_ (each_nil)))
         ·
          refine qo0 1 [(1, .go (owns 5 0 1))] [6, 18, 20] [(19, .int .i64 ((j + 1 : Nat)))] ?_
          refine od_ ?_
          refine a1 3 rfl ?_
          refine mo0 1 [(3, .go (owns 6 0 2))] [6, 19, 20] (fun _ => []) (fun _ L => (L.set 6 (bx (γ1 3) (#[.slice (some ⟨g93, 0, none⟩) n n, .slice q736 (m + 1) cq736]) 25))) (fun _ => ?_)
          refine od_ ?_
          refine tk (m := 0) [4, 5] [] [6] [(7, .int .i64 ((j + 1 : Nat))), (8, .int .i64 0)] ([]) #[true, true, true, true, true, true] al0 ?_
          exact any_weak hm [6, 7, 8] (by kernel_rfl) rfl rfl rfl
         ·
          refine mo0 1 [(3, .go (owns 6 0 2))] [6, 9, 20] (fun _ => []) (fun _ L => (L.set 6 (bx (γ1 3) (#[.slice (some ⟨g93, 0, none⟩) n n, .slice q736 (m + 1) cq736]) 25))) (fun _ => ?_)
          refine od_ ?_
          refine a1 1 rfl ?_
          refine qo0 1 [(1, .go (owns 5 0 1))] [6, 20] [(19, .int .i64 ((j + 1 : Nat)))] ?_
          refine od_ ?_
          refine tk (m := 0) [4, 5] [] [6] [(7, .int .i64 ((j + 1 : Nat))), (8, .int .i64 0)] ([]) #[true, true, true, true, true, true] al0 ?_
          exact any_weak hm [6, 7, 8] (by kernel_rfl) rfl rfl rfl
        ·
         refine qo0 1 [(1, .go (owns 5 0 1))] [6, 10, 20] [(19, .int .i64 ((j + 1 : Nat)))] ?_
         refine od_ ?_
         refine a1 0 rfl ?_
         refine qo0 1 [(0, .go (owns 0 0 2))] [6, 19, 20] [(18, .agg #[.slice (some ⟨g93, 0, none⟩) n n, .slice q736 (m + 1) cq736])] ?_
         refine od_ ?_
         refine a1 3 rfl ?_
         refine mo0 1 [(3, .go (owns 6 0 2))] [6, 19, 20] (fun _ => []) (fun _ L => (L.set 6 (bx (γ1 3) (#[.slice (some ⟨g93, 0, none⟩) n n, .slice q736 (m + 1) cq736]) 25))) (fun _ => ?_)
         refine od_ ?_
         refine tk (m := 0) [4, 5] [] [6] [(7, .int .i64 ((j + 1 : Nat))), (8, .int .i64 0)] ([]) #[true, true, true, true, true, true] al0 ?_
         exact any_weak hm [6, 7, 8] (by kernel_rfl) rfl rfl rfl
       refine any_nil (by kernel_rfl) ?_
       refine ds_ (rt (owns 6 0 2) (.tuple #[.agg #[.slice (some ⟨g93, 0, none⟩) n n, .slice q736 (m + 1) cq736], .int .i64 ((j + 1 : Nat)), .int .i64 0]) ?_)
       exact fun w' hw => by rw [(addN_ok (addV_ok q6 hg329 q357 (by omega) (gap_end hI (by omega))) (gap_end hI (by omega))), addV_ok q6 hg329 q357 (by omega) (gap_end hI (by omega))]; exact ⟨_, _, _, _, _, _, _, _, rfl, hO321, hO736, hw.below, two_tails (Hs.pick [[bx (γ743 0) (#[.slice (some ⟨g93, 0, none⟩) n n, .slice q736 (m + 1) cq736]) 25], [bx (γ213 0) (#[.slice (some ⟨g93, 0, none⟩) n n, .slice q736 (m + 1) cq736]) 25], [bx g93 ((sets c93 0 (ds.flatMap Enc.enc))) 32], [bx (γ4 1) (#[.slice (some ⟨g93, 0, none⟩) n n, .slice q736 (m + 1) cq736]) 25], [bx (γ4 0) (#[.slice p n cap, .slice q m capv]) 25], [bx (γ2 0) (#[.int .i64 ((j + 1 : Nat))]) 3], [bx (γ1 3) (#[.slice (some ⟨g93, 0, none⟩) n n, .slice q736 (m + 1) cq736]) 25], [bx (γ1 2) (#[.int .u32 h, .int .u32 s]) 41], [bx (γ1 1) (#[.int .i64 k]) 3], [bx (γ1 0) (#[.slice p n cap, .slice q m capv]) 25], Y736] [2, 10] [0, 1, 3, 4, 5, 6, 7, 8, 9] (by kernel_rfl) hw)⟩
end Go.Proofs.Ytnoefldpkfpglaa

/-! Domains: the layer does something. -/
namespace Go.Proofs.Ytnoefldpkfpglaa
open Go Go.RowKit

set_option maxRecDepth 100000 in
theorem wakes_d  (w : World)
 : Calls Try.prog 8 #[] w fun e w' => e = .returned (.bool true) ∧ Below w.heap.size w w' := by
 refine enter (Hs.start w) Try.func8 rfl Try.ntmps8 rfl (sq_ (qa0 [] [] [] (ds_ (sq_ (ao_ (qo0 2 [] [] [(11, .agg #[.slice none 0 0, .slice none 0 0]), (12, .agg #[.int .i64 2, .int .i64 256, .int .i64 0, .int .i64 0])] (cP (fun v L' => ∃ q_ m_ c_ Y_ q2_ m2_ c2_ X_, v = .tuple #[.agg #[.slice q_ m_ c_, .slice q2_ m2_ c2_], .int .i64 0] ∧ L' = List.take 0 ([]) ++ (Y_ ++ (X_ ++ List.drop 0 ([]))) ∧ SlO 32 Y_ q_ m_ c_ ([⟨2, 256, 0, 0⟩] : List Dom) ∧ SlO 43 X_ q2_ m2_ c2_ ([] : List Vcp)) Try.call29 (fun w hw => by have := create_d none 0 0 [] none 0 0 [] ⟨2, 256, 0, 0⟩ w Sv.nil rfl (by omega) Sv.nil rfl (by omega); rw [wk1] at this; exact this.mono fun e w' ⟨q_, m_, c_, Y_, q2_, m2_, c2_, X_, he, h1, h2, hb, hY⟩ => ⟨_, _, he, ⟨q_, m_, c_, Y_, q2_, m2_, c2_, X_, rfl, rfl, h1, h2⟩, hw.join2 hb hY 0⟩) ?_)))))))
 rintro v3 L3 ⟨q3, m3, c3, Y3, p3, k3, d3, Yx3, rfl, rfl, hO3, hP3⟩
 have hm3 := hO3.len
 have hn3 := hP3.len
 simp only [List.length_cons, List.length_nil] at hm3 hn3
 refine mo0 6 [(7, .go (owns 0 0 2))] [] (fun γ4 => [(1, .pointer (some ⟨γ4 0, 0, none⟩)), (2, .int .i64 0)]) (fun γ4 L => bx (γ4 0) (#[.slice q3 m3 c3, .slice p3 k3 d3]) 25 :: L) (fun γ4 => on_ (ds_ (sq_ (ao_ (qo0 2 [(0, .go (owns 0 0 2))] [1, 2] [(17, .agg #[.slice q3 m3 c3, .slice p3 k3 d3]), (18, .agg #[.int .u32 1, .int .u32 0])] (cP (fun v L' => ∃ q_ m_ c_ Y_ q2_ m2_ c2_ X_, v = .tuple #[.agg #[.slice q_ m_ c_, .slice q2_ m2_ c2_], .int .i64 1, .int .i64 0] ∧ L' = List.take 1 (bx (γ4 0) (#[.slice q3 m3 c3, .slice p3 k3 d3]) 25 :: (Y3 ++ (Yx3 ++ []))) ++ (Y_ ++ (X_ ++ List.drop 1 (bx (γ4 0) (#[.slice q3 m3 c3, .slice p3 k3 d3]) 25 :: (Y3 ++ (Yx3 ++ []))))) ∧ SlO 32 Y_ q_ m_ c_ ([⟨2, 256, 0, 0⟩] : List Dom) ∧ SlO 43 X_ q2_ m2_ c2_ ([⟨1, 2, 1, 0⟩] : List Vcp)) Try.call16 (fun w hw => by have := add_d q3 m3 c3 (([⟨2, 256, 0, 0⟩] : List Dom)) p3 k3 d3 (([] : List Vcp)) 2 1 0 w (hO3.atN (A := [_]) hw) hO3.len (by omega) (hP3.atN (A := (_ :: Y3)) hw) hP3.len (by omega); rw [wk2.1, wk2.2] at this; exact this.mono fun e w' ⟨q_, m_, c_, Y_, q2_, m2_, c2_, X_, he, h1, h2, hb, hY⟩ => ⟨_, _, he, ⟨q_, m_, c_, Y_, q2_, m2_, c2_, X_, rfl, rfl, h1, h2⟩, hw.join2 hb hY 1⟩) ?_))))))
 rintro v6 L6 ⟨q6, m6, c6, Y6, p6, k6, d6, Yx6, rfl, rfl, hO6, hP6⟩
 have hm6 := hO6.len
 have hn6 := hP6.len
 simp only [List.length_cons, List.length_nil] at hm6 hn6
 refine mo0 7 [(7, .go (owns 0 0 2))] [1, 2] (fun _ => [(3, .int .i64 1), (4, .int .i64 0)]) (fun _ L => (L.set 0 (bx (γ4 0) (#[.slice q6 m6 c6, .slice p6 k6 d6]) 25))) (fun _ => on_ (ds_ (sq_ (ao_ (qo0 2 [(0, .go (owns 0 0 2))] [1, 2, 3, 4] [(24, .agg #[.slice q6 m6 c6, .slice p6 k6 d6]), (25, .agg #[.int .u32 1, .int .u32 0])] (cP (fun v L' => ∃ q_ m_ c_ Y_ q2_ m2_ c2_ X_, v = .tuple #[.agg #[.slice q_ m_ c_, .slice q2_ m2_ c2_], .int .i64 2, .int .i64 0] ∧ L' = List.take 1 (bx (γ4 0) (#[.slice q6 m6 c6, .slice p6 k6 d6]) 25 :: (Y6 ++ (Yx6 ++ (Y3 ++ (Yx3 ++ []))))) ++ (Y_ ++ (X_ ++ List.drop 1 (bx (γ4 0) (#[.slice q6 m6 c6, .slice p6 k6 d6]) 25 :: (Y6 ++ (Yx6 ++ (Y3 ++ (Yx3 ++ []))))))) ∧ SlO 32 Y_ q_ m_ c_ ([⟨2, 256, 0, 0⟩] : List Dom) ∧ SlO 43 X_ q2_ m2_ c2_ ([⟨1, 2, 1, 0⟩, ⟨2, 2, 1, 0⟩] : List Vcp)) Try.call16 (fun w hw => by have := add_d q6 m6 c6 (([⟨2, 256, 0, 0⟩] : List Dom)) p6 k6 d6 (([⟨1, 2, 1, 0⟩] : List Vcp)) 2 1 0 w (hO6.atN (A := [_]) hw) hO6.len (by omega) (hP6.atN (A := (_ :: Y6)) hw) hP6.len (by omega); rw [wk3.1, wk3.2] at this; exact this.mono fun e w' ⟨q_, m_, c_, Y_, q2_, m2_, c2_, X_, he, h1, h2, hb, hY⟩ => ⟨_, _, he, ⟨q_, m_, c_, Y_, q2_, m2_, c2_, X_, rfl, rfl, h1, h2⟩, hw.join2 hb hY 1⟩) ?_))))))
 rintro v9 L9 ⟨q9, m9, c9, Y9, p9, k9, d9, Yx9, rfl, rfl, hO9, hP9⟩
 have hm9 := hO9.len
 have hn9 := hP9.len
 simp only [List.length_cons, List.length_nil] at hm9 hn9
 refine mo0 7 [(7, .go (owns 0 0 2))] [1, 2, 3, 4] (fun _ => [(5, .int .i64 2), (6, .int .i64 0)]) (fun _ L => (L.set 0 (bx (γ4 0) (#[.slice q9 m9 c9, .slice p9 k9 d9]) 25))) (fun _ => on_ (ds_ (sq_ (ao_ (qo0 1 [(0, .go (owns 0 0 2))] [2, 3, 4, 5, 6] [(31, .agg #[.slice q9 m9 c9, .slice p9 k9 d9])] (cD (.tuple #[.int .i64 256, .int .i64 2, .bool true]) Try.call12 (fun w hw => by have := rate_d q9 m9 c9 (([⟨2, 256, 0, 0⟩] : List Dom)) p9 k9 d9 (([⟨1, 2, 1, 0⟩, ⟨2, 2, 1, 0⟩] : List Vcp)) 2 w (hO9.atN (A := [_]) hw) hO9.len (by omega) (hP9.atN (A := (_ :: Y9)) hw) hP9.len (by omega); rw [wk4] at this; exact this) (qo0 7 [] [2, 3, 4, 5, 6] [(7, .int .i64 256), (8, .int .i64 2), (9, .bool true)] (on_ (ds_ (sq_ (qa0 [] [] [(0, .bool true)] (ds_ (rt ([]) (.bool true) ?_)))))))))))))
 exact fun w' hw => ⟨rfl, hw.below⟩
end Go.Proofs.Ytnoefldpkfpglaa

/-! Domains: the same ones. -/
namespace Go.Proofs.Ytnoefldpkfpglaa
open Go Go.RowKit
theorem dom_eqRun (op : BinOp) (hop : op = .eql ∨ op = .neq) (x y : Operand) (a b : Dom) (r : Bool) (hr : r = (if op = .eql then decide (a = b) else !decide (a = b))) : EqRun Try.prog op 32 x y (.agg #[.int .i64 a.id, .int .i64 a.weight, .int .i64 a.cap, .int .i64 a.pool]) (.agg #[.int .i64 b.id, .int .i64 b.weight, .int .i64 b.cap, .int .i64 b.pool]) r := by
 intro w
 subst hr
 have hS : Try.prog.underlying 32 = some (.struct (Try.prog.fieldsOf 32)) := by kernel_rfl
 have hp : Try.prog.stoodInHeld 32 = false := by kernel_rfl
 have hg : Try.prog.eqGuardType Try.prog.depth 32 = false := by kernel_rfl
 have key : (Op.equal 32 (.agg #[.int .i64 a.id, .int .i64 a.weight, .int .i64 a.cap, .int .i64 a.pool]) (.agg #[.int .i64 b.id, .int .i64 b.weight, .int .i64 b.cap, .int .i64 b.pool])).run Try.prog w = .ok (decide (a = b)) w := by
  unfold Op.equal
  rw [show Op.maxDepth = 9999 + 1 from rfl, run_equalIn_struct w 9999 32 _ _ hS hp]
  simp only [Program.fieldsOf, Try.underlying32]
  go_simp
  obtain ⟨a0, a1, a2, a3⟩ := a
  obtain ⟨b0, b1, b2, b3⟩ := b
  simp only [Dom.mk.injEq]
  by_cases h0 : a0 = b0 <;> by_cases h1 : a1 = b1 <;> by_cases h2 : a2 = b2 <;> by_cases h3 : a3 = b3 <;> simp [h0, h1, h2, h3]
 have guard : (eqGuard op 32 x y (.agg #[.int .i64 a.id, .int .i64 a.weight, .int .i64 a.cap, .int .i64 a.pool]) (.agg #[.int .i64 b.id, .int .i64 b.weight, .int .i64 b.cap, .int .i64 b.pool])).run Try.prog w = .ok () w := by
  unfold eqGuard
  rcases hop with rfl | rfl <;> simp [hg]
 rw [Sem.run_bind, guard]
 simp only [Result.andThen_ok]
 rcases hop with rfl | rfl <;> simp [binOp, Sem.run_bind, key]
theorem dom_ne_t {x y : Operand} {a b : Dom} (h : a = b) : EqRun Try.prog .neq 32 x y (.agg #[.int .i64 a.id, .int .i64 a.weight, .int .i64 a.cap, .int .i64 a.pool]) (.agg #[.int .i64 b.id, .int .i64 b.weight, .int .i64 b.cap, .int .i64 b.pool]) false := dom_eqRun _ (.inr rfl) x y a b _ (by simp [h])
theorem dom_ne_f {x y : Operand} {a b : Dom} (h : ¬ a = b) : EqRun Try.prog .neq 32 x y (.agg #[.int .i64 a.id, .int .i64 a.weight, .int .i64 a.cap, .int .i64 a.pool]) (.agg #[.int .i64 b.id, .int .i64 b.weight, .int .i64 b.cap, .int .i64 b.pool]) true := dom_eqRun _ (.inr rfl) x y a b _ (by simp [h])
theorem vcp_eqRun (op : BinOp) (hop : op = .eql ∨ op = .neq) (x y : Operand) (a b : Vcp) (r : Bool) (hr : r = (if op = .eql then decide (a = b) else !decide (a = b))) : EqRun Try.prog op 43 x y (.agg #[.int .i64 a.id, .int .i64 a.dom, .int .u32 a.hard, .int .u32 a.soft]) (.agg #[.int .i64 b.id, .int .i64 b.dom, .int .u32 b.hard, .int .u32 b.soft]) r := by
 intro w
 subst hr
 have hS : Try.prog.underlying 43 = some (.struct (Try.prog.fieldsOf 43)) := by kernel_rfl
 have hp : Try.prog.stoodInHeld 43 = false := by kernel_rfl
 have hg : Try.prog.eqGuardType Try.prog.depth 43 = false := by kernel_rfl
 have key : (Op.equal 43 (.agg #[.int .i64 a.id, .int .i64 a.dom, .int .u32 a.hard, .int .u32 a.soft]) (.agg #[.int .i64 b.id, .int .i64 b.dom, .int .u32 b.hard, .int .u32 b.soft])).run Try.prog w = .ok (decide (a = b)) w := by
  unfold Op.equal
  rw [show Op.maxDepth = 9999 + 1 from rfl, run_equalIn_struct w 9999 43 _ _ hS hp]
  simp only [Program.fieldsOf, Try.underlying43]
  go_simp
  obtain ⟨a0, a1, a2, a3⟩ := a
  obtain ⟨b0, b1, b2, b3⟩ := b
  simp only [Vcp.mk.injEq]
  by_cases h0 : a0 = b0 <;> by_cases h1 : a1 = b1 <;> by_cases h2 : a2 = b2 <;> by_cases h3 : a3 = b3 <;> simp [h0, h1, h2, h3]
 have guard : (eqGuard op 43 x y (.agg #[.int .i64 a.id, .int .i64 a.dom, .int .u32 a.hard, .int .u32 a.soft]) (.agg #[.int .i64 b.id, .int .i64 b.dom, .int .u32 b.hard, .int .u32 b.soft])).run Try.prog w = .ok () w := by
  unfold eqGuard
  rcases hop with rfl | rfl <;> simp [hg]
 rw [Sem.run_bind, guard]
 simp only [Result.andThen_ok]
 rcases hop with rfl | rfl <;> simp [binOp, Sem.run_bind, key]
theorem vcp_ne_t {x y : Operand} {a b : Vcp} (h : a = b) : EqRun Try.prog .neq 43 x y (.agg #[.int .i64 a.id, .int .i64 a.dom, .int .u32 a.hard, .int .u32 a.soft]) (.agg #[.int .i64 b.id, .int .i64 b.dom, .int .u32 b.hard, .int .u32 b.soft]) false := vcp_eqRun _ (.inr rfl) x y a b _ (by simp [h])
theorem vcp_ne_f {x y : Operand} {a b : Vcp} (h : ¬ a = b) : EqRun Try.prog .neq 43 x y (.agg #[.int .i64 a.id, .int .i64 a.dom, .int .u32 a.hard, .int .u32 a.soft]) (.agg #[.int .i64 b.id, .int .i64 b.dom, .int .u32 b.hard, .int .u32 b.soft]) true := vcp_eqRun _ (.inr rfl) x y a b _ (by simp [h])

set_option maxRecDepth 100000 in
theorem equald_d (p : Option Addr) (n cap : Nat) (ds : List Dom) (p2 : Option Addr) (n2 cap2 : Nat) (ds2 : List Dom) (w : World)
 (hds : Sv w p ds) (hn : n = ds.length) (hb : n ≤ 1000)
 (hds2 : Sv w p2 ds2) (hn2 : n2 = ds2.length) (hb2 : n2 ≤ 1000)
 : Calls Try.prog 66 #[.slice p n cap, .slice p2 n2 cap2] w fun e w' => e = .returned (.bool (decide (ds = ds2))) ∧ Below w.heap.size w w' := by
 refine enter (Hs.start w) Try.func66 rfl Try.ntmps66 rfl (sq_ (qa0 [] [0, 1] [] (ds_ (sq_ (sq_ ?_)))))
 by_cases q3 : ((n : Nat) : Int) ≠ ((n2 : Nat) : Int)
 ·
  refine qa [(4, .yes)] [0, 1] [(10, .bool true)] ([((n : Nat) : Int) ≠ ((n2 : Nat) : Int)]) (al1 q3) (ds_ (t_ (sq_ (qa0 [] [] [(4, .bool false)] (ds_ (rt ([]) (.bool false) ?_))))))
  exact fun w' hw => ⟨by rw [dsame_len (l := ds) (l2 := ds2) (by omega)], hw.below⟩
 ·
  refine qa [(4, .no)] [0, 1] [(10, .bool false)] ([¬ (((n : Nat) : Int) ≠ ((n2 : Nat) : Int))]) (al1 q3) (ds_ (f_ (at_skip (ds_ (sq_ (sq_ (qa0 [] [0, 1] [(12, .int .i64 ((n : Nat))), (13, .int .i64 0)] (ds_ (at_block (at_loop (α := Nat) [0, 1, 12, 13] (fun j => [(0, .slice p n cap), (1, .slice p2 n2 cap2), (12, .int .i64 ((n : Nat))), (13, .int .i64 ((j : Nat)))]) (fun j => []) (fun j => j ≤ n ∧ ds.take j = ds2.take j) (fun j => n - j) 0 (by kernel_rfl) rfl ⟨Nat.zero_le _, rfl⟩ ?_))))))))))
  rintro j
  rintro ⟨hj, hIj⟩
  refine sq_ ?_
  by_cases q9 : ((j : Nat) : Int) < ((n : Nat) : Int)
  ·
   refine qa [(0, .yes)] [0, 1, 12, 13] [(14, .bool true)] ([((j : Nat) : Int) < ((n : Nat) : Int)]) (al1 q9) (ds_ (sq_ (t_ (at_skip (ds_ (sq_ (at_block (sq_ (qa0 [] [0, 1, 12, 13] [(5, .int .i64 ((j : Nat)))] (ds_ (sq_ ?_)))))))))))
   obtain ⟨b13, o13, rfl⟩ := hds.pos (i := j) (by omega)
   obtain ⟨x15, hx15⟩ := get_some (l := ds) (m := j) (by omega)
   obtain ⟨b17, o17, rfl⟩ := hds2.pos (i := j) (by omega)
   obtain ⟨x19, hx19⟩ := get_some (l := ds2) (m := j) (by omega)
   by_cases q21 : x15 = x19
   ·
    refine cq [(2, .at b13 o13 j), (3, .go (outs b13 (o13 + j * 4) [.int .i64 x15.id, .int .i64 x15.weight, .int .i64 x15.cap, .int .i64 x15.pool])), (6, .at b17 o17 j), (7, .go (outs b17 (o17 + j * 4) [.int .i64 x19.id, .int .i64 x19.weight, .int .i64 x19.cap, .int .i64 x19.pool])), (8, .eqs false)] [0, 1, 12, 13] [(24, .bool false)] ([(some ⟨b13, o13, none⟩ : Option Addr) = some ⟨b13, o13, none⟩, ((j : Nat)) = ((j : Nat) : Int), j < n] ++ (cellsP w b13 (o13 + j * 4) [.int .i64 x15.id, .int .i64 x15.weight, .int .i64 x15.cap, .int .i64 x15.pool] ++ ([(some ⟨b17, o17, none⟩ : Option Addr) = some ⟨b17, o17, none⟩, ((j : Nat)) = ((j : Nat) : Int), j < n2] ++ (cellsP w b17 (o17 + j * 4) [.int .i64 x19.id, .int .i64 x19.weight, .int .i64 x19.cap, .int .i64 x19.pool] ++ ([EqRun Try.prog .neq 32 (.tmp 19) (.tmp 23) (.agg #[.int .i64 x15.id, .int .i64 x15.weight, .int .i64 x15.cap, .int .i64 x15.pool]) (.agg #[.int .i64 x19.id, .int .i64 x19.weight, .int .i64 x19.cap, .int .i64 x19.pool]) false]))))) rfl (by kernel_rfl) (by kernel_rfl) (by kernel_rfl) (alA (al2 rfl (al2 rfl (al1 (by omega)))) (alA (rd_pre (hds.get hx15) _ rfl) (alA (al2 rfl (al2 rfl (al1 (by omega)))) (alA (rd_pre (hds2.get hx19) _ rfl) (al1 (dom_ne_t (a := x15) (b := x19) q21)))))) (ds_ (f_ (at_skip (done_block (ds_ (qa [(0, .fit)] [0, 1, 12] [(13, .int .i64 ((j + 1 : Nat)))] ([Fit .i64 ((j + 1 : Nat))]) (al1 (fit64 (by omega) (by omega))) ?_))))))
    exact dr [0, 1, 12, 13] (j + 1) ⟨by omega, dsame_on hIj hx15 hx19 (by assumption)⟩
   ·
    refine cq [(2, .at b13 o13 j), (3, .go (outs b13 (o13 + j * 4) [.int .i64 x15.id, .int .i64 x15.weight, .int .i64 x15.cap, .int .i64 x15.pool])), (6, .at b17 o17 j), (7, .go (outs b17 (o17 + j * 4) [.int .i64 x19.id, .int .i64 x19.weight, .int .i64 x19.cap, .int .i64 x19.pool])), (8, .eqs true)] [0, 1, 12, 13] [(24, .bool true)] ([(some ⟨b13, o13, none⟩ : Option Addr) = some ⟨b13, o13, none⟩, ((j : Nat)) = ((j : Nat) : Int), j < n] ++ (cellsP w b13 (o13 + j * 4) [.int .i64 x15.id, .int .i64 x15.weight, .int .i64 x15.cap, .int .i64 x15.pool] ++ ([(some ⟨b17, o17, none⟩ : Option Addr) = some ⟨b17, o17, none⟩, ((j : Nat)) = ((j : Nat) : Int), j < n2] ++ (cellsP w b17 (o17 + j * 4) [.int .i64 x19.id, .int .i64 x19.weight, .int .i64 x19.cap, .int .i64 x19.pool] ++ ([EqRun Try.prog .neq 32 (.tmp 19) (.tmp 23) (.agg #[.int .i64 x15.id, .int .i64 x15.weight, .int .i64 x15.cap, .int .i64 x15.pool]) (.agg #[.int .i64 x19.id, .int .i64 x19.weight, .int .i64 x19.cap, .int .i64 x19.pool]) true]))))) rfl (by kernel_rfl) (by kernel_rfl) (by kernel_rfl) (alA (al2 rfl (al2 rfl (al1 (by omega)))) (alA (rd_pre (hds.get hx15) _ rfl) (alA (al2 rfl (al2 rfl (al1 (by omega)))) (alA (rd_pre (hds2.get hx19) _ rfl) (al1 (dom_ne_f (a := x15) (b := x19) q21)))))) (ds_ (t_ (sq_ (qa0 [] [] [(4, .bool false)] (ds_ (rt ([]) (.bool false) ?_))))))
    exact fun w' hw => ⟨by rw [dsame_no hx15 hx19 (by assumption)], hw.below⟩
  ·
   refine qa [(0, .no)] [0, 1, 12, 13] [(14, .bool false)] ([¬ (((j : Nat) : Int) < ((n : Nat) : Int))]) (al1 q9) (ds_ (sq_ (f_ (at_leave _ rfl (ds_ (sq_ (qa0 [] [] [(4, .bool true)] (ds_ (rt ([]) (.bool true) ?_)))))))))
   exact fun w' hw => ⟨by rw [dsame_yes hIj (by omega) (by omega)], hw.below⟩

set_option maxRecDepth 100000 in
theorem equalv_d (q : Option Addr) (m capv : Nat) (vs : List Vcp) (q2 : Option Addr) (m2 capv2 : Nat) (vs2 : List Vcp) (w : World)
 (hvs : Sv w q vs) (hm : m = vs.length) (hmb : m ≤ 1000)
 (hvs2 : Sv w q2 vs2) (hm2 : m2 = vs2.length) (hmb2 : m2 ≤ 1000)
 : Calls Try.prog 67 #[.slice q m capv, .slice q2 m2 capv2] w fun e w' => e = .returned (.bool (decide (vs = vs2))) ∧ Below w.heap.size w w' := by
 refine enter (Hs.start w) Try.func67 rfl Try.ntmps67 rfl (sq_ (qa0 [] [0, 1] [] (ds_ (sq_ (sq_ ?_)))))
 by_cases q3 : ((m : Nat) : Int) ≠ ((m2 : Nat) : Int)
 ·
  refine qa [(4, .yes)] [0, 1] [(10, .bool true)] ([((m : Nat) : Int) ≠ ((m2 : Nat) : Int)]) (al1 q3) (ds_ (t_ (sq_ (qa0 [] [] [(4, .bool false)] (ds_ (rt ([]) (.bool false) ?_))))))
  exact fun w' hw => ⟨by rw [dsame_len (l := vs) (l2 := vs2) (by omega)], hw.below⟩
 ·
  refine qa [(4, .no)] [0, 1] [(10, .bool false)] ([¬ (((m : Nat) : Int) ≠ ((m2 : Nat) : Int))]) (al1 q3) (ds_ (f_ (at_skip (ds_ (sq_ (sq_ (qa0 [] [0, 1] [(12, .int .i64 ((m : Nat))), (13, .int .i64 0)] (ds_ (at_block (at_loop (α := Nat) [0, 1, 12, 13] (fun j => [(0, .slice q m capv), (1, .slice q2 m2 capv2), (12, .int .i64 ((m : Nat))), (13, .int .i64 ((j : Nat)))]) (fun j => []) (fun j => j ≤ m ∧ vs.take j = vs2.take j) (fun j => m - j) 0 (by kernel_rfl) rfl ⟨Nat.zero_le _, rfl⟩ ?_))))))))))
  rintro j
  rintro ⟨hj, hIj⟩
  refine sq_ ?_
  by_cases q9 : ((j : Nat) : Int) < ((m : Nat) : Int)
  ·
   refine qa [(0, .yes)] [0, 1, 12, 13] [(14, .bool true)] ([((j : Nat) : Int) < ((m : Nat) : Int)]) (al1 q9) (ds_ (sq_ (t_ (at_skip (ds_ (sq_ (at_block (sq_ (qa0 [] [0, 1, 12, 13] [(5, .int .i64 ((j : Nat)))] (ds_ (sq_ ?_)))))))))))
   obtain ⟨b13, o13, rfl⟩ := hvs.pos (i := j) (by omega)
   obtain ⟨x15, hx15⟩ := get_some (l := vs) (m := j) (by omega)
   obtain ⟨b17, o17, rfl⟩ := hvs2.pos (i := j) (by omega)
   obtain ⟨x19, hx19⟩ := get_some (l := vs2) (m := j) (by omega)
   by_cases q21 : x15 = x19
   ·
    refine cq [(2, .at b13 o13 j), (3, .go (outs b13 (o13 + j * 4) [.int .i64 x15.id, .int .i64 x15.dom, .int .u32 x15.hard, .int .u32 x15.soft])), (6, .at b17 o17 j), (7, .go (outs b17 (o17 + j * 4) [.int .i64 x19.id, .int .i64 x19.dom, .int .u32 x19.hard, .int .u32 x19.soft])), (8, .eqs false)] [0, 1, 12, 13] [(24, .bool false)] ([(some ⟨b13, o13, none⟩ : Option Addr) = some ⟨b13, o13, none⟩, ((j : Nat)) = ((j : Nat) : Int), j < m] ++ (cellsP w b13 (o13 + j * 4) [.int .i64 x15.id, .int .i64 x15.dom, .int .u32 x15.hard, .int .u32 x15.soft] ++ ([(some ⟨b17, o17, none⟩ : Option Addr) = some ⟨b17, o17, none⟩, ((j : Nat)) = ((j : Nat) : Int), j < m2] ++ (cellsP w b17 (o17 + j * 4) [.int .i64 x19.id, .int .i64 x19.dom, .int .u32 x19.hard, .int .u32 x19.soft] ++ ([EqRun Try.prog .neq 43 (.tmp 19) (.tmp 23) (.agg #[.int .i64 x15.id, .int .i64 x15.dom, .int .u32 x15.hard, .int .u32 x15.soft]) (.agg #[.int .i64 x19.id, .int .i64 x19.dom, .int .u32 x19.hard, .int .u32 x19.soft]) false]))))) rfl (by kernel_rfl) (by kernel_rfl) (by kernel_rfl) (alA (al2 rfl (al2 rfl (al1 (by omega)))) (alA (rd_pre (hvs.get hx15) _ rfl) (alA (al2 rfl (al2 rfl (al1 (by omega)))) (alA (rd_pre (hvs2.get hx19) _ rfl) (al1 (vcp_ne_t (a := x15) (b := x19) q21)))))) (ds_ (f_ (at_skip (done_block (ds_ (qa [(0, .fit)] [0, 1, 12] [(13, .int .i64 ((j + 1 : Nat)))] ([Fit .i64 ((j + 1 : Nat))]) (al1 (fit64 (by omega) (by omega))) ?_))))))
    exact dr [0, 1, 12, 13] (j + 1) ⟨by omega, dsame_on hIj hx15 hx19 (by assumption)⟩
   ·
    refine cq [(2, .at b13 o13 j), (3, .go (outs b13 (o13 + j * 4) [.int .i64 x15.id, .int .i64 x15.dom, .int .u32 x15.hard, .int .u32 x15.soft])), (6, .at b17 o17 j), (7, .go (outs b17 (o17 + j * 4) [.int .i64 x19.id, .int .i64 x19.dom, .int .u32 x19.hard, .int .u32 x19.soft])), (8, .eqs true)] [0, 1, 12, 13] [(24, .bool true)] ([(some ⟨b13, o13, none⟩ : Option Addr) = some ⟨b13, o13, none⟩, ((j : Nat)) = ((j : Nat) : Int), j < m] ++ (cellsP w b13 (o13 + j * 4) [.int .i64 x15.id, .int .i64 x15.dom, .int .u32 x15.hard, .int .u32 x15.soft] ++ ([(some ⟨b17, o17, none⟩ : Option Addr) = some ⟨b17, o17, none⟩, ((j : Nat)) = ((j : Nat) : Int), j < m2] ++ (cellsP w b17 (o17 + j * 4) [.int .i64 x19.id, .int .i64 x19.dom, .int .u32 x19.hard, .int .u32 x19.soft] ++ ([EqRun Try.prog .neq 43 (.tmp 19) (.tmp 23) (.agg #[.int .i64 x15.id, .int .i64 x15.dom, .int .u32 x15.hard, .int .u32 x15.soft]) (.agg #[.int .i64 x19.id, .int .i64 x19.dom, .int .u32 x19.hard, .int .u32 x19.soft]) true]))))) rfl (by kernel_rfl) (by kernel_rfl) (by kernel_rfl) (alA (al2 rfl (al2 rfl (al1 (by omega)))) (alA (rd_pre (hvs.get hx15) _ rfl) (alA (al2 rfl (al2 rfl (al1 (by omega)))) (alA (rd_pre (hvs2.get hx19) _ rfl) (al1 (vcp_ne_f (a := x15) (b := x19) q21)))))) (ds_ (t_ (sq_ (qa0 [] [] [(4, .bool false)] (ds_ (rt ([]) (.bool false) ?_))))))
    exact fun w' hw => ⟨by rw [dsame_no hx15 hx19 (by assumption)], hw.below⟩
  ·
   refine qa [(0, .no)] [0, 1, 12, 13] [(14, .bool false)] ([¬ (((j : Nat) : Int) < ((m : Nat) : Int))]) (al1 q9) (ds_ (sq_ (f_ (at_leave _ rfl (ds_ (sq_ (qa0 [] [] [(4, .bool true)] (ds_ (rt ([]) (.bool true) ?_)))))))))
   exact fun w' hw => ⟨by rw [dsame_yes hIj (by omega) (by omega)], hw.below⟩

set_option maxRecDepth 100000 in
theorem same_d (p : Option Addr) (n cap : Nat) (ds : List Dom) (q : Option Addr) (m capv : Nat) (vs : List Vcp) (p2 : Option Addr) (n2 cap2 : Nat) (ds2 : List Dom) (q2 : Option Addr) (m2 capv2 : Nat) (vs2 : List Vcp) (w : World)
 (hds : Sv w p ds) (hn : n = ds.length) (hb : n ≤ 1000)
 (hvs : Sv w q vs) (hm : m = vs.length) (hmb : m ≤ 1000)
 (hds2 : Sv w p2 ds2) (hn2 : n2 = ds2.length) (hb2 : n2 ≤ 1000)
 (hvs2 : Sv w q2 vs2) (hm2 : m2 = vs2.length) (hmb2 : m2 ≤ 1000)
 : Calls Try.prog 35 #[.agg #[.slice p n cap, .slice q m capv], .agg #[.slice p2 n2 cap2, .slice q2 m2 capv2]] w fun e w' => e = .returned (.bool (decide (ds = ds2) && decide (vs = vs2))) ∧ Below w.heap.size w w' := by
 refine enter (Hs.start w) Try.func35 rfl Try.ntmps35 rfl (sq_ (ma0 [] [] (fun γ1 => [(2, .pointer (some ⟨γ1 0, 0, none⟩)), (3, .pointer (some ⟨γ1 1, 0, none⟩))]) (fun γ1 L => bx (γ1 1) (#[.slice p2 n2 cap2, .slice q2 m2 capv2]) 25 :: bx (γ1 0) (#[.slice p n cap, .slice q m capv]) 25 :: L) (fun γ1 => ds_ (sq_ (ao_ (qo0 4 [(1, .go (owns 1 0 1)), (3, .go (owns 0 0 1))] [2, 3] [(6, .slice p n cap), (8, .slice p2 n2 cap2)] ?_))))))
 rcases q3 : decide (ds = ds2) with _ | _
 ·
  refine cD (.bool false) Try.call66 (fun w hw => by have := equald_d p n cap ds p2 n2 cap2 ds2 w (hds.kept hw.below) hn (by omega) (hds2.kept hw.below) hn2 (by omega); rw [q3] at this; exact this) (qo0 8 [] [] [(4, .bool false)] (on_ (ds_ (rt ([]) (.bool false) ?_))))
  exact fun w' hw => ⟨rfl, hw.below⟩
 ·
  refine cD (.bool true) Try.call66 (fun w hw => by have := equald_d p n cap ds p2 n2 cap2 ds2 w (hds.kept hw.below) hn (by omega) (hds2.kept hw.below) hn2 (by omega); rw [q3] at this; exact this) (qo0 5 [(7, .go (owns 1 1 1)), (9, .go (owns 0 1 1))] [] [(10, .bool true), (12, .slice q m capv), (14, .slice q2 m2 capv2)] ?_)
  rcases q6 : decide (vs = vs2) with _ | _
  ·
   refine cD (.bool false) Try.call67 (fun w hw => by have := equalv_d q m capv vs q2 m2 capv2 vs2 w (hvs.kept hw.below) hm (by omega) (hvs2.kept hw.below) hm2 (by omega); rw [q6] at this; exact this) (qo0 2 [] [] [(4, .bool false)] (on_ (ds_ (rt ([]) (.bool false) ?_))))
   exact fun w' hw => ⟨rfl, hw.below⟩
  ·
   refine cD (.bool true) Try.call67 (fun w hw => by have := equalv_d q m capv vs q2 m2 capv2 vs2 w (hvs.kept hw.below) hm (by omega) (hvs2.kept hw.below) hm2 (by omega); rw [q6] at this; exact this) (qo0 2 [] [] [(4, .bool true)] (on_ (ds_ (rt ([]) (.bool true) ?_))))
   exact fun w' hw => ⟨rfl, hw.below⟩
end Go.Proofs.Ytnoefldpkfpglaa

/-! Domains: what the reference tells; plain. -/
namespace Go.Proofs.Ytnoefldpkfpglaa
open Go Go.RowKit

section
variable {α : Type} {f : α → Int} {l : List α} {x y : α} {k : Int} {j : Nat}
end
/-- What a look answers, as a row and a Bool. -/
def rowD (o : Option Dom) : Dom := o.getD ⟨0, 0, 0, 0⟩
def rowC (o : Option Vcp) : Vcp := o.getD ⟨0, 0, 0, 0⟩
theorem optD_row (o : Option Dom) : optD o = .tuple #[.agg #[.int .i64 (rowD o).id, .int .i64 (rowD o).weight, .int .i64 (rowD o).cap, .int .i64 (rowD o).pool], .bool o.isSome] := by cases o <;> rfl
theorem optC_row (o : Option Vcp) : optC o = .tuple #[.agg #[.int .i64 (rowC o).id, .int .i64 (rowC o).dom, .int .u32 (rowC o).hard, .int .u32 (rowC o).soft], .bool o.isSome] := by cases o <;> rfl
/-- Words that are words. -/
def Wrd (vs : List Vcp) : Prop := ∀ v ∈ vs, (0 ≤ v.hard ∧ v.hard < 4294967296) ∧ 0 ≤ v.soft ∧ v.soft < 4294967296
section
variable {ds : List Dom} {vs : List Vcp} {k h s : Int} {d : Dom} {v : Vcp} {j : Nat}
end
end Go.Proofs.Ytnoefldpkfpglaa

/-! Domains: guests made anew by their numbers; plain. -/
namespace Go.Proofs.Ytnoefldpkfpglaa
open Go Go.RowKit

section
variable {α : Type} {f : α → Int} {g : Int → Option α} {c : Nat} {x : α}
/-- The rows of the numbers 1 .. c. -/
def mkK (g : Int → Option α) (c : Nat) : List α := (List.range c).flatMap fun i => (g ((i + 1 : Nat) : Int)).toList
end
/-- The reference's rows: what stands in the number's place. -/
def gD (ds : List Dom) (d : Dom) (no : Int) (n : Int) : Option Dom := if n = no then none else if n = d.id then some d else getK Dom.id ds n
def gV (vs : List Vcp) (v : Vcp) (no : Int) (n : Int) : Option Vcp := if n = no then none else if 0 < v.dom ∧ n = v.id then some v else getK Vcp.id vs n
def madeD (ds : List Dom) (d : Dom) (no : Int) : List Dom := mkK (gD ds d no) 8
def madeV (vs : List Vcp) (v : Vcp) (no : Int) : List Vcp := mkK (gV vs v no) 16
section
variable {ds : List Dom} {vs : List Vcp} {k no n : Int} {d x : Dom} {v y : Vcp} {j : Nat}
/-- What the numbers of guests that may be are. -/
theorem GoodG.did (h : GoodG ds vs) (hx : x ∈ ds) : 1 ≤ x.id ∧ x.id ≤ 8 := by
  have := (h.dm x hx).1
  unfold mayB at this
  simp only [decide_eq_true_eq] at this
  omega
end
/-- Is that what must be? -/
def isB (ds : List Dom) (vs : List Vcp) (e : Int) (ds2 : List Dom) (vs2 : List Vcp) (no : Int) : Bool :=
  if no ≠ 0 then decide (e = no) && decide (ds.length = 0) && decide (vs.length = 0) else decide (e = 0) && (decide (ds = ds2) && decide (vs = vs2))
/-- The reference's search for the least number. -/
def freeL (vs : List Vcp) : Nat → Nat → Nat
  | 0, i => i
  | c + 1, i => freeL vs c (if (getK Vcp.id vs ((i : Nat) : Int)).isSome = true then i + 1 else i)
end Go.Proofs.Ytnoefldpkfpglaa

/-! Domains: what is made, changed, taken away is what must be; plain. -/
namespace Go.Proofs.Ytnoefldpkfpglaa
open Go Go.RowKit

/-- The errors that must be, as the law finds them. -/
def no1 (o : Bool) : Int := if o = true then 5 else 0
def nt1 (o : Bool) : Int := if o = true then 0 else 4
def ar2 (m : Bool) (x : Int) : Int := if m = true then x else 2
def ne3 (o : Bool) (c : Nat) : Int := if o = true then (if 0 < c then 8 else 0) else 4
def fin9 (g : Bool) (x : Int) : Int := if g = true then x else 190
section
variable {ds : List Dom} {vs : List Vcp} {d : Dom} {k : Int}
end
end Go.Proofs.Ytnoefldpkfpglaa

/-! Domains: vCPUs made, taken away, masked are what must be; plain. -/
namespace Go.Proofs.Ytnoefldpkfpglaa
open Go Go.RowKit

theorem gap_spec : ∀ (l : List Vcp) (i : Nat), i ≤ gapV l i ∧ gapV l i ≤ i + l.length ∧ (∀ j, i + j < gapV l i → ∃ x, l[j]? = some x ∧ x.id = ((i + j : Nat) : Int) + 1) ∧ ∀ x, l[gapV l i - i]? = some x → x.id ≠ (gapV l i : Int) + 1
  | [], i => ⟨Nat.le_refl _, Nat.le_refl _, fun j h => by simp only [gapV] at h; omega, fun x h => by simp at h⟩
  | v :: t, i => by
    by_cases e : v.id = (i : Int) + 1
    · have h := gap_spec t (i + 1)
      have g : gapV (v :: t) i = gapV t (i + 1) := by simp [gapV, e]
      rw [g]
      obtain ⟨a, b, c, d⟩ := h
      refine ⟨by omega, by rw [List.length_cons]; omega, fun j hj => ?_, fun x hx => ?_⟩
      · cases j with
        | zero => exact ⟨v, rfl, by rw [e]; simp⟩
        | succ j =>
          obtain ⟨x, hx, he⟩ := c j (by omega)
          exact ⟨x, by simpa using hx, by rw [he]; omega⟩
      · have : gapV t (i + 1) - i = (gapV t (i + 1) - (i + 1)) + 1 := by omega
        rw [this, List.getElem?_cons_succ] at hx
        exact d x hx
    · have g : gapV (v :: t) i = i := by simp [gapV, e]
      rw [g]
      refine ⟨Nat.le_refl _, by omega, fun j hj => by omega, fun x hx => ?_⟩
      rw [Nat.sub_self] at hx
      simp only [List.getElem?_cons_zero, Option.some.injEq] at hx
      rw [← hx]
      exact e
section
variable {ds : List Dom} {vs : List Vcp} {k hh ss : Int} {d : Dom} {v y : Vcp} {n : Nat}
theorem gap_none (h : GoodG ds vs) : getK Vcp.id vs ((gapV vs 0 + 1 : Nat) : Int) = none := by
  obtain ⟨_, b, c, e⟩ := gap_spec vs 0
  refine getK_none.2 fun x hx he => ?_
  obtain ⟨t, ht⟩ := List.getElem?_of_mem hx
  rcases Nat.lt_trichotomy t (gapV vs 0) with hlt | heq | hgt
  · obtain ⟨z, hz, hi⟩ := c t (by omega)
    rw [ht] at hz; cases hz; omega
  · subst heq
    exact e x (by simpa using ht) (by omega)
  · have hl : gapV vs 0 < vs.length := by have := (List.getElem?_eq_some_iff.1 ht).1; omega
    obtain ⟨z, hz⟩ : ∃ z, vs[gapV vs 0]? = some z := ⟨_, List.getElem?_eq_getElem hl⟩
    have h1 := h.vr.at hgt hz ht
    have h2 := e z (by simpa using hz)
    have h3 : (gapV vs 0 : Int) + 1 ≤ z.id := by
      by_cases g0 : gapV vs 0 = 0
      · have := (h.vm z (List.mem_of_getElem? hz)).1; omega
      · obtain ⟨u, hu, hi⟩ := c (gapV vs 0 - 1) (by omega)
        have := h.vr.at (show gapV vs 0 - 1 < gapV vs 0 by omega) hu hz
        omega
    omega
theorem gap_le : gapV vs 0 ≤ vs.length := by have := (gap_spec vs 0).2.1; omega
theorem gap_pos (h : GoodG ds vs) : posK Vcp.id vs ((gapV vs 0 + 1 : Nat) : Int) = gapV vs 0 := by
  obtain ⟨p1, p2, p3⟩ := pos_cut (k := ((gapV vs 0 + 1 : Nat) : Int)) h.vr
  obtain ⟨_, b, c, e⟩ := gap_spec vs 0
  rcases Nat.lt_trichotomy (posK Vcp.id vs ((gapV vs 0 + 1 : Nat) : Int)) (gapV vs 0) with hlt | heq | hgt
  · obtain ⟨x, hx, hi⟩ := c _ (by rw [Nat.zero_add]; exact hlt)
    have : x ∈ vs.drop (posK Vcp.id vs ((gapV vs 0 + 1 : Nat) : Int)) := List.mem_of_getElem? (i := 0) (by rw [List.getElem?_drop, Nat.add_zero]; exact hx)
    have := p2 x this
    omega
  · exact heq
  · have hl : gapV vs 0 < vs.length := by omega
    obtain ⟨z, hz⟩ : ∃ z, vs[gapV vs 0]? = some z := ⟨_, List.getElem?_eq_getElem hl⟩
    have hm : z ∈ vs.take (posK Vcp.id vs ((gapV vs 0 + 1 : Nat) : Int)) := List.mem_of_getElem? (i := gapV vs 0) (by rw [List.getElem?_take, if_pos hgt]; exact hz)
    have h1 := p1 z hm
    have h3 : (gapV vs 0 : Int) + 1 ≤ z.id := by
      by_cases g0 : gapV vs 0 = 0
      · have := (h.vm z (List.mem_of_getElem? hz)).1; omega
      · obtain ⟨u, hu, hi⟩ := c (gapV vs 0 - 1) (by omega)
        have := h.vr.at (show gapV vs 0 - 1 < gapV vs 0 by omega) hu hz
        omega
    omega
/-- The errors that must be. -/
def fu1 (n c : Nat) : Int := if 16 ≤ n ∨ 8 ≤ c then 6 else 0
def mk2 (m : Bool) (x : Int) : Int := if m = true then x else 170
def th3 (o : Bool) (x : Int) : Int := if o = true then x else 4
def fr4 (x : Int) (f : Int) : Int := if x = 0 then f else 0
/-- Adding: the error that must be. -/
def addE (ds : List Dom) (vs : List Vcp) (k hh ss : Int) : Int := fin9 (guestsB ds vs) (th3 (getK Dom.id ds k).isSome (mk2 (maskB hh ss) (fu1 vs.length (cntV vs k))))
end
end Go.Proofs.Ytnoefldpkfpglaa

/-! Domains: what is done keeps guests that may be, and leads back; plain. -/
namespace Go.Proofs.Ytnoefldpkfpglaa
open Go Go.RowKit

section
variable {ds : List Dom} {vs : List Vcp} {k hh ss : Int} {d x : Dom} {v y : Vcp} {n : Nat}
theorem cnt_zero (h : ∀ v ∈ vs, v.dom ≠ k) : cntV vs k = 0 := by
  unfold cntV
  rw [List.length_eq_zero_iff, List.filter_eq_nil_iff]
  intro v hv
  simpa using h v hv
theorem GoodG.cnt0 (h : GoodG ds vs) (e : getK Dom.id ds k = none) : cntV vs k = 0 := cnt_zero fun v hv he => by
  obtain ⟨_, _, _, d, hd, hi⟩ := h.vm v hv
  exact getK_none.1 e d hd (hi.trans he)
theorem cnt_pos (hv : v ∈ vs) : 0 < cntV vs v.dom := by
  unfold cntV
  exact List.length_pos_of_mem (List.mem_filter.2 ⟨hv, by simp⟩)
theorem get_insD (h : GoodG ds vs) (e : getK Dom.id ds d.id = none) : getK Dom.id (insK Dom.id ds d) d.id = some d := (getK_iff (ris_insK h.dr e)).2 ⟨mem_insK.2 (.inl rfl), rfl⟩
theorem create_good (h : GoodG ds vs) (m : mayB d = true) (e : getK Dom.id ds d.id = none) : GoodG (insK Dom.id ds d) vs := by
  refine ⟨ris_insK h.dr e, h.vr, fun z hz => ?_, fun v hv => ?_⟩
  · rcases mem_insK.1 hz with rfl | hz
    · exact ⟨m, by rw [h.cnt0 e]; omega⟩
    · exact h.dm z hz
  · obtain ⟨a, b, c, z, hz, hi⟩ := h.vm v hv
    exact ⟨a, b, c, z, mem_insK.2 (.inr hz), hi⟩
theorem del_insD (h : GoodG ds vs) (e : getK Dom.id ds d.id = none) : delK Dom.id (insK Dom.id ds d) d.id = ds :=
  ris_ext (ris_delK (ris_insK h.dr e) (get_insD h e)) h.dr fun z => by
    rw [mem_delK (ris_insK h.dr e) (get_insD h e), mem_insK]
    constructor
    · rintro ⟨rfl | hz, hne⟩
      · exact absurd rfl hne
      · exact hz
    · exact fun hz => ⟨.inr hz, getK_none.1 e z hz⟩
theorem change_good (h : GoodG ds vs) (m : mayB d = true) (e : getK Dom.id ds d.id = some x) : GoodG (putK Dom.id ds d) vs := by
  refine ⟨ris_putK h.dr e, h.vr, fun z hz => ?_, fun v hv => ?_⟩
  · rcases (mem_putK h.dr e).1 hz with rfl | ⟨hz, _⟩
    · refine ⟨m, ?_⟩
      have := (h.dm x (getK_mem e).1).2
      rwa [(getK_mem e).2] at this
    · exact h.dm z hz
  · obtain ⟨a, b, c, z, hz, hi⟩ := h.vm v hv
    by_cases q : z.id = d.id
    · exact ⟨a, b, c, d, (mem_putK h.dr e).2 (.inl rfl), by rw [← q]; exact hi⟩
    · exact ⟨a, b, c, z, (mem_putK h.dr e).2 (.inr ⟨hz, q⟩), hi⟩
theorem get_putD (h : GoodG ds vs) (e : getK Dom.id ds d.id = some x) : getK Dom.id (putK Dom.id ds d) d.id = some d := (getK_iff (ris_putK h.dr e)).2 ⟨(mem_putK h.dr e).2 (.inl rfl), rfl⟩
theorem put_putD (h : GoodG ds vs) (e : getK Dom.id ds d.id = some x) : putK Dom.id (putK Dom.id ds d) x = ds := by
  have hx := (getK_mem e).2
  have g : getK Dom.id (putK Dom.id ds d) x.id = some d := by rw [hx]; exact get_putD h e
  refine ris_ext (ris_putK (ris_putK h.dr e) g) h.dr fun z => ?_
  rw [mem_putK (ris_putK h.dr e) g, mem_putK h.dr e]
  constructor
  · rintro (rfl | ⟨rfl | ⟨hz, _⟩, hne⟩)
    · exact (getK_mem e).1
    · exact absurd hx.symm hne
    · exact hz
  · intro hz
    by_cases q : z.id = x.id
    · exact .inl (h.dr.inj hz (getK_mem e).1 q)
    · exact .inr ⟨.inr ⟨hz, by rw [← hx]; exact q⟩, q⟩
theorem destroy_good (h : GoodG ds vs) (e : getK Dom.id ds k = some x) (c : cntV vs k = 0) : GoodG (delK Dom.id ds k) vs := by
  refine ⟨ris_delK h.dr e, h.vr, fun z hz => h.dm z ((mem_delK h.dr e).1 hz).1, fun v hv => ?_⟩
  obtain ⟨a, b, c', z, hz, hi⟩ := h.vm v hv
  refine ⟨a, b, c', z, (mem_delK h.dr e).2 ⟨hz, fun q => ?_⟩, hi⟩
  have := cnt_pos hv
  rw [← hi, q, c] at this
  omega
theorem get_delD (h : GoodG ds vs) (e : getK Dom.id ds k = some x) : getK Dom.id (delK Dom.id ds k) k = none := getK_none.2 fun z hz => ((mem_delK h.dr e).1 hz).2
theorem ins_delD (h : GoodG ds vs) (e : getK Dom.id ds k = some x) : insK Dom.id (delK Dom.id ds k) x = ds := by
  have hx := (getK_mem e).2
  have g : getK Dom.id (delK Dom.id ds k) x.id = none := by rw [hx]; exact get_delD h e
  refine ris_ext (ris_insK (ris_delK h.dr e) g) h.dr fun z => ?_
  rw [mem_insK, mem_delK h.dr e]
  constructor
  · rintro (rfl | ⟨hz, _⟩)
    · exact (getK_mem e).1
    · exact hz
  · intro hz
    by_cases q : z.id = k
    · exact .inl (h.dr.inj hz (getK_mem e).1 (q.trans hx.symm))
    · exact .inr ⟨hz, q⟩
theorem cnt_app (a b : List Vcp) : cntV (a ++ b) k = cntV a k + cntV b k := by
  unfold cntV
  rw [List.filter_append, List.length_append]
theorem cnt_one : cntV [v] k = if v.dom = k then 1 else 0 := by
  unfold cntV
  by_cases h : v.dom = k <;> simp [h]
theorem cnt_ins : cntV (insK Vcp.id vs v) k = cntV vs k + if v.dom = k then 1 else 0 := by
  unfold insK
  rw [cnt_app, cnt_app, cnt_one]
  have := cnt_app (k := k) (vs.take (posK Vcp.id vs v.id)) (vs.drop (posK Vcp.id vs v.id))
  rw [List.take_append_drop] at this
  omega
theorem cnt_del (h : GoodG ds vs) {j : Int} (e : getK Vcp.id vs k = some y) : cntV (delK Vcp.id vs k) j ≤ cntV vs j := by
  rw [delK_filter h.vr e]
  unfold cntV
  exact ((List.filter_sublist (l := vs)).filter _).length_le
theorem cnt_set : ∀ (l : List Vcp) (i : Nat) (a b : Vcp), l[i]? = some a → b.dom = a.dom → cntV (l.set i b) k = cntV l k
  | [], i, a, b, h, _ => by simp at h
  | c :: t, 0, a, b, h, e => by
    simp only [List.getElem?_cons_zero, Option.some.injEq] at h
    subst h
    unfold cntV
    simp only [List.set_cons_zero, List.filter_cons, e]
    split <;> rfl
  | c :: t, i + 1, a, b, h, e => by
    have := cnt_set t i a b (by simpa using h) e
    unfold cntV at this ⊢
    simp only [List.set_cons_succ, List.filter_cons]
    split <;> simp only [List.length_cons, this]
/-- A vCPU is made. -/
theorem add_good (h : GoodG ds vs) (hd : getK Dom.id ds v.dom = some x) (hm : maskB v.hard v.soft = true) (hc : cntV vs v.dom < 8) (hi : 1 ≤ v.id ∧ v.id ≤ 16) (e : getK Vcp.id vs v.id = none) : GoodG ds (insK Vcp.id vs v) := by
  refine ⟨h.dr, ris_insK h.vr e, fun z hz => ⟨(h.dm z hz).1, ?_⟩, fun u hu => ?_⟩
  · rw [cnt_ins]
    have := (h.dm z hz).2
    by_cases q : v.dom = z.id
    · rw [if_pos q, ← q]; omega
    · rw [if_neg q]; omega
  · rcases mem_insK.1 hu with rfl | hu
    · exact ⟨hi.1, hi.2, hm, x, (getK_mem hd).1, (getK_mem hd).2⟩
    · exact h.vm u hu
theorem get_insV (h : GoodG ds vs) (e : getK Vcp.id vs v.id = none) : getK Vcp.id (insK Vcp.id vs v) v.id = some v := (getK_iff (ris_insK h.vr e)).2 ⟨mem_insK.2 (.inl rfl), rfl⟩
theorem del_insV (h : GoodG ds vs) (e : getK Vcp.id vs v.id = none) : delK Vcp.id (insK Vcp.id vs v) v.id = vs :=
  ris_ext (ris_delK (ris_insK h.vr e) (get_insV h e)) h.vr fun z => by
    rw [mem_delK (ris_insK h.vr e) (get_insV h e), mem_insK]
    constructor
    · rintro ⟨rfl | hz, hne⟩
      · exact absurd rfl hne
      · exact hz
    · exact fun hz => ⟨.inr hz, getK_none.1 e z hz⟩
/-- A vCPU is taken away. -/
theorem drop_good (h : GoodG ds vs) (e : getK Vcp.id vs k = some y) : GoodG ds (delK Vcp.id vs k) := by
  refine ⟨h.dr, ris_delK h.vr e, fun z hz => ⟨(h.dm z hz).1, ?_⟩, fun u hu => h.vm u ((mem_delK h.vr e).1 hu).1⟩
  have := (h.dm z hz).2
  have := cnt_del h (j := z.id) e
  omega
/-- A vCPU is masked. -/
theorem remask_good (h : GoodG ds vs) (e : getK Vcp.id vs v.id = some y) (hd : v.dom = y.dom) (hm : maskB v.hard v.soft = true) : GoodG ds (putK Vcp.id vs v) := by
  refine ⟨h.dr, ris_putK h.vr e, fun z hz => ⟨(h.dm z hz).1, ?_⟩, fun u hu => ?_⟩
  · unfold putK
    rw [cnt_set vs _ y v (pos_getK h.vr e) hd]
    exact (h.dm z hz).2
  · rcases (mem_putK h.vr e).1 hu with rfl | ⟨hu, _⟩
    · obtain ⟨a, b, _, d⟩ := h.vm y (getK_mem e).1
      rw [(getK_mem e).2] at a b
      exact ⟨a, b, hm, by rw [hd]; exact d⟩
    · exact h.vm u hu
theorem get_putV (h : GoodG ds vs) (e : getK Vcp.id vs v.id = some y) : getK Vcp.id (putK Vcp.id vs v) v.id = some v := (getK_iff (ris_putK h.vr e)).2 ⟨(mem_putK h.vr e).2 (.inl rfl), rfl⟩
theorem put_putV (h : GoodG ds vs) (e : getK Vcp.id vs v.id = some y) : putK Vcp.id (putK Vcp.id vs v) y = vs := by
  have hx := (getK_mem e).2
  have g : getK Vcp.id (putK Vcp.id vs v) y.id = some v := by rw [hx]; exact get_putV h e
  refine ris_ext (ris_putK (ris_putK h.vr e) g) h.vr fun z => ?_
  rw [mem_putK (ris_putK h.vr e) g, mem_putK h.vr e]
  constructor
  · rintro (rfl | ⟨rfl | ⟨hz, _⟩, hne⟩)
    · exact (getK_mem e).1
    · exact absurd hx.symm hne
    · exact hz
  · intro hz
    by_cases q : z.id = y.id
    · exact .inl (h.vr.inj hz (getK_mem e).1 q)
    · exact .inr ⟨.inr ⟨hz, by rw [← hx]; exact q⟩, q⟩
end
end Go.Proofs.Ytnoefldpkfpglaa
