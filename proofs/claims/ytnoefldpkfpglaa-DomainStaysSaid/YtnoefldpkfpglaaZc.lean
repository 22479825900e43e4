/- Texts of this proof, one behind the other. -/
import Derived.Test.YtnoefldpkfpglaaZb
/-! Domains: Change, Remask. -/
namespace Go.Proofs.Ytnoefldpkfpglaa
open Go Go.RowKit

set_option maxRecDepth 100000 in
theorem change_d (p : Option Addr) (n cap : Nat) (ds : List Dom) (q : Option Addr) (m capv : Nat) (vs : List Vcp) (d : Dom) (w : World)
 (hds : Sv w p ds) (hn : n = ds.length) (hb : n ≤ 1000)
 (hvs : Sv w q vs) (hm : m = vs.length) (hmb : m ≤ 1000)
 : Calls Try.prog 30 #[.agg #[.slice p n cap, .slice q m capv], .agg #[.int .i64 d.id, .int .i64 d.weight, .int .i64 d.cap, .int .i64 d.pool]] w fun e w' => ∃ q m capq Y q2 m2 capq2 X, e = .returned (.tuple #[.agg #[.slice q m capq, .slice q2 m2 capq2], .int .i64 (changeV ds vs d).2.2]) ∧ SlO 32 Y q m capq (changeV ds vs d).1 ∧ SlO 43 X q2 m2 capq2 (changeV ds vs d).2.1 ∧ Below w.heap.size w w' ∧ Hs w (Y ++ X) w' := by
 refine enter (Hs.start w) Try.func30 rfl Try.ntmps30 rfl (sq_ (ma0 [] [] (fun γ1 => [(2, .pointer (some ⟨γ1 0, 0, none⟩)), (3, .pointer (some ⟨γ1 1, 0, none⟩)), (4, .pointer (some ⟨γ1 2, 0, none⟩))]) (fun γ1 L => bx (γ1 2) (#[.slice none 0 0, .slice none 0 0]) 25 :: bx (γ1 1) (#[.int .i64 d.id, .int .i64 d.weight, .int .i64 d.cap, .int .i64 d.pool]) 32 :: bx (γ1 0) (#[.slice p n cap, .slice q m capv]) 25 :: L) (fun γ1 => ds_ (sq_ (ao_ (qo0 2 [(0, .go (owns 2 0 2))] [4] [(6, .agg #[.slice p n cap, .slice q m capv]), (7, .func (.func 63) #[] #[.pointer (some ⟨γ1 1, 0, none⟩)])] (ops_inline (g := 52) (args := #[.agg #[.slice p n cap, .slice q m capv], .func (.func 63) #[] #[.pointer (some ⟨γ1 1, 0, none⟩)]]) (by kernel_rfl) (by kernel_rfl) (by kernel_rfl) (fun args w => Try.call52 args w) Try.func52 rfl Try.ntmps52 rfl (sq_ (ma0 [] [1] (fun γ3 => [(2, .pointer (some ⟨γ3 0, 0, none⟩)), (4, .pointer (some ⟨γ3 1, 0, none⟩))]) (fun γ3 L => bx (γ3 1) (#[.slice none 0 0, .slice none 0 0]) 25 :: bx (γ3 0) (#[.slice p n cap, .slice q m capv]) 25 :: L) (fun γ3 => ds_ (sq_ (sq_ (ao_ (qo0 1 [(0, .go (owns 1 0 2))] [1, 2, 4] [(9, .agg #[.slice p n cap, .slice q m capv])] ?_))))))))))))))
 rcases q5 : guestsB ds vs with _ | _
 ·
  refine cD (.int .i64 190) Try.call10 (fun w hw => by have := gcheck_d p n cap ds q m capv vs w (hds.kept hw.below) hn (by omega) (hvs.kept hw.below) hm (by omega); rw [q5] at this; exact this) (qo0 1 [] [1, 2, 4] [(6, .int .i64 190)] (on_ (ds_ (sq_ (qa0 [] [1, 2, 4, 6] [(12, .bool true)] (ds_ (t_ (sq_ (qa0 [(2, .go (owns 0 0 2))] [4] [(5, .int .i64 190)] (ds_ (bk (owns 0 0 2) (.tuple #[.agg #[.slice none 0 0, .slice none 0 0], .int .i64 190]) (qo0 4 [(5, .go (owns 2 0 2))] [4] [(5, .int .i64 190)] (on_ (ds_ (rt (owns 2 0 2) (.tuple #[.agg #[.slice none 0 0, .slice none 0 0], .int .i64 190]) ?_)))))))))))))))
  exact fun w' hw => by rw [changeV_bad q5]; exact ⟨none, 0, 0, [], none, 0, 0, [], rfl, SlO.nil, SlO.nil, hw.below, hw.sub (List.nil_sublist _)⟩
 ·
  refine cD (.int .i64 0) Try.call10 (fun w hw => by have := gcheck_d p n cap ds q m capv vs w (hds.kept hw.below) hn (by omega) (hvs.kept hw.below) hm (by omega); rw [q5] at this; exact this) (qo0 1 [] [1, 2, 4] [(6, .int .i64 0)] (on_ (ds_ (sq_ (qa0 [] [1, 2, 4, 6] [(12, .bool false)] (ds_ (f_ (at_skip (ds_ (sq_ ?_))))))))))
  refine at_any (by kernel_rfl) ?_
  refine tk (m := 9) [0, 4] [] [1, 2, 4] [(15, .pointer (some ⟨γ3 0, 0, none⟩)), (19, .pointer (some ⟨γ3 0, 1, none⟩))] ([]) #[true, false, false, false, true, false, false, false, false, false, false] al0 ?_
  refine any_cutX (V := (Array Value) × (Array Value) × (Nat) × (Nat) × (Nat → Nat)) (fun ⟨c155, c75, g155, g75, γ195⟩ => c155.size = m * 4 ∧ c75.size = n * 4) 0 #[true, true, true, true, true, true, true, true, true, true, true] (fun ⟨c155, c75, g155, g75, γ195⟩ => [(1, .func (.func 63) #[] #[.pointer (some ⟨γ1 1, 0, none⟩)]), (2, .pointer (some ⟨γ3 0, 0, none⟩)), (4, .pointer (some ⟨γ3 1, 0, none⟩)), (7, .pointer (some ⟨γ195 0, 0, none⟩))]) (fun ⟨c155, c75, g155, g75, γ195⟩ => [bx (γ195 0) (#[.slice (some ⟨g75, 0, none⟩) n n, .slice (some ⟨g155, 0, none⟩) m m]) 25, bx g155 c155 43, bx g75 c75 32, bx (γ3 1) (#[.slice none 0 0, .slice none 0 0]) 25, bx (γ3 0) (#[.slice p n cap, .slice q m capv]) 25, bx (γ1 2) (#[.slice none 0 0, .slice none 0 0]) 25, bx (γ1 1) (#[.int .i64 d.id, .int .i64 d.weight, .int .i64 d.cap, .int .i64 d.pool]) 32, bx (γ1 0) (#[.slice p n cap, .slice q m capv]) 25]) ?_ (fun hmx18 => ?_)
  rotate_left
  ·
   refine any_cutX (V := (Array Value) × (Array Value) × (Nat) × (Nat) × (Nat → Nat)) (fun ⟨c155, c75, g155, g75, γ195⟩ => c155.size = m * 4 ∧ c75.size = n * 4) 1 #[true, true, true, true, true, true, true, true, true, true, false] (fun ⟨c155, c75, g155, g75, γ195⟩ => [(1, .func (.func 63) #[] #[.pointer (some ⟨γ1 1, 0, none⟩)]), (2, .pointer (some ⟨γ3 0, 0, none⟩)), (4, .pointer (some ⟨γ3 1, 0, none⟩)), (7, .pointer (some ⟨γ195 0, 0, none⟩)), (23, .agg #[.slice (some ⟨g75, 0, none⟩) n n, .slice (some ⟨g155, 0, none⟩) m m])]) (fun ⟨c155, c75, g155, g75, γ195⟩ => [bx (γ195 0) (#[.slice none 0 0, .slice none 0 0]) 25, bx g155 c155 43, bx g75 c75 32, bx (γ3 1) (#[.slice none 0 0, .slice none 0 0]) 25, bx (γ3 0) (#[.slice p n cap, .slice q m capv]) 25, bx (γ1 2) (#[.slice none 0 0, .slice none 0 0]) 25, bx (γ1 1) (#[.int .i64 d.id, .int .i64 d.weight, .int .i64 d.cap, .int .i64 d.pool]) 32, bx (γ1 0) (#[.slice p n cap, .slice q m capv]) 25]) ?_ (fun hmx17 => ?_)
   ·
    rintro ⟨c155, c75, g155, g75, γ195⟩ ⟨hc155, hc75⟩
    refine a1 10 rfl ?_
    refine mo0 1 [(10, .go (owns 0 0 2))] [1, 2, 4, 7] (fun _ => []) (fun _ L => (L.set 0 (bx (γ195 0) (#[.slice (some ⟨g75, 0, none⟩) n n, .slice (some ⟨g155, 0, none⟩) m m]) 25))) (fun _ => ?_)
    refine od_ ?_
    exact wk (hmx18 (c155, c75, g155, g75, γ195) ⟨hc155, hc75⟩) [1, 2, 4, 7] [[_], [_], [_], [_], [_], [_], [_], [_]] [0, 1, 2, 3, 4, 5, 6, 7] rfl rfl
   refine any_cutX (V := (Array Value) × (Array Value) × (Nat) × (Nat)) (fun ⟨c155, c75, g155, g75⟩ => c155.size = m * 4 ∧ c75.size = n * 4) 2 #[true, true, true, true, true, true, true, true, true, false, false] (fun ⟨c155, c75, g155, g75⟩ => [(1, .func (.func 63) #[] #[.pointer (some ⟨γ1 1, 0, none⟩)]), (2, .pointer (some ⟨γ3 0, 0, none⟩)), (4, .pointer (some ⟨γ3 1, 0, none⟩)), (23, .agg #[.slice (some ⟨g75, 0, none⟩) n n, .slice (some ⟨g155, 0, none⟩) m m])]) (fun ⟨c155, c75, g155, g75⟩ => [bx g155 c155 43, bx g75 c75 32, bx (γ3 1) (#[.slice none 0 0, .slice none 0 0]) 25, bx (γ3 0) (#[.slice p n cap, .slice q m capv]) 25, bx (γ1 2) (#[.slice none 0 0, .slice none 0 0]) 25, bx (γ1 1) (#[.int .i64 d.id, .int .i64 d.weight, .int .i64 d.cap, .int .i64 d.pool]) 32, bx (γ1 0) (#[.slice p n cap, .slice q m capv]) 25]) ?_ (fun hmx16 => ?_)
   ·
    rintro ⟨c155, c75, g155, g75⟩ ⟨hc155, hc75⟩
    refine a1 9 rfl ?_
    refine mo0 1 [] [1, 2, 4, 23] (fun γ195 => [(7, .pointer (some ⟨γ195 0, 0, none⟩))]) (fun γ195 L => bx (γ195 0) (#[.slice none 0 0, .slice none 0 0]) 25 :: L) (fun γ195 => ?_)
    refine od_ ?_
    exact wk (hmx17 (c155, c75, g155, g75, γ195) ⟨hc155, hc75⟩) [1, 2, 4, 7, 23] [[_], [_], [_], [_], [_], [_], [_], [_]] [0, 1, 2, 3, 4, 5, 6, 7] rfl rfl
   refine any_cutX (V := (Array Value) × (Nat) × (Nat → Nat)) (fun ⟨c155, g155, γ195⟩ => c155.size = m * 4) 3 #[true, true, true, false, true, true, true, true, false, true, false] (fun ⟨c155, g155, γ195⟩ => [(1, .func (.func 63) #[] #[.pointer (some ⟨γ1 1, 0, none⟩)]), (2, .pointer (some ⟨γ3 0, 0, none⟩)), (4, .pointer (some ⟨γ3 1, 0, none⟩)), (7, .pointer (some ⟨γ195 0, 0, none⟩)), (17, .int .i64 ((n : Nat))), (22, .slice (some ⟨g155, 0, none⟩) m m)]) (fun ⟨c155, g155, γ195⟩ => [bx (γ195 0) (#[.slice none 0 0, .slice none 0 0]) 25, bx g155 c155 43, bx (γ3 1) (#[.slice none 0 0, .slice none 0 0]) 25, bx (γ3 0) (#[.slice p n cap, .slice q m capv]) 25, bx (γ1 2) (#[.slice none 0 0, .slice none 0 0]) 25, bx (γ1 1) (#[.int .i64 d.id, .int .i64 d.weight, .int .i64 d.cap, .int .i64 d.pool]) 32, bx (γ1 0) (#[.slice p n cap, .slice q m capv]) 25]) ?_ (fun hmx15 => ?_)
   ·
    rintro ⟨c155, g155, γ195⟩ hc155
    refine a1 3 rfl ?_
    refine ops_make (T := 32) (ks := 4) (by_ := 32) (n := n) rfl (by kernel_rfl) (by kernel_rfl) (by kernel_rfl) (by kernel_rfl) (by kernel_rfl) (by omega) (by have hmx : maxLen = 9223372036854775807 := rfl; omega) (fun g75 c75 hc75 => ?_)
    refine od_ ?_
    refine tk (m := 1) [8] [] [1, 2, 4, 7] [(23, .agg #[.slice (some ⟨g75, 0, none⟩) n n, .slice (some ⟨g155, 0, none⟩) m m])] ([]) #[true, true, true, true, true, true, true, true, true, true, false] al0 ?_
    exact wk (hmx17 (c155, c75, g155, g75, γ195) ⟨hc155, hc75⟩) [1, 2, 4, 7, 23] [[_], [_], [_], [_], [_], [_], [_], [_]] [1, 2, 0, 3, 4, 5, 6, 7] rfl rfl
   refine any_cutX (V := (Array Value) × (Nat) × (Nat → Nat)) (fun ⟨c75, g75, γ195⟩ => c75.size = n * 4) 3 #[true, true, true, true, true, true, true, false, false, true, false] (fun ⟨c75, g75, γ195⟩ => [(1, .func (.func 63) #[] #[.pointer (some ⟨γ1 1, 0, none⟩)]), (2, .pointer (some ⟨γ3 0, 0, none⟩)), (4, .pointer (some ⟨γ3 1, 0, none⟩)), (7, .pointer (some ⟨γ195 0, 0, none⟩)), (18, .slice (some ⟨g75, 0, none⟩) n n), (21, .int .i64 ((m : Nat)))]) (fun ⟨c75, g75, γ195⟩ => [bx (γ195 0) (#[.slice none 0 0, .slice none 0 0]) 25, bx g75 c75 32, bx (γ3 1) (#[.slice none 0 0, .slice none 0 0]) 25, bx (γ3 0) (#[.slice p n cap, .slice q m capv]) 25, bx (γ1 2) (#[.slice none 0 0, .slice none 0 0]) 25, bx (γ1 1) (#[.int .i64 d.id, .int .i64 d.weight, .int .i64 d.cap, .int .i64 d.pool]) 32, bx (γ1 0) (#[.slice p n cap, .slice q m capv]) 25]) ?_ (fun hmx14 => ?_)
   ·
    rintro ⟨c75, g75, γ195⟩ hc75
    refine a1 7 rfl ?_
    refine ops_make (T := 43) (ks := 4) (by_ := 24) (n := m) rfl (by kernel_rfl) (by kernel_rfl) (by kernel_rfl) (by kernel_rfl) (by kernel_rfl) (by omega) (by have hmx : maxLen = 9223372036854775807 := rfl; omega) (fun g155 c155 hc155 => ?_)
    refine od_ ?_
    refine tk (m := 1) [8] [] [1, 2, 4, 7] [(23, .agg #[.slice (some ⟨g75, 0, none⟩) n n, .slice (some ⟨g155, 0, none⟩) m m])] ([]) #[true, true, true, true, true, true, true, true, true, true, false] al0 ?_
    exact wk (hmx17 (c155, c75, g155, g75, γ195) ⟨hc155, hc75⟩) [1, 2, 4, 7, 23] [[_], [_], [_], [_], [_], [_], [_], [_]] [1, 0, 2, 3, 4, 5, 6, 7] rfl rfl
   refine any_cutX (V := (Array Value) × (Nat)) (fun ⟨c155, g155⟩ => c155.size = m * 4) 4 #[true, true, true, false, true, true, true, true, false, false, false] (fun ⟨c155, g155⟩ => [(1, .func (.func 63) #[] #[.pointer (some ⟨γ1 1, 0, none⟩)]), (2, .pointer (some ⟨γ3 0, 0, none⟩)), (4, .pointer (some ⟨γ3 1, 0, none⟩)), (17, .int .i64 ((n : Nat))), (22, .slice (some ⟨g155, 0, none⟩) m m)]) (fun ⟨c155, g155⟩ => [bx g155 c155 43, bx (γ3 1) (#[.slice none 0 0, .slice none 0 0]) 25, bx (γ3 0) (#[.slice p n cap, .slice q m capv]) 25, bx (γ1 2) (#[.slice none 0 0, .slice none 0 0]) 25, bx (γ1 1) (#[.int .i64 d.id, .int .i64 d.weight, .int .i64 d.cap, .int .i64 d.pool]) 32, bx (γ1 0) (#[.slice p n cap, .slice q m capv]) 25]) ?_ (fun hmx13 => ?_)
   ·
    rintro ⟨c155, g155⟩ hc155
    refine any_fork [3, 9] (by kernel_rfl) (by simp) (each_cons _ rfl ?_ (each_cons _ rfl ?_ (each_nil)))
    ·
     refine ops_make (T := 32) (ks := 4) (by_ := 32) (n := n) rfl (by kernel_rfl) (by kernel_rfl) (by kernel_rfl) (by kernel_rfl) (by kernel_rfl) (by omega) (by have hmx : maxLen = 9223372036854775807 := rfl; omega) (fun g75 c75 hc75 => ?_)
     refine od_ ?_
     refine tk (m := 2) [8] [] [1, 2, 4] [(23, .agg #[.slice (some ⟨g75, 0, none⟩) n n, .slice (some ⟨g155, 0, none⟩) m m])] ([]) #[true, true, true, true, true, true, true, true, true, false, false] al0 ?_
     exact wk (hmx16 (c155, c75, g155, g75) ⟨hc155, hc75⟩) [1, 2, 4, 23] [[_], [_], [_], [_], [_], [_], [_]] [1, 0, 2, 3, 4, 5, 6] rfl rfl
    ·
     refine mo0 1 [] [1, 2, 4, 17, 22] (fun γ195 => [(7, .pointer (some ⟨γ195 0, 0, none⟩))]) (fun γ195 L => bx (γ195 0) (#[.slice none 0 0, .slice none 0 0]) 25 :: L) (fun γ195 => ?_)
     refine od_ ?_
     exact wk (hmx15 (c155, g155, γ195) hc155) [1, 2, 4, 7, 17, 22] [[_], [_], [_], [_], [_], [_], [_]] [0, 1, 2, 3, 4, 5, 6] rfl rfl
   refine any_cutX (V := (Array Value) × (Nat)) (fun ⟨c75, g75⟩ => c75.size = n * 4) 4 #[true, true, true, true, true, true, true, false, false, false, false] (fun ⟨c75, g75⟩ => [(1, .func (.func 63) #[] #[.pointer (some ⟨γ1 1, 0, none⟩)]), (2, .pointer (some ⟨γ3 0, 0, none⟩)), (4, .pointer (some ⟨γ3 1, 0, none⟩)), (18, .slice (some ⟨g75, 0, none⟩) n n), (21, .int .i64 ((m : Nat)))]) (fun ⟨c75, g75⟩ => [bx g75 c75 32, bx (γ3 1) (#[.slice none 0 0, .slice none 0 0]) 25, bx (γ3 0) (#[.slice p n cap, .slice q m capv]) 25, bx (γ1 2) (#[.slice none 0 0, .slice none 0 0]) 25, bx (γ1 1) (#[.int .i64 d.id, .int .i64 d.weight, .int .i64 d.cap, .int .i64 d.pool]) 32, bx (γ1 0) (#[.slice p n cap, .slice q m capv]) 25]) ?_ (fun hmx12 => ?_)
   ·
    rintro ⟨c75, g75⟩ hc75
    refine any_fork [7, 9] (by kernel_rfl) (by simp) (each_cons _ rfl ?_ (each_cons _ rfl ?_ (each_nil)))
    ·
     refine ops_make (T := 43) (ks := 4) (by_ := 24) (n := m) rfl (by kernel_rfl) (by kernel_rfl) (by kernel_rfl) (by kernel_rfl) (by kernel_rfl) (by omega) (by have hmx : maxLen = 9223372036854775807 := rfl; omega) (fun g155 c155 hc155 => ?_)
     refine od_ ?_
     refine tk (m := 2) [8] [] [1, 2, 4] [(23, .agg #[.slice (some ⟨g75, 0, none⟩) n n, .slice (some ⟨g155, 0, none⟩) m m])] ([]) #[true, true, true, true, true, true, true, true, true, false, false] al0 ?_
     exact wk (hmx16 (c155, c75, g155, g75) ⟨hc155, hc75⟩) [1, 2, 4, 23] [[_], [_], [_], [_], [_], [_], [_]] [0, 1, 2, 3, 4, 5, 6] rfl rfl
    ·
     refine mo0 1 [] [1, 2, 4, 18, 21] (fun γ195 => [(7, .pointer (some ⟨γ195 0, 0, none⟩))]) (fun γ195 L => bx (γ195 0) (#[.slice none 0 0, .slice none 0 0]) 25 :: L) (fun γ195 => ?_)
     refine od_ ?_
     exact wk (hmx14 (c75, g75, γ195) hc75) [1, 2, 4, 7, 18, 21] [[_], [_], [_], [_], [_], [_], [_]] [0, 1, 2, 3, 4, 5, 6] rfl rfl
   refine any_cutX (V := (Nat → Nat)) (fun γ195 => True) 4 #[true, true, true, false, true, true, true, false, false, true, false] (fun γ195 => [(1, .func (.func 63) #[] #[.pointer (some ⟨γ1 1, 0, none⟩)]), (2, .pointer (some ⟨γ3 0, 0, none⟩)), (4, .pointer (some ⟨γ3 1, 0, none⟩)), (7, .pointer (some ⟨γ195 0, 0, none⟩)), (17, .int .i64 ((n : Nat))), (21, .int .i64 ((m : Nat)))]) (fun γ195 => [bx (γ195 0) (#[.slice none 0 0, .slice none 0 0]) 25, bx (γ3 1) (#[.slice none 0 0, .slice none 0 0]) 25, bx (γ3 0) (#[.slice p n cap, .slice q m capv]) 25, bx (γ1 2) (#[.slice none 0 0, .slice none 0 0]) 25, bx (γ1 1) (#[.int .i64 d.id, .int .i64 d.weight, .int .i64 d.cap, .int .i64 d.pool]) 32, bx (γ1 0) (#[.slice p n cap, .slice q m capv]) 25]) ?_ (fun hmx11 => ?_)
   ·
    rintro γ195 _
    refine any_fork [3, 7] (by kernel_rfl) (by simp) (each_cons _ rfl ?_ (each_cons _ rfl ?_ (each_nil)))
    ·
     refine ops_make (T := 32) (ks := 4) (by_ := 32) (n := n) rfl (by kernel_rfl) (by kernel_rfl) (by kernel_rfl) (by kernel_rfl) (by kernel_rfl) (by omega) (by have hmx : maxLen = 9223372036854775807 := rfl; omega) (fun g75 c75 hc75 => ?_)
     refine od_ ?_
     exact wk (hmx14 (c75, g75, γ195) hc75) [1, 2, 4, 7, 18, 21] [[_], [_], [_], [_], [_], [_], [_]] [1, 0, 2, 3, 4, 5, 6] rfl rfl
    ·
     refine ops_make (T := 43) (ks := 4) (by_ := 24) (n := m) rfl (by kernel_rfl) (by kernel_rfl) (by kernel_rfl) (by kernel_rfl) (by kernel_rfl) (by omega) (by have hmx : maxLen = 9223372036854775807 := rfl; omega) (fun g155 c155 hc155 => ?_)
     refine od_ ?_
     exact wk (hmx15 (c155, g155, γ195) hc155) [1, 2, 4, 7, 17, 22] [[_], [_], [_], [_], [_], [_], [_]] [1, 0, 2, 3, 4, 5, 6] rfl rfl
   refine any_cutX (V := (Array Value) × (Nat) × (Nat → Nat)) (fun ⟨c155, g155, γ195⟩ => c155.size = m * 4) 5 #[true, false, false, false, true, true, true, true, false, true, false] (fun ⟨c155, g155, γ195⟩ => [(1, .func (.func 63) #[] #[.pointer (some ⟨γ1 1, 0, none⟩)]), (2, .pointer (some ⟨γ3 0, 0, none⟩)), (4, .pointer (some ⟨γ3 1, 0, none⟩)), (7, .pointer (some ⟨γ195 0, 0, none⟩)), (15, .pointer (some ⟨γ3 0, 0, none⟩)), (22, .slice (some ⟨g155, 0, none⟩) m m)]) (fun ⟨c155, g155, γ195⟩ => [bx (γ195 0) (#[.slice none 0 0, .slice none 0 0]) 25, bx g155 c155 43, bx (γ3 1) (#[.slice none 0 0, .slice none 0 0]) 25, bx (γ3 0) (#[.slice p n cap, .slice q m capv]) 25, bx (γ1 2) (#[.slice none 0 0, .slice none 0 0]) 25, bx (γ1 1) (#[.int .i64 d.id, .int .i64 d.weight, .int .i64 d.cap, .int .i64 d.pool]) 32, bx (γ1 0) (#[.slice p n cap, .slice q m capv]) 25]) ?_ (fun hmx10 => ?_)
   ·
    rintro ⟨c155, g155, γ195⟩ hc155
    refine a1 1 rfl ?_
    refine qo0 1 [(1, .go (owns 3 0 1))] [1, 2, 4, 7, 22] [(16, .slice p n cap)] ?_
    refine od_ ?_
    refine tk (m := 3) [2] [] [1, 2, 4, 7, 22] [(17, .int .i64 ((n : Nat)))] ([]) #[true, true, true, false, true, true, true, true, false, true, false] al0 ?_
    exact wk (hmx15 (c155, g155, γ195) hc155) [1, 2, 4, 7, 17, 22] [[_], [_], [_], [_], [_], [_], [_]] [0, 1, 2, 3, 4, 5, 6] rfl rfl
   refine any_cutX (V := (Array Value) × (Nat) × (Nat → Nat)) (fun ⟨c75, g75, γ195⟩ => c75.size = n * 4) 5 #[true, true, true, true, true, false, false, false, false, true, false] (fun ⟨c75, g75, γ195⟩ => [(1, .func (.func 63) #[] #[.pointer (some ⟨γ1 1, 0, none⟩)]), (2, .pointer (some ⟨γ3 0, 0, none⟩)), (4, .pointer (some ⟨γ3 1, 0, none⟩)), (7, .pointer (some ⟨γ195 0, 0, none⟩)), (18, .slice (some ⟨g75, 0, none⟩) n n), (19, .pointer (some ⟨γ3 0, 1, none⟩))]) (fun ⟨c75, g75, γ195⟩ => [bx (γ195 0) (#[.slice none 0 0, .slice none 0 0]) 25, bx g75 c75 32, bx (γ3 1) (#[.slice none 0 0, .slice none 0 0]) 25, bx (γ3 0) (#[.slice p n cap, .slice q m capv]) 25, bx (γ1 2) (#[.slice none 0 0, .slice none 0 0]) 25, bx (γ1 1) (#[.int .i64 d.id, .int .i64 d.weight, .int .i64 d.cap, .int .i64 d.pool]) 32, bx (γ1 0) (#[.slice p n cap, .slice q m capv]) 25]) ?_ (fun hmx9 => ?_)
   ·
    rintro ⟨c75, g75, γ195⟩ hc75
    refine a1 5 rfl ?_
    refine qo0 1 [(5, .go (owns 3 1 1))] [1, 2, 4, 7, 18] [(20, .slice q m capv)] ?_
    refine od_ ?_
    refine tk (m := 3) [6] [] [1, 2, 4, 7, 18] [(21, .int .i64 ((m : Nat)))] ([]) #[true, true, true, true, true, true, true, false, false, true, false] al0 ?_
    exact wk (hmx14 (c75, g75, γ195) hc75) [1, 2, 4, 7, 18, 21] [[_], [_], [_], [_], [_], [_], [_]] [0, 1, 2, 3, 4, 5, 6] rfl rfl
   refine any_cutX (V := Unit) (fun _ => True) 5 #[true, true, true, false, true, true, true, false, false, false, false] (fun _ => [(1, .func (.func 63) #[] #[.pointer (some ⟨γ1 1, 0, none⟩)]), (2, .pointer (some ⟨γ3 0, 0, none⟩)), (4, .pointer (some ⟨γ3 1, 0, none⟩)), (17, .int .i64 ((n : Nat))), (21, .int .i64 ((m : Nat)))]) (fun _ => [bx (γ3 1) (#[.slice none 0 0, .slice none 0 0]) 25, bx (γ3 0) (#[.slice p n cap, .slice q m capv]) 25, bx (γ1 2) (#[.slice none 0 0, .slice none 0 0]) 25, bx (γ1 1) (#[.int .i64 d.id, .int .i64 d.weight, .int .i64 d.cap, .int .i64 d.pool]) 32, bx (γ1 0) (#[.slice p n cap, .slice q m capv]) 25]) ?_ (fun hmx8 => ?_)
   ·
    rintro _ _
    refine any_fork [3, 7, 9] (by kernel_rfl) (by simp) (each_cons _ rfl ?_ (each_cons _ rfl ?_ (each_cons _ rfl ?_ (each_nil))))
    ·
     refine ops_make (T := 32) (ks := 4) (by_ := 32) (n := n) rfl (by kernel_rfl) (by kernel_rfl) (by kernel_rfl) (by kernel_rfl) (by kernel_rfl) (by omega) (by have hmx : maxLen = 9223372036854775807 := rfl; omega) (fun g75 c75 hc75 => ?_)
     refine od_ ?_
     exact wk (hmx12 (c75, g75) hc75) [1, 2, 4, 18, 21] [[_], [_], [_], [_], [_], [_]] [0, 1, 2, 3, 4, 5] rfl rfl
    ·
     refine ops_make (T := 43) (ks := 4) (by_ := 24) (n := m) rfl (by kernel_rfl) (by kernel_rfl) (by kernel_rfl) (by kernel_rfl) (by kernel_rfl) (by omega) (by have hmx : maxLen = 9223372036854775807 := rfl; omega) (fun g155 c155 hc155 => ?_)
     refine od_ ?_
     exact wk (hmx13 (c155, g155) hc155) [1, 2, 4, 17, 22] [[_], [_], [_], [_], [_], [_]] [0, 1, 2, 3, 4, 5] rfl rfl
    ·
     refine mo0 1 [] [1, 2, 4, 17, 21] (fun γ195 => [(7, .pointer (some ⟨γ195 0, 0, none⟩))]) (fun γ195 L => bx (γ195 0) (#[.slice none 0 0, .slice none 0 0]) 25 :: L) (fun γ195 => ?_)
     refine od_ ?_
     exact wk (hmx11 γ195 trivial) [1, 2, 4, 7, 17, 21] [[_], [_], [_], [_], [_], [_]] [0, 1, 2, 3, 4, 5] rfl rfl
   refine any_cutX (V := (Array Value) × (Nat)) (fun ⟨c155, g155⟩ => c155.size = m * 4) 6 #[true, false, false, false, true, true, true, true, false, false, false] (fun ⟨c155, g155⟩ => [(1, .func (.func 63) #[] #[.pointer (some ⟨γ1 1, 0, none⟩)]), (2, .pointer (some ⟨γ3 0, 0, none⟩)), (4, .pointer (some ⟨γ3 1, 0, none⟩)), (15, .pointer (some ⟨γ3 0, 0, none⟩)), (22, .slice (some ⟨g155, 0, none⟩) m m)]) (fun ⟨c155, g155⟩ => [bx g155 c155 43, bx (γ3 1) (#[.slice none 0 0, .slice none 0 0]) 25, bx (γ3 0) (#[.slice p n cap, .slice q m capv]) 25, bx (γ1 2) (#[.slice none 0 0, .slice none 0 0]) 25, bx (γ1 1) (#[.int .i64 d.id, .int .i64 d.weight, .int .i64 d.cap, .int .i64 d.pool]) 32, bx (γ1 0) (#[.slice p n cap, .slice q m capv]) 25]) ?_ (fun hmx7 => ?_)
   ·
    rintro ⟨c155, g155⟩ hc155
    refine any_fork [1, 9] (by kernel_rfl) (by simp) (each_cons _ rfl ?_ (each_cons _ rfl ?_ (each_nil)))
    ·
     refine qo0 1 [(1, .go (owns 2 0 1))] [1, 2, 4, 22] [(16, .slice p n cap)] ?_
     refine od_ ?_
     refine tk (m := 4) [2] [] [1, 2, 4, 22] [(17, .int .i64 ((n : Nat)))] ([]) #[true, true, true, false, true, true, true, true, false, false, false] al0 ?_
     exact wk (hmx13 (c155, g155) hc155) [1, 2, 4, 17, 22] [[_], [_], [_], [_], [_], [_]] [0, 1, 2, 3, 4, 5] rfl rfl
    ·
     refine mo0 1 [] [1, 2, 4, 15, 22] (fun γ195 => [(7, .pointer (some ⟨γ195 0, 0, none⟩))]) (fun γ195 L => bx (γ195 0) (#[.slice none 0 0, .slice none 0 0]) 25 :: L) (fun γ195 => ?_)
     refine od_ ?_
     exact wk (hmx10 (c155, g155, γ195) hc155) [1, 2, 4, 7, 15, 22] [[_], [_], [_], [_], [_], [_], [_]] [0, 1, 2, 3, 4, 5, 6] rfl rfl
   refine any_cutX (V := (Array Value) × (Nat)) (fun ⟨c75, g75⟩ => c75.size = n * 4) 6 #[true, true, true, true, true, false, false, false, false, false, false] (fun ⟨c75, g75⟩ => [(1, .func (.func 63) #[] #[.pointer (some ⟨γ1 1, 0, none⟩)]), (2, .pointer (some ⟨γ3 0, 0, none⟩)), (4, .pointer (some ⟨γ3 1, 0, none⟩)), (18, .slice (some ⟨g75, 0, none⟩) n n), (19, .pointer (some ⟨γ3 0, 1, none⟩))]) (fun ⟨c75, g75⟩ => [bx g75 c75 32, bx (γ3 1) (#[.slice none 0 0, .slice none 0 0]) 25, bx (γ3 0) (#[.slice p n cap, .slice q m capv]) 25, bx (γ1 2) (#[.slice none 0 0, .slice none 0 0]) 25, bx (γ1 1) (#[.int .i64 d.id, .int .i64 d.weight, .int .i64 d.cap, .int .i64 d.pool]) 32, bx (γ1 0) (#[.slice p n cap, .slice q m capv]) 25]) ?_ (fun hmx6 => ?_)
   ·
    rintro ⟨c75, g75⟩ hc75
    refine any_fork [5, 9] (by kernel_rfl) (by simp) (each_cons _ rfl ?_ (each_cons _ rfl ?_ (each_nil)))
    ·
     refine qo0 1 [(5, .go (owns 2 1 1))] [1, 2, 4, 18] [(20, .slice q m capv)] ?_
     refine od_ ?_
     refine tk (m := 4) [6] [] [1, 2, 4, 18] [(21, .int .i64 ((m : Nat)))] ([]) #[true, true, true, true, true, true, true, false, false, false, false] al0 ?_
     exact wk (hmx12 (c75, g75) hc75) [1, 2, 4, 18, 21] [[_], [_], [_], [_], [_], [_]] [0, 1, 2, 3, 4, 5] rfl rfl
    ·
     refine mo0 1 [] [1, 2, 4, 18, 19] (fun γ195 => [(7, .pointer (some ⟨γ195 0, 0, none⟩))]) (fun γ195 L => bx (γ195 0) (#[.slice none 0 0, .slice none 0 0]) 25 :: L) (fun γ195 => ?_)
     refine od_ ?_
     exact wk (hmx9 (c75, g75, γ195) hc75) [1, 2, 4, 7, 18, 19] [[_], [_], [_], [_], [_], [_], [_]] [0, 1, 2, 3, 4, 5, 6] rfl rfl
   refine any_cutX (V := (Nat → Nat)) (fun γ195 => True) 6 #[true, false, false, false, true, true, true, false, false, true, false] (fun γ195 => [(1, .func (.func 63) #[] #[.pointer (some ⟨γ1 1, 0, none⟩)]), (2, .pointer (some ⟨γ3 0, 0, none⟩)), (4, .pointer (some ⟨γ3 1, 0, none⟩)), (7, .pointer (some ⟨γ195 0, 0, none⟩)), (15, .pointer (some ⟨γ3 0, 0, none⟩)), (21, .int .i64 ((m : Nat)))]) (fun γ195 => [bx (γ195 0) (#[.slice none 0 0, .slice none 0 0]) 25, bx (γ3 1) (#[.slice none 0 0, .slice none 0 0]) 25, bx (γ3 0) (#[.slice p n cap, .slice q m capv]) 25, bx (γ1 2) (#[.slice none 0 0, .slice none 0 0]) 25, bx (γ1 1) (#[.int .i64 d.id, .int .i64 d.weight, .int .i64 d.cap, .int .i64 d.pool]) 32, bx (γ1 0) (#[.slice p n cap, .slice q m capv]) 25]) ?_ (fun hmx5 => ?_)
   ·
    rintro γ195 _
    refine any_fork [1, 7] (by kernel_rfl) (by simp) (each_cons _ rfl ?_ (each_cons _ rfl ?_ (each_nil)))
    ·
     refine qo0 1 [(1, .go (owns 2 0 1))] [1, 2, 4, 7, 21] [(16, .slice p n cap)] ?_
     refine od_ ?_
     refine tk (m := 4) [2] [] [1, 2, 4, 7, 21] [(17, .int .i64 ((n : Nat)))] ([]) #[true, true, true, false, true, true, true, false, false, true, false] al0 ?_
     exact wk (hmx11 γ195 trivial) [1, 2, 4, 7, 17, 21] [[_], [_], [_], [_], [_], [_]] [0, 1, 2, 3, 4, 5] rfl rfl
    ·
     refine ops_make (T := 43) (ks := 4) (by_ := 24) (n := m) rfl (by kernel_rfl) (by kernel_rfl) (by kernel_rfl) (by kernel_rfl) (by kernel_rfl) (by omega) (by have hmx : maxLen = 9223372036854775807 := rfl; omega) (fun g155 c155 hc155 => ?_)
     refine od_ ?_
     exact wk (hmx10 (c155, g155, γ195) hc155) [1, 2, 4, 7, 15, 22] [[_], [_], [_], [_], [_], [_], [_]] [1, 0, 2, 3, 4, 5, 6] rfl rfl
   refine any_cutX (V := (Nat → Nat)) (fun γ195 => True) 6 #[true, true, true, false, true, false, false, false, false, true, false] (fun γ195 => [(1, .func (.func 63) #[] #[.pointer (some ⟨γ1 1, 0, none⟩)]), (2, .pointer (some ⟨γ3 0, 0, none⟩)), (4, .pointer (some ⟨γ3 1, 0, none⟩)), (7, .pointer (some ⟨γ195 0, 0, none⟩)), (17, .int .i64 ((n : Nat))), (19, .pointer (some ⟨γ3 0, 1, none⟩))]) (fun γ195 => [bx (γ195 0) (#[.slice none 0 0, .slice none 0 0]) 25, bx (γ3 1) (#[.slice none 0 0, .slice none 0 0]) 25, bx (γ3 0) (#[.slice p n cap, .slice q m capv]) 25, bx (γ1 2) (#[.slice none 0 0, .slice none 0 0]) 25, bx (γ1 1) (#[.int .i64 d.id, .int .i64 d.weight, .int .i64 d.cap, .int .i64 d.pool]) 32, bx (γ1 0) (#[.slice p n cap, .slice q m capv]) 25]) ?_ (fun hmx4 => ?_)
   ·
    rintro γ195 _
    refine any_fork [3, 5] (by kernel_rfl) (by simp) (each_cons _ rfl ?_ (each_cons _ rfl ?_ (each_nil)))
    ·
     refine ops_make (T := 32) (ks := 4) (by_ := 32) (n := n) rfl (by kernel_rfl) (by kernel_rfl) (by kernel_rfl) (by kernel_rfl) (by kernel_rfl) (by omega) (by have hmx : maxLen = 9223372036854775807 := rfl; omega) (fun g75 c75 hc75 => ?_)
     refine od_ ?_
     exact wk (hmx9 (c75, g75, γ195) hc75) [1, 2, 4, 7, 18, 19] [[_], [_], [_], [_], [_], [_], [_]] [1, 0, 2, 3, 4, 5, 6] rfl rfl
    ·
     refine qo0 1 [(5, .go (owns 2 1 1))] [1, 2, 4, 7, 17] [(20, .slice q m capv)] ?_
     refine od_ ?_
     refine tk (m := 4) [6] [] [1, 2, 4, 7, 17] [(21, .int .i64 ((m : Nat)))] ([]) #[true, true, true, false, true, true, true, false, false, true, false] al0 ?_
     exact wk (hmx11 γ195 trivial) [1, 2, 4, 7, 17, 21] [[_], [_], [_], [_], [_], [_]] [0, 1, 2, 3, 4, 5] rfl rfl
   refine any_cutX (V := Unit) (fun _ => True) 7 #[true, false, false, false, true, true, true, false, false, false, false] (fun _ => [(1, .func (.func 63) #[] #[.pointer (some ⟨γ1 1, 0, none⟩)]), (2, .pointer (some ⟨γ3 0, 0, none⟩)), (4, .pointer (some ⟨γ3 1, 0, none⟩)), (15, .pointer (some ⟨γ3 0, 0, none⟩)), (21, .int .i64 ((m : Nat)))]) (fun _ => [bx (γ3 1) (#[.slice none 0 0, .slice none 0 0]) 25, bx (γ3 0) (#[.slice p n cap, .slice q m capv]) 25, bx (γ1 2) (#[.slice none 0 0, .slice none 0 0]) 25, bx (γ1 1) (#[.int .i64 d.id, .int .i64 d.weight, .int .i64 d.cap, .int .i64 d.pool]) 32, bx (γ1 0) (#[.slice p n cap, .slice q m capv]) 25]) ?_ (fun hmx3 => ?_)
   ·
    rintro _ _
    refine any_fork [1, 7, 9] (by kernel_rfl) (by simp) (each_cons _ rfl ?_ (each_cons _ rfl ?_ (each_cons _ rfl ?_ (each_nil))))
    ·
     refine qo0 1 [(1, .go (owns 1 0 1))] [1, 2, 4, 21] [(16, .slice p n cap)] ?_
     refine od_ ?_
     refine tk (m := 5) [2] [] [1, 2, 4, 21] [(17, .int .i64 ((n : Nat)))] ([]) #[true, true, true, false, true, true, true, false, false, false, false] al0 ?_
     exact wk (hmx8 () trivial) [1, 2, 4, 17, 21] [[_], [_], [_], [_], [_]] [0, 1, 2, 3, 4] rfl rfl
    ·
     refine ops_make (T := 43) (ks := 4) (by_ := 24) (n := m) rfl (by kernel_rfl) (by kernel_rfl) (by kernel_rfl) (by kernel_rfl) (by kernel_rfl) (by omega) (by have hmx : maxLen = 9223372036854775807 := rfl; omega) (fun g155 c155 hc155 => ?_)
     refine od_ ?_
     exact wk (hmx7 (c155, g155) hc155) [1, 2, 4, 15, 22] [[_], [_], [_], [_], [_], [_]] [0, 1, 2, 3, 4, 5] rfl rfl
    ·
     refine mo0 1 [] [1, 2, 4, 15, 21] (fun γ195 => [(7, .pointer (some ⟨γ195 0, 0, none⟩))]) (fun γ195 L => bx (γ195 0) (#[.slice none 0 0, .slice none 0 0]) 25 :: L) (fun γ195 => ?_)
     refine od_ ?_
     exact wk (hmx5 γ195 trivial) [1, 2, 4, 7, 15, 21] [[_], [_], [_], [_], [_], [_]] [0, 1, 2, 3, 4, 5] rfl rfl
   refine any_cutX (V := Unit) (fun _ => True) 7 #[true, true, true, false, true, false, false, false, false, false, false] (fun _ => [(1, .func (.func 63) #[] #[.pointer (some ⟨γ1 1, 0, none⟩)]), (2, .pointer (some ⟨γ3 0, 0, none⟩)), (4, .pointer (some ⟨γ3 1, 0, none⟩)), (17, .int .i64 ((n : Nat))), (19, .pointer (some ⟨γ3 0, 1, none⟩))]) (fun _ => [bx (γ3 1) (#[.slice none 0 0, .slice none 0 0]) 25, bx (γ3 0) (#[.slice p n cap, .slice q m capv]) 25, bx (γ1 2) (#[.slice none 0 0, .slice none 0 0]) 25, bx (γ1 1) (#[.int .i64 d.id, .int .i64 d.weight, .int .i64 d.cap, .int .i64 d.pool]) 32, bx (γ1 0) (#[.slice p n cap, .slice q m capv]) 25]) ?_ (fun hmx2 => ?_)
   ·
    rintro _ _
    refine any_fork [3, 5, 9] (by kernel_rfl) (by simp) (each_cons _ rfl ?_ (each_cons _ rfl ?_ (each_cons _ rfl ?_ (each_nil))))
    ·
     refine ops_make (T := 32) (ks := 4) (by_ := 32) (n := n) rfl (by kernel_rfl) (by kernel_rfl) (by kernel_rfl) (by kernel_rfl) (by kernel_rfl) (by omega) (by have hmx : maxLen = 9223372036854775807 := rfl; omega) (fun g75 c75 hc75 => ?_)
     refine od_ ?_
     exact wk (hmx6 (c75, g75) hc75) [1, 2, 4, 18, 19] [[_], [_], [_], [_], [_], [_]] [0, 1, 2, 3, 4, 5] rfl rfl
    ·
     refine qo0 1 [(5, .go (owns 1 1 1))] [1, 2, 4, 17] [(20, .slice q m capv)] ?_
     refine od_ ?_
     refine tk (m := 5) [6] [] [1, 2, 4, 17] [(21, .int .i64 ((m : Nat)))] ([]) #[true, true, true, false, true, true, true, false, false, false, false] al0 ?_
     exact wk (hmx8 () trivial) [1, 2, 4, 17, 21] [[_], [_], [_], [_], [_]] [0, 1, 2, 3, 4] rfl rfl
    ·
     refine mo0 1 [] [1, 2, 4, 17, 19] (fun γ195 => [(7, .pointer (some ⟨γ195 0, 0, none⟩))]) (fun γ195 L => bx (γ195 0) (#[.slice none 0 0, .slice none 0 0]) 25 :: L) (fun γ195 => ?_)
     refine od_ ?_
     exact wk (hmx4 γ195 trivial) [1, 2, 4, 7, 17, 19] [[_], [_], [_], [_], [_], [_]] [0, 1, 2, 3, 4, 5] rfl rfl
   refine any_cutX (V := (Nat → Nat)) (fun γ195 => True) 8 #[true, false, false, false, true, false, false, false, false, true, false] (fun γ195 => [(1, .func (.func 63) #[] #[.pointer (some ⟨γ1 1, 0, none⟩)]), (2, .pointer (some ⟨γ3 0, 0, none⟩)), (4, .pointer (some ⟨γ3 1, 0, none⟩)), (7, .pointer (some ⟨γ195 0, 0, none⟩)), (15, .pointer (some ⟨γ3 0, 0, none⟩)), (19, .pointer (some ⟨γ3 0, 1, none⟩))]) (fun γ195 => [bx (γ195 0) (#[.slice none 0 0, .slice none 0 0]) 25, bx (γ3 1) (#[.slice none 0 0, .slice none 0 0]) 25, bx (γ3 0) (#[.slice p n cap, .slice q m capv]) 25, bx (γ1 2) (#[.slice none 0 0, .slice none 0 0]) 25, bx (γ1 1) (#[.int .i64 d.id, .int .i64 d.weight, .int .i64 d.cap, .int .i64 d.pool]) 32, bx (γ1 0) (#[.slice p n cap, .slice q m capv]) 25]) ?_ (fun hmx1 => ?_)
   ·
    rintro γ195 _
    refine any_fork [1, 5] (by kernel_rfl) (by simp) (each_cons _ rfl ?_ (each_cons _ rfl ?_ (each_nil)))
    ·
     refine qo0 1 [(1, .go (owns 2 0 1))] [1, 2, 4, 7, 19] [(16, .slice p n cap)] ?_
     refine od_ ?_
     refine tk (m := 6) [2] [] [1, 2, 4, 7, 19] [(17, .int .i64 ((n : Nat)))] ([]) #[true, true, true, false, true, false, false, false, false, true, false] al0 ?_
     exact wk (hmx4 γ195 trivial) [1, 2, 4, 7, 17, 19] [[_], [_], [_], [_], [_], [_]] [0, 1, 2, 3, 4, 5] rfl rfl
    ·
     refine qo0 1 [(5, .go (owns 2 1 1))] [1, 2, 4, 7, 15] [(20, .slice q m capv)] ?_
     refine od_ ?_
     refine tk (m := 6) [6] [] [1, 2, 4, 7, 15] [(21, .int .i64 ((m : Nat)))] ([]) #[true, false, false, false, true, true, true, false, false, true, false] al0 ?_
     exact wk (hmx5 γ195 trivial) [1, 2, 4, 7, 15, 21] [[_], [_], [_], [_], [_], [_]] [0, 1, 2, 3, 4, 5] rfl rfl
   refine any_fork [1, 5, 9] (by kernel_rfl) (by simp) (each_cons _ rfl ?_ (each_cons _ rfl ?_ (each_cons _ rfl ?_ (each_nil))))
   ·
    refine qo0 1 [(1, .go (owns 1 0 1))] [1, 2, 4, 19] [(16, .slice p n cap)] ?_
    refine od_ ?_
    refine tk (m := 7) [2] [] [1, 2, 4, 19] [(17, .int .i64 ((n : Nat)))] ([]) #[true, true, true, false, true, false, false, false, false, false, false] al0 ?_
    exact wk (hmx2 () trivial) [1, 2, 4, 17, 19] [[_], [_], [_], [_], [_]] [0, 1, 2, 3, 4] rfl rfl
   ·
    refine qo0 1 [(5, .go (owns 1 1 1))] [1, 2, 4, 15] [(20, .slice q m capv)] ?_
    refine od_ ?_
    refine tk (m := 7) [6] [] [1, 2, 4, 15] [(21, .int .i64 ((m : Nat)))] ([]) #[true, false, false, false, true, true, true, false, false, false, false] al0 ?_
    exact wk (hmx3 () trivial) [1, 2, 4, 15, 21] [[_], [_], [_], [_], [_]] [0, 1, 2, 3, 4] rfl rfl
   ·
    refine mo0 1 [] [1, 2, 4, 15, 19] (fun γ195 => [(7, .pointer (some ⟨γ195 0, 0, none⟩))]) (fun γ195 L => bx (γ195 0) (#[.slice none 0 0, .slice none 0 0]) 25 :: L) (fun γ195 => ?_)
    refine od_ ?_
    exact wk (hmx1 γ195 trivial) [1, 2, 4, 7, 15, 19] [[_], [_], [_], [_], [_], [_]] [0, 1, 2, 3, 4, 5] rfl rfl
  rintro ⟨c155, c75, g155, g75, γ195⟩ ⟨hc155, hc75⟩
  refine any_nil (by kernel_rfl) ?_
  refine ds_ (sq_ (ao_ (qo0 4 [(1, .go (owns 0 0 1)), (3, .go (owns 4 0 1))] [1, 2, 4, 7] [(25, .slice (some ⟨g75, 0, none⟩) n n), (27, .slice p n cap)] (ops_copy 2 rfl (by kernel_rfl) (by kernel_rfl) (g := g75) (of := 0) (dn := n) (dc := n) (m := n) (cnt := n) (c := c75) (yv := (.slice p n cap)) (ds.flatMap Enc.enc) (by kernel_rfl) (by kernel_rfl) (T := 32) (ks := 4) (by_ := 32) (by kernel_rfl) (T' := 32) (by kernel_rfl) len_slice (by omega) (fun w hw => by have := first_sv (P := Try.prog) (w := w) (p := p) (m := n) (cap := cap) (cnt := n) (hds.kept hw.below) (by omega); rw [List.take_of_length_le (by omega)] at this; exact this) (by first | (rw [flat_len, Nat.zero_add, hc75, ← hn]; exact Nat.le_refl _) | (rw [flat_len, Nat.zero_add, hc75, ← hn])) (flat_one ds) ?_))))
  have hOw303 := OwnS.filled (l := ds) (n := n) hc75 hn (by have hmx : maxLen = 9223372036854775807 := rfl; omega)
  have hO303 := SlO.ofOwn (T := 32) (g := g75) hOw303 hn
  refine on_ (ds_ (sq_ (ao_ (qo0 4 [(1, .go (owns 0 1 1)), (3, .go (owns 4 1 1))] [1, 4, 7] [(30, .slice (some ⟨g155, 0, none⟩) m m), (32, .slice q m capv)] (ops_copy 1 rfl (by kernel_rfl) (by kernel_rfl) (g := g155) (of := 0) (dn := m) (dc := m) (m := m) (cnt := m) (c := c155) (yv := (.slice q m capv)) (vs.flatMap Enc.enc) (by kernel_rfl) (by kernel_rfl) (T := 43) (ks := 4) (by_ := 24) (by kernel_rfl) (T' := 43) (by kernel_rfl) len_slice (by omega) (fun w hw => by have := first_sv (P := Try.prog) (w := w) (p := q) (m := m) (cap := capv) (cnt := m) (hvs.kept hw.below) (by omega); rw [List.take_of_length_le (by omega)] at this; exact this) (by first | (rw [flat_len, Nat.zero_add, hc155, ← hm]; exact Nat.le_refl _) | (rw [flat_len, Nat.zero_add, hc155, ← hm])) (flat_one vs) ?_)))))
  have hOw306 := OwnS.filled (l := vs) (n := m) hc155 hm (by have hmx : maxLen = 9223372036854775807 := rfl; omega)
  have hO306 := SlO.ofOwn (T := 43) (g := g155) hOw306 hm
  refine on_ (ds_ (sq_ (sq_ (ao_ (qo0 1 [] [4, 7] [(34, .func (.func 63) #[] #[.pointer (some ⟨γ1 1, 0, none⟩)])] (ops_inline (g := 63) (args := #[.pointer (some ⟨γ195 0, 0, none⟩), .pointer (some ⟨γ1 1, 0, none⟩)]) (by kernel_rfl) (by kernel_rfl) (by kernel_rfl) (fun args w => Try.call63 args w) Try.func63 rfl Try.ntmps63 rfl (sq_ (qa0 [] [0, 1] [] (ds_ (sq_ ?_))))))))))
  refine at_calm rfl (by kernel_rfl) (by kernel_rfl) ?_
  refine cm 6 [(3, .go (owns 0 0 1)), (5, .go (owns 6 0 1))] [0, 1] [(10, .slice (some ⟨g75, 0, none⟩) n n), (12, .int .i64 d.id)] ([]) (by kernel_rfl) rfl al0 ?_
  rcases hg311 : getK Dom.id ds d.id with _ | y311
  ·
   have hpl311 := (pos_cut (k := d.id) (guests_iff.1 q5).dr).2.2
   refine cK (.tuple #[.int .i64 ((posK Dom.id ds d.id : Nat)), .bool false]) Try.call47 (fun w hw => by have := placed_d (some ⟨g75, 0, none⟩) n n ds d.id w (hO303.atN (A := [_, _]) hw) hn (by omega) (guests_iff.1 q5).dr; rw [hasK_none hg311] at this; exact this) ?_
   refine cm 5 [] [0, 1] [(4, .int .i64 ((posK Dom.id ds d.id : Nat))), (5, .bool false)] ([]) (by kernel_rfl) rfl al0 ?_
   refine calm_nil' ?_
   refine ds_ (sq_ (at_block (sq_ (ao_ (qo0 1 [(0, .go (owns 6 0 4))] [0, 1, 4, 5] [(17, .agg #[.int .i64 d.id, .int .i64 d.weight, .int .i64 d.cap, .int .i64 d.pool])] ?_)))))
   rcases q314 : mayB d with _ | _
   ·
    refine cD (.bool false) Try.call45 (fun w hw => by have := may_d d w; rw [q314] at this; exact this) (qo0 2 [] [0, 1, 4, 5] [(16, .bool true)] (on_ (ds_ (t_ (sq_ (qa0 [] [] [(3, .int .i64 2)] (ds_ (bk ([]) (.int .i64 2) (qo0 1 [] [4, 7] [(8, .int .i64 2)] (on_ (ds_ (sq_ (qa0 [] [4, 7, 8] [(37, .bool true)] (ds_ (t_ (sq_ (qa0 [(2, .go (owns 3 0 2))] [4] [(5, .int .i64 2)] (ds_ (bk (owns 3 0 2) (.tuple #[.agg #[.slice none 0 0, .slice none 0 0], .int .i64 2]) (qo0 4 [(5, .go (owns 5 0 2))] [4] [(5, .int .i64 2)] (on_ (ds_ (rt (owns 5 0 2) (.tuple #[.agg #[.slice none 0 0, .slice none 0 0], .int .i64 2]) ?_)))))))))))))))))))))))
    exact fun w' hw => by rw [changeV_arg q5 q314]; exact ⟨none, 0, 0, [], none, 0, 0, [], rfl, SlO.nil, SlO.nil, hw.below, hw.sub (List.nil_sublist _)⟩
   ·
    refine cD (.bool true) Try.call45 (fun w hw => by have := may_d d w; rw [q314] at this; exact this) (qo0 2 [] [0, 1, 4, 5] [(16, .bool false)] (on_ (ds_ (f_ (sq_ (qa0 [] [0, 1, 4] [(20, .bool true)] (ds_ (t_ (sq_ (qa0 [] [] [(3, .int .i64 4)] (ds_ (bk ([]) (.int .i64 4) (qo0 1 [] [4, 7] [(8, .int .i64 4)] (on_ (ds_ (sq_ (qa0 [] [4, 7, 8] [(37, .bool true)] (ds_ (t_ (sq_ (qa0 [(2, .go (owns 3 0 2))] [4] [(5, .int .i64 4)] (ds_ (bk (owns 3 0 2) (.tuple #[.agg #[.slice none 0 0, .slice none 0 0], .int .i64 4]) (qo0 4 [(5, .go (owns 5 0 2))] [4] [(5, .int .i64 4)] (on_ (ds_ (rt (owns 5 0 2) (.tuple #[.agg #[.slice none 0 0, .slice none 0 0], .int .i64 4]) ?_)))))))))))))))))))))))))))
    exact fun w' hw => by rw [changeV_none q5 q314 hg311]; exact ⟨none, 0, 0, [], none, 0, 0, [], rfl, SlO.nil, SlO.nil, hw.below, hw.sub (List.nil_sublist _)⟩
  ·
   have hp_y311 := pos_getK (guests_iff.1 q5).dr hg311
   have hl_y311 := (List.getElem?_eq_some_iff.1 hp_y311).1
   refine cK (.tuple #[.int .i64 ((posK Dom.id ds d.id : Nat)), .bool true]) Try.call47 (fun w hw => by have := placed_d (some ⟨g75, 0, none⟩) n n ds d.id w (hO303.atN (A := [_, _]) hw) hn (by omega) (guests_iff.1 q5).dr; rw [hasK_some hg311] at this; exact this) ?_
   refine cm 5 [] [0, 1] [(4, .int .i64 ((posK Dom.id ds d.id : Nat))), (5, .bool true)] ([]) (by kernel_rfl) rfl al0 ?_
   refine calm_nil' ?_
   refine ds_ (sq_ (at_block (sq_ (ao_ (qo0 1 [(0, .go (owns 6 0 4))] [0, 1, 4, 5] [(17, .agg #[.int .i64 d.id, .int .i64 d.weight, .int .i64 d.cap, .int .i64 d.pool])] ?_)))))
   rcases q330 : mayB d with _ | _
   ·
    refine cD (.bool false) Try.call45 (fun w hw => by have := may_d d w; rw [q330] at this; exact this) (qo0 2 [] [0, 1, 4, 5] [(16, .bool true)] (on_ (ds_ (t_ (sq_ (qa0 [] [] [(3, .int .i64 2)] (ds_ (bk ([]) (.int .i64 2) (qo0 1 [] [4, 7] [(8, .int .i64 2)] (on_ (ds_ (sq_ (qa0 [] [4, 7, 8] [(37, .bool true)] (ds_ (t_ (sq_ (qa0 [(2, .go (owns 3 0 2))] [4] [(5, .int .i64 2)] (ds_ (bk (owns 3 0 2) (.tuple #[.agg #[.slice none 0 0, .slice none 0 0], .int .i64 2]) (qo0 4 [(5, .go (owns 5 0 2))] [4] [(5, .int .i64 2)] (on_ (ds_ (rt (owns 5 0 2) (.tuple #[.agg #[.slice none 0 0, .slice none 0 0], .int .i64 2]) ?_)))))))))))))))))))))))
    exact fun w' hw => by rw [changeV_arg q5 q330]; exact ⟨none, 0, 0, [], none, 0, 0, [], rfl, SlO.nil, SlO.nil, hw.below, hw.sub (List.nil_sublist _)⟩
   ·
    refine cD (.bool true) Try.call45 (fun w hw => by have := may_d d w; rw [q330] at this; exact this) (qo0 2 [] [0, 1, 4, 5] [(16, .bool false)] (on_ (ds_ (f_ (sq_ (qa0 [] [0, 1, 4] [(20, .bool false)] (ds_ (f_ (at_skip (done_block (ds_ (sq_ ?_))))))))))))
    refine at_any (by kernel_rfl) ?_
    refine tk (m := 4) [0, 1, 2, 4] [] [1] [(25, .pointer (some ⟨γ195 0, 0, none⟩)), (27, .int .i64 ((posK Dom.id ds d.id : Nat)))] ([]) #[true, true, true, false, true, false, false, false] al0 ?_
    refine any_cut 1 #[true, true, true, true, true, true, true, false] ([(28, .agg #[.int .i64 d.id, .int .i64 d.weight, .int .i64 d.cap, .int .i64 d.pool]), (29, .pointer (some ⟨g75, 0 + (posK Dom.id ds d.id) * 4, none⟩))]) ([bx (γ195 0) (#[.slice (some ⟨g75, 0, none⟩) n n, .slice (some ⟨g155, 0, none⟩) m m]) 25, bx g155 ((sets c155 0 (vs.flatMap Enc.enc))) 43, bx g75 ((sets c75 0 (ds.flatMap Enc.enc))) 32, bx (γ3 1) (#[.slice none 0 0, .slice none 0 0]) 25, bx (γ3 0) (#[.slice p n cap, .slice q m capv]) 25, bx (γ1 2) (#[.slice none 0 0, .slice none 0 0]) 25, bx (γ1 1) (#[.int .i64 d.id, .int .i64 d.weight, .int .i64 d.cap, .int .i64 d.pool]) 32, bx (γ1 0) (#[.slice p n cap, .slice q m capv]) 25]) ?_ (fun hm => ?_)
    rotate_left
    ·
     refine any_fork [3, 5] (by kernel_rfl) (by simp) (each_cons _ rfl ?_ (each_cons _ rfl ?_ (each_nil)))
     ·
      refine qo0 1 [(3, .go (owns 0 0 1))] [1, 27] [(26, .slice (some ⟨g75, 0, none⟩) n n)] ?_
      refine od_ ?_
      refine a1 5 rfl ?_
      refine qo0 1 [(5, .go (owns 6 0 4))] [26, 27] [(28, .agg #[.int .i64 d.id, .int .i64 d.weight, .int .i64 d.cap, .int .i64 d.pool])] ?_
      refine od_ ?_
      refine tk (m := 1) [6] [(6, .at g75 0 (posK Dom.id ds d.id))] [28] [(29, .pointer (some ⟨g75, 0 + (posK Dom.id ds d.id) * 4, none⟩))] ([(some ⟨g75, 0, none⟩ : Option Addr) = some ⟨g75, 0, none⟩, ((posK Dom.id ds d.id : Nat)) = ((posK Dom.id ds d.id : Nat) : Int), posK Dom.id ds d.id < n]) #[true, true, true, true, true, true, true, false] (al2 rfl (al2 rfl (al1 (by omega)))) ?_
      exact any_weak hm [28, 29] (by kernel_rfl) rfl rfl rfl
     ·
      refine qo0 1 [(5, .go (owns 6 0 4))] [25, 27] [(28, .agg #[.int .i64 d.id, .int .i64 d.weight, .int .i64 d.cap, .int .i64 d.pool])] ?_
      refine od_ ?_
      refine a1 3 rfl ?_
      refine qo0 1 [(3, .go (owns 0 0 1))] [27, 28] [(26, .slice (some ⟨g75, 0, none⟩) n n)] ?_
      refine od_ ?_
      refine tk (m := 1) [6] [(6, .at g75 0 (posK Dom.id ds d.id))] [28] [(29, .pointer (some ⟨g75, 0 + (posK Dom.id ds d.id) * 4, none⟩))] ([(some ⟨g75, 0, none⟩ : Option Addr) = some ⟨g75, 0, none⟩, ((posK Dom.id ds d.id : Nat)) = ((posK Dom.id ds d.id : Nat) : Int), posK Dom.id ds d.id < n]) #[true, true, true, true, true, true, true, false] (al2 rfl (al2 rfl (al1 (by omega)))) ?_
      exact any_weak hm [28, 29] (by kernel_rfl) rfl rfl rfl
    refine a1 7 rfl ?_
    refine mo 1 [(7, .go (ownps 2 (0 + (posK Dom.id ds d.id) * 4) [undef, undef, undef, undef]))] [] (fun _ => []) (fun _ L => (L.set 2 (bx g75 ((((((sets c75 0 (ds.flatMap Enc.enc))).setIfInBounds (0 + (posK Dom.id ds d.id) * 4) (.int .i64 d.id)).setIfInBounds (0 + (posK Dom.id ds d.id) * 4 + 1) (.int .i64 d.weight)).setIfInBounds (0 + (posK Dom.id ds d.id) * 4 + 2) (.int .i64 d.cap)).setIfInBounds (0 + (posK Dom.id ds d.id) * 4 + 3) (.int .i64 d.pool)) 32))) (fun _ => [0 + (posK Dom.id ds d.id) * 4 < ((sets c75 0 (ds.flatMap Enc.enc))).size] ++ ([0 + (posK Dom.id ds d.id) * 4 + 1 < (((sets c75 0 (ds.flatMap Enc.enc))).setIfInBounds (0 + (posK Dom.id ds d.id) * 4) (.int .i64 d.id)).size] ++ ([0 + (posK Dom.id ds d.id) * 4 + 2 < ((((sets c75 0 (ds.flatMap Enc.enc))).setIfInBounds (0 + (posK Dom.id ds d.id) * 4) (.int .i64 d.id)).setIfInBounds (0 + (posK Dom.id ds d.id) * 4 + 1) (.int .i64 d.weight)).size] ++ ([0 + (posK Dom.id ds d.id) * 4 + 3 < (((((sets c75 0 (ds.flatMap Enc.enc))).setIfInBounds (0 + (posK Dom.id ds d.id) * 4) (.int .i64 d.id)).setIfInBounds (0 + (posK Dom.id ds d.id) * 4 + 1) (.int .i64 d.weight)).setIfInBounds (0 + (posK Dom.id ds d.id) * 4 + 2) (.int .i64 d.cap)).size])))) (fun _ => (alA (al1 (by exact hOw303.room hn hp_y311 (f := 0) (by decide))) (alA (al1 (by simp only [Array.size_setIfInBounds]; exact hOw303.room hn hp_y311 (f := 1) (by decide))) (alA (al1 (by simp only [Array.size_setIfInBounds]; exact hOw303.room hn hp_y311 (f := 2) (by decide))) (al1 (by simp only [Array.size_setIfInBounds]; exact hOw303.room hn hp_y311 (f := 3) (by decide))))))) (fun _ => ?_)
    refine od_ ?_
    refine any_nil (by kernel_rfl) ?_
    refine ds_ (sq_ (qa0 [] [] [(3, .int .i64 0)] (ds_ (bk ([]) (.int .i64 0) (qo0 1 [] [4, 7] [(8, .int .i64 0)] (on_ (ds_ (sq_ (qa0 [] [4, 7, 8] [(37, .bool false)] (ds_ (f_ (at_skip (ds_ (sq_ (ma0 [(0, .go (owns 0 0 2)), (1, .go (owns 3 0 2))] [4] (fun _ => [(5, .int .i64 0)]) (fun _ L => (L.set 3 (bx (γ3 1) (#[.slice (some ⟨g75, 0, none⟩) n n, .slice (some ⟨g155, 0, none⟩) m m]) 25))) (fun _ => ds_ (bk (owns 3 0 2) (.tuple #[.agg #[.slice (some ⟨g75, 0, none⟩) n n, .slice (some ⟨g155, 0, none⟩) m m], .int .i64 0]) (mo0 4 [(5, .go (owns 5 0 2))] [4] (fun _ => [(5, .int .i64 0)]) (fun _ L => (L.set 5 (bx (γ1 2) (#[.slice (some ⟨g75, 0, none⟩) n n, .slice (some ⟨g155, 0, none⟩) m m]) 25))) (fun _ => on_ (ds_ (rt (owns 5 0 2) (.tuple #[.agg #[.slice (some ⟨g75, 0, none⟩) n n, .slice (some ⟨g155, 0, none⟩) m m], .int .i64 0]) ?_)))))))))))))))))))))
    exact fun w' hw => by rw [changeV_ok q5 q330 hg311]; exact ⟨_, _, _, _, _, _, _, _, rfl, (SlO.ofOwn (hOw303.putAll (x' := d) hn hp_y311) (len_set hn)), hO306, hw.below, two_tails (Hs.pick [[bx (γ195 0) (#[.slice (some ⟨g75, 0, none⟩) n n, .slice (some ⟨g155, 0, none⟩) m m]) 25], [bx g155 ((sets c155 0 (vs.flatMap Enc.enc))) 43], [bx g75 ((((((sets c75 0 (ds.flatMap Enc.enc))).setIfInBounds (0 + (posK Dom.id ds d.id) * 4) (.int .i64 d.id)).setIfInBounds (0 + (posK Dom.id ds d.id) * 4 + 1) (.int .i64 d.weight)).setIfInBounds (0 + (posK Dom.id ds d.id) * 4 + 2) (.int .i64 d.cap)).setIfInBounds (0 + (posK Dom.id ds d.id) * 4 + 3) (.int .i64 d.pool)) 32], [bx (γ3 1) (#[.slice (some ⟨g75, 0, none⟩) n n, .slice (some ⟨g155, 0, none⟩) m m]) 25], [bx (γ3 0) (#[.slice p n cap, .slice q m capv]) 25], [bx (γ1 2) (#[.slice (some ⟨g75, 0, none⟩) n n, .slice (some ⟨g155, 0, none⟩) m m]) 25], [bx (γ1 1) (#[.int .i64 d.id, .int .i64 d.weight, .int .i64 d.cap, .int .i64 d.pool]) 32], [bx (γ1 0) (#[.slice p n cap, .slice q m capv]) 25]] [2, 1] [0, 3, 4, 5, 6, 7] (by kernel_rfl) hw)⟩

set_option maxRecDepth 100000 in
theorem remask_d (p : Option Addr) (n cap : Nat) (ds : List Dom) (q : Option Addr) (m capv : Nat) (vs : List Vcp) (k h s : Int) (w : World)
 (hds : Sv w p ds) (hn : n = ds.length) (hb : n ≤ 1000)
 (hvs : Sv w q vs) (hm : m = vs.length) (hmb : m ≤ 1000)
 : Calls Try.prog 18 #[.agg #[.slice p n cap, .slice q m capv], .int .i64 k, .agg #[.int .u32 h, .int .u32 s]] w fun e w' => ∃ q m capq Y q2 m2 capq2 X, e = .returned (.tuple #[.agg #[.slice q m capq, .slice q2 m2 capq2], .int .i64 (remaskV ds vs k h s).2.2]) ∧ SlO 32 Y q m capq (remaskV ds vs k h s).1 ∧ SlO 43 X q2 m2 capq2 (remaskV ds vs k h s).2.1 ∧ Below w.heap.size w w' ∧ Hs w (Y ++ X) w' := by
 refine enter (Hs.start w) Try.func18 rfl Try.ntmps18 rfl (sq_ (ma0 [] [] (fun γ1 => [(3, .pointer (some ⟨γ1 0, 0, none⟩)), (4, .pointer (some ⟨γ1 1, 0, none⟩)), (5, .pointer (some ⟨γ1 2, 0, none⟩)), (6, .pointer (some ⟨γ1 3, 0, none⟩))]) (fun γ1 L => bx (γ1 3) (#[.slice none 0 0, .slice none 0 0]) 25 :: bx (γ1 2) (#[.int .u32 h, .int .u32 s]) 41 :: bx (γ1 1) (#[.int .i64 k]) 3 :: bx (γ1 0) (#[.slice p n cap, .slice q m capv]) 25 :: L) (fun γ1 => ds_ (sq_ (ao_ (qo0 2 [(0, .go (owns 3 0 2))] [6] [(8, .agg #[.slice p n cap, .slice q m capv]), (9, .func (.func 58) #[] #[.pointer (some ⟨γ1 1, 0, none⟩), .pointer (some ⟨γ1 2, 0, none⟩)])] (ops_inline (g := 52) (args := #[.agg #[.slice p n cap, .slice q m capv], .func (.func 58) #[] #[.pointer (some ⟨γ1 1, 0, none⟩), .pointer (some ⟨γ1 2, 0, none⟩)]]) (by kernel_rfl) (by kernel_rfl) (by kernel_rfl) (fun args w => Try.call52 args w) Try.func52 rfl Try.ntmps52 rfl (sq_ (ma0 [] [1] (fun γ3 => [(2, .pointer (some ⟨γ3 0, 0, none⟩)), (4, .pointer (some ⟨γ3 1, 0, none⟩))]) (fun γ3 L => bx (γ3 1) (#[.slice none 0 0, .slice none 0 0]) 25 :: bx (γ3 0) (#[.slice p n cap, .slice q m capv]) 25 :: L) (fun γ3 => ds_ (sq_ (sq_ (ao_ (qo0 1 [(0, .go (owns 1 0 2))] [1, 2, 4] [(9, .agg #[.slice p n cap, .slice q m capv])] ?_))))))))))))))
 rcases q5 : guestsB ds vs with _ | _
 ·
  refine cD (.int .i64 190) Try.call10 (fun w hw => by have := gcheck_d p n cap ds q m capv vs w (hds.kept hw.below) hn (by omega) (hvs.kept hw.below) hm (by omega); rw [q5] at this; exact this) (qo0 1 [] [1, 2, 4] [(6, .int .i64 190)] (on_ (ds_ (sq_ (qa0 [] [1, 2, 4, 6] [(12, .bool true)] (ds_ (t_ (sq_ (qa0 [(2, .go (owns 0 0 2))] [4] [(5, .int .i64 190)] (ds_ (bk (owns 0 0 2) (.tuple #[.agg #[.slice none 0 0, .slice none 0 0], .int .i64 190]) (qo0 4 [(5, .go (owns 2 0 2))] [6] [(7, .int .i64 190)] (on_ (ds_ (rt (owns 2 0 2) (.tuple #[.agg #[.slice none 0 0, .slice none 0 0], .int .i64 190]) ?_)))))))))))))))
  exact fun w' hw => by rw [remaskV_bad q5]; exact ⟨none, 0, 0, [], none, 0, 0, [], rfl, SlO.nil, SlO.nil, hw.below, hw.sub (List.nil_sublist _)⟩
 ·
  refine cD (.int .i64 0) Try.call10 (fun w hw => by have := gcheck_d p n cap ds q m capv vs w (hds.kept hw.below) hn (by omega) (hvs.kept hw.below) hm (by omega); rw [q5] at this; exact this) (qo0 1 [] [1, 2, 4] [(6, .int .i64 0)] (on_ (ds_ (sq_ (qa0 [] [1, 2, 4, 6] [(12, .bool false)] (ds_ (f_ (at_skip (ds_ (sq_ ?_))))))))))
  refine at_any (by kernel_rfl) ?_
  refine tk (m := 9) [0, 4] [] [1, 2, 4] [(15, .pointer (some ⟨γ3 0, 0, none⟩)), (19, .pointer (some ⟨γ3 0, 1, none⟩))] ([]) #[true, false, false, false, true, false, false, false, false, false, false] al0 ?_
  refine any_cutX (V := (Array Value) × (Array Value) × (Nat) × (Nat) × (Nat → Nat)) (fun ⟨c155, c75, g155, g75, γ195⟩ => c155.size = m * 4 ∧ c75.size = n * 4) 0 #[true, true, true, true, true, true, true, true, true, true, true] (fun ⟨c155, c75, g155, g75, γ195⟩ => [(1, .func (.func 58) #[] #[.pointer (some ⟨γ1 1, 0, none⟩), .pointer (some ⟨γ1 2, 0, none⟩)]), (2, .pointer (some ⟨γ3 0, 0, none⟩)), (4, .pointer (some ⟨γ3 1, 0, none⟩)), (7, .pointer (some ⟨γ195 0, 0, none⟩))]) (fun ⟨c155, c75, g155, g75, γ195⟩ => [bx (γ195 0) (#[.slice (some ⟨g75, 0, none⟩) n n, .slice (some ⟨g155, 0, none⟩) m m]) 25, bx g155 c155 43, bx g75 c75 32, bx (γ3 1) (#[.slice none 0 0, .slice none 0 0]) 25, bx (γ3 0) (#[.slice p n cap, .slice q m capv]) 25, bx (γ1 3) (#[.slice none 0 0, .slice none 0 0]) 25, bx (γ1 2) (#[.int .u32 h, .int .u32 s]) 41, bx (γ1 1) (#[.int .i64 k]) 3, bx (γ1 0) (#[.slice p n cap, .slice q m capv]) 25]) ?_ (fun hmx18 => ?_)
  rotate_left
  ·
   refine any_cutX (V := (Array Value) × (Array Value) × (Nat) × (Nat) × (Nat → Nat)) (fun ⟨c155, c75, g155, g75, γ195⟩ => c155.size = m * 4 ∧ c75.size = n * 4) 1 #[true, true, true, true, true, true, true, true, true, true, false] (fun ⟨c155, c75, g155, g75, γ195⟩ => [(1, .func (.func 58) #[] #[.pointer (some ⟨γ1 1, 0, none⟩), .pointer (some ⟨γ1 2, 0, none⟩)]), (2, .pointer (some ⟨γ3 0, 0, none⟩)), (4, .pointer (some ⟨γ3 1, 0, none⟩)), (7, .pointer (some ⟨γ195 0, 0, none⟩)), (23, .agg #[.slice (some ⟨g75, 0, none⟩) n n, .slice (some ⟨g155, 0, none⟩) m m])]) (fun ⟨c155, c75, g155, g75, γ195⟩ => [bx (γ195 0) (#[.slice none 0 0, .slice none 0 0]) 25, bx g155 c155 43, bx g75 c75 32, bx (γ3 1) (#[.slice none 0 0, .slice none 0 0]) 25, bx (γ3 0) (#[.slice p n cap, .slice q m capv]) 25, bx (γ1 3) (#[.slice none 0 0, .slice none 0 0]) 25, bx (γ1 2) (#[.int .u32 h, .int .u32 s]) 41, bx (γ1 1) (#[.int .i64 k]) 3, bx (γ1 0) (#[.slice p n cap, .slice q m capv]) 25]) ?_ (fun hmx17 => ?_)
   ·
    rintro ⟨c155, c75, g155, g75, γ195⟩ ⟨hc155, hc75⟩
    refine a1 10 rfl ?_
    refine mo0 1 [(10, .go (owns 0 0 2))] [1, 2, 4, 7] (fun _ => []) (fun _ L => (L.set 0 (bx (γ195 0) (#[.slice (some ⟨g75, 0, none⟩) n n, .slice (some ⟨g155, 0, none⟩) m m]) 25))) (fun _ => ?_)
    refine od_ ?_
    exact wk (hmx18 (c155, c75, g155, g75, γ195) ⟨hc155, hc75⟩) [1, 2, 4, 7] [[_], [_], [_], [_], [_], [_], [_], [_], [_]] [0, 1, 2, 3, 4, 5, 6, 7, 8] rfl rfl
   refine any_cutX (V := (Array Value) × (Array Value) × (Nat) × (Nat)) (fun ⟨c155, c75, g155, g75⟩ => c155.size = m * 4 ∧ c75.size = n * 4) 2 #[true, true, true, true, true, true, true, true, true, false, false] (fun ⟨c155, c75, g155, g75⟩ => [(1, .func (.func 58) #[] #[.pointer (some ⟨γ1 1, 0, none⟩), .pointer (some ⟨γ1 2, 0, none⟩)]), (2, .pointer (some ⟨γ3 0, 0, none⟩)), (4, .pointer (some ⟨γ3 1, 0, none⟩)), (23, .agg #[.slice (some ⟨g75, 0, none⟩) n n, .slice (some ⟨g155, 0, none⟩) m m])]) (fun ⟨c155, c75, g155, g75⟩ => [bx g155 c155 43, bx g75 c75 32, bx (γ3 1) (#[.slice none 0 0, .slice none 0 0]) 25, bx (γ3 0) (#[.slice p n cap, .slice q m capv]) 25, bx (γ1 3) (#[.slice none 0 0, .slice none 0 0]) 25, bx (γ1 2) (#[.int .u32 h, .int .u32 s]) 41, bx (γ1 1) (#[.int .i64 k]) 3, bx (γ1 0) (#[.slice p n cap, .slice q m capv]) 25]) ?_ (fun hmx16 => ?_)
   ·
    rintro ⟨c155, c75, g155, g75⟩ ⟨hc155, hc75⟩
    refine a1 9 rfl ?_
    refine mo0 1 [] [1, 2, 4, 23] (fun γ195 => [(7, .pointer (some ⟨γ195 0, 0, none⟩))]) (fun γ195 L => bx (γ195 0) (#[.slice none 0 0, .slice none 0 0]) 25 :: L) (fun γ195 => ?_)
    refine od_ ?_
    exact wk (hmx17 (c155, c75, g155, g75, γ195) ⟨hc155, hc75⟩) [1, 2, 4, 7, 23] [[_], [_], [_], [_], [_], [_], [_], [_], [_]] [0, 1, 2, 3, 4, 5, 6, 7, 8] rfl rfl
   refine any_cutX (V := (Array Value) × (Nat) × (Nat → Nat)) (fun ⟨c155, g155, γ195⟩ => c155.size = m * 4) 3 #[true, true, true, false, true, true, true, true, false, true, false] (fun ⟨c155, g155, γ195⟩ => [(1, .func (.func 58) #[] #[.pointer (some ⟨γ1 1, 0, none⟩), .pointer (some ⟨γ1 2, 0, none⟩)]), (2, .pointer (some ⟨γ3 0, 0, none⟩)), (4, .pointer (some ⟨γ3 1, 0, none⟩)), (7, .pointer (some ⟨γ195 0, 0, none⟩)), (17, .int .i64 ((n : Nat))), (22, .slice (some ⟨g155, 0, none⟩) m m)]) (fun ⟨c155, g155, γ195⟩ => [bx (γ195 0) (#[.slice none 0 0, .slice none 0 0]) 25, bx g155 c155 43, bx (γ3 1) (#[.slice none 0 0, .slice none 0 0]) 25, bx (γ3 0) (#[.slice p n cap, .slice q m capv]) 25, bx (γ1 3) (#[.slice none 0 0, .slice none 0 0]) 25, bx (γ1 2) (#[.int .u32 h, .int .u32 s]) 41, bx (γ1 1) (#[.int .i64 k]) 3, bx (γ1 0) (#[.slice p n cap, .slice q m capv]) 25]) ?_ (fun hmx15 => ?_)
   ·
    rintro ⟨c155, g155, γ195⟩ hc155
    refine a1 3 rfl ?_
    refine ops_make (T := 32) (ks := 4) (by_ := 32) (n := n) rfl (by kernel_rfl) (by kernel_rfl) (by kernel_rfl) (by kernel_rfl) (by kernel_rfl) (by omega) (by have hmx : maxLen = 9223372036854775807 := rfl; omega) (fun g75 c75 hc75 => ?_)
    refine od_ ?_
    refine tk (m := 1) [8] [] [1, 2, 4, 7] [(23, .agg #[.slice (some ⟨g75, 0, none⟩) n n, .slice (some ⟨g155, 0, none⟩) m m])] ([]) #[true, true, true, true, true, true, true, true, true, true, false] al0 ?_
    exact wk (hmx17 (c155, c75, g155, g75, γ195) ⟨hc155, hc75⟩) [1, 2, 4, 7, 23] [[_], [_], [_], [_], [_], [_], [_], [_], [_]] [1, 2, 0, 3, 4, 5, 6, 7, 8] rfl rfl
   refine any_cutX (V := (Array Value) × (Nat) × (Nat → Nat)) (fun ⟨c75, g75, γ195⟩ => c75.size = n * 4) 3 #[true, true, true, true, true, true, true, false, false, true, false] (fun ⟨c75, g75, γ195⟩ => [(1, .func (.func 58) #[] #[.pointer (some ⟨γ1 1, 0, none⟩), .pointer (some ⟨γ1 2, 0, none⟩)]), (2, .pointer (some ⟨γ3 0, 0, none⟩)), (4, .pointer (some ⟨γ3 1, 0, none⟩)), (7, .pointer (some ⟨γ195 0, 0, none⟩)), (18, .slice (some ⟨g75, 0, none⟩) n n), (21, .int .i64 ((m : Nat)))]) (fun ⟨c75, g75, γ195⟩ => [bx (γ195 0) (#[.slice none 0 0, .slice none 0 0]) 25, bx g75 c75 32, bx (γ3 1) (#[.slice none 0 0, .slice none 0 0]) 25, bx (γ3 0) (#[.slice p n cap, .slice q m capv]) 25, bx (γ1 3) (#[.slice none 0 0, .slice none 0 0]) 25, bx (γ1 2) (#[.int .u32 h, .int .u32 s]) 41, bx (γ1 1) (#[.int .i64 k]) 3, bx (γ1 0) (#[.slice p n cap, .slice q m capv]) 25]) ?_ (fun hmx14 => ?_)
   ·
    rintro ⟨c75, g75, γ195⟩ hc75
    refine a1 7 rfl ?_
    refine ops_make (T := 43) (ks := 4) (by_ := 24) (n := m) rfl (by kernel_rfl) (by kernel_rfl) (by kernel_rfl) (by kernel_rfl) (by kernel_rfl) (by omega) (by have hmx : maxLen = 9223372036854775807 := rfl; omega) (fun g155 c155 hc155 => ?_)
    refine od_ ?_
    refine tk (m := 1) [8] [] [1, 2, 4, 7] [(23, .agg #[.slice (some ⟨g75, 0, none⟩) n n, .slice (some ⟨g155, 0, none⟩) m m])] ([]) #[true, true, true, true, true, true, true, true, true, true, false] al0 ?_
    exact wk (hmx17 (c155, c75, g155, g75, γ195) ⟨hc155, hc75⟩) [1, 2, 4, 7, 23] [[_], [_], [_], [_], [_], [_], [_], [_], [_]] [1, 0, 2, 3, 4, 5, 6, 7, 8] rfl rfl
   refine any_cutX (V := (Array Value) × (Nat)) (fun ⟨c155, g155⟩ => c155.size = m * 4) 4 #[true, true, true, false, true, true, true, true, false, false, false] (fun ⟨c155, g155⟩ => [(1, .func (.func 58) #[] #[.pointer (some ⟨γ1 1, 0, none⟩), .pointer (some ⟨γ1 2, 0, none⟩)]), (2, .pointer (some ⟨γ3 0, 0, none⟩)), (4, .pointer (some ⟨γ3 1, 0, none⟩)), (17, .int .i64 ((n : Nat))), (22, .slice (some ⟨g155, 0, none⟩) m m)]) (fun ⟨c155, g155⟩ => [bx g155 c155 43, bx (γ3 1) (#[.slice none 0 0, .slice none 0 0]) 25, bx (γ3 0) (#[.slice p n cap, .slice q m capv]) 25, bx (γ1 3) (#[.slice none 0 0, .slice none 0 0]) 25, bx (γ1 2) (#[.int .u32 h, .int .u32 s]) 41, bx (γ1 1) (#[.int .i64 k]) 3, bx (γ1 0) (#[.slice p n cap, .slice q m capv]) 25]) ?_ (fun hmx13 => ?_)
   ·
    rintro ⟨c155, g155⟩ hc155
    refine any_fork [3, 9] (by kernel_rfl) (by simp) (each_cons _ rfl ?_ (each_cons _ rfl ?_ (each_nil)))
    ·
     refine ops_make (T := 32) (ks := 4) (by_ := 32) (n := n) rfl (by kernel_rfl) (by kernel_rfl) (by kernel_rfl) (by kernel_rfl) (by kernel_rfl) (by omega) (by have hmx : maxLen = 9223372036854775807 := rfl; omega) (fun g75 c75 hc75 => ?_)
     refine od_ ?_
     refine tk (m := 2) [8] [] [1, 2, 4] [(23, .agg #[.slice (some ⟨g75, 0, none⟩) n n, .slice (some ⟨g155, 0, none⟩) m m])] ([]) #[true, true, true, true, true, true, true, true, true, false, false] al0 ?_
     exact wk (hmx16 (c155, c75, g155, g75) ⟨hc155, hc75⟩) [1, 2, 4, 23] [[_], [_], [_], [_], [_], [_], [_], [_]] [1, 0, 2, 3, 4, 5, 6, 7] rfl rfl
    ·
     refine mo0 1 [] [1, 2, 4, 17, 22] (fun γ195 => [(7, .pointer (some ⟨γ195 0, 0, none⟩))]) (fun γ195 L => bx (γ195 0) (#[.slice none 0 0, .slice none 0 0]) 25 :: L) (fun γ195 => ?_)
     refine od_ ?_
     exact wk (hmx15 (c155, g155, γ195) hc155) [1, 2, 4, 7, 17, 22] [[_], [_], [_], [_], [_], [_], [_], [_]] [0, 1, 2, 3, 4, 5, 6, 7] rfl rfl
   refine any_cutX (V := (Array Value) × (Nat)) (fun ⟨c75, g75⟩ => c75.size = n * 4) 4 #[true, true, true, true, true, true, true, false, false, false, false] (fun ⟨c75, g75⟩ => [(1, .func (.func 58) #[] #[.pointer (some ⟨γ1 1, 0, none⟩), .pointer (some ⟨γ1 2, 0, none⟩)]), (2, .pointer (some ⟨γ3 0, 0, none⟩)), (4, .pointer (some ⟨γ3 1, 0, none⟩)), (18, .slice (some ⟨g75, 0, none⟩) n n), (21, .int .i64 ((m : Nat)))]) (fun ⟨c75, g75⟩ => [bx g75 c75 32, bx (γ3 1) (#[.slice none 0 0, .slice none 0 0]) 25, bx (γ3 0) (#[.slice p n cap, .slice q m capv]) 25, bx (γ1 3) (#[.slice none 0 0, .slice none 0 0]) 25, bx (γ1 2) (#[.int .u32 h, .int .u32 s]) 41, bx (γ1 1) (#[.int .i64 k]) 3, bx (γ1 0) (#[.slice p n cap, .slice q m capv]) 25]) ?_ (fun hmx12 => ?_)
   ·
    rintro ⟨c75, g75⟩ hc75
    refine any_fork [7, 9] (by kernel_rfl) (by simp) (each_cons _ rfl ?_ (each_cons _ rfl ?_ (each_nil)))
    ·
     refine ops_make (T := 43) (ks := 4) (by_ := 24) (n := m) rfl (by kernel_rfl) (by kernel_rfl) (by kernel_rfl) (by kernel_rfl) (by kernel_rfl) (by omega) (by have hmx : maxLen = 9223372036854775807 := rfl; omega) (fun g155 c155 hc155 => ?_)
     refine od_ ?_
     refine tk (m := 2) [8] [] [1, 2, 4] [(23, .agg #[.slice (some ⟨g75, 0, none⟩) n n, .slice (some ⟨g155, 0, none⟩) m m])] ([]) #[true, true, true, true, true, true, true, true, true, false, false] al0 ?_
     exact wk (hmx16 (c155, c75, g155, g75) ⟨hc155, hc75⟩) [1, 2, 4, 23] [[_], [_], [_], [_], [_], [_], [_], [_]] [0, 1, 2, 3, 4, 5, 6, 7] rfl rfl
    ·
     refine mo0 1 [] [1, 2, 4, 18, 21] (fun γ195 => [(7, .pointer (some ⟨γ195 0, 0, none⟩))]) (fun γ195 L => bx (γ195 0) (#[.slice none 0 0, .slice none 0 0]) 25 :: L) (fun γ195 => ?_)
     refine od_ ?_
     exact wk (hmx14 (c75, g75, γ195) hc75) [1, 2, 4, 7, 18, 21] [[_], [_], [_], [_], [_], [_], [_], [_]] [0, 1, 2, 3, 4, 5, 6, 7] rfl rfl
   refine any_cutX (V := (Nat → Nat)) (fun γ195 => True) 4 #[true, true, true, false, true, true, true, false, false, true, false] (fun γ195 => [(1, .func (.func 58) #[] #[.pointer (some ⟨γ1 1, 0, none⟩), .pointer (some ⟨γ1 2, 0, none⟩)]), (2, .pointer (some ⟨γ3 0, 0, none⟩)), (4, .pointer (some ⟨γ3 1, 0, none⟩)), (7, .pointer (some ⟨γ195 0, 0, none⟩)), (17, .int .i64 ((n : Nat))), (21, .int .i64 ((m : Nat)))]) (fun γ195 => [bx (γ195 0) (#[.slice none 0 0, .slice none 0 0]) 25, bx (γ3 1) (#[.slice none 0 0, .slice none 0 0]) 25, bx (γ3 0) (#[.slice p n cap, .slice q m capv]) 25, bx (γ1 3) (#[.slice none 0 0, .slice none 0 0]) 25, bx (γ1 2) (#[.int .u32 h, .int .u32 s]) 41, bx (γ1 1) (#[.int .i64 k]) 3, bx (γ1 0) (#[.slice p n cap, .slice q m capv]) 25]) ?_ (fun hmx11 => ?_)
   ·
    rintro γ195 _
    refine any_fork [3, 7] (by kernel_rfl) (by simp) (each_cons _ rfl ?_ (each_cons _ rfl ?_ (each_nil)))
    ·
     refine ops_make (T := 32) (ks := 4) (by_ := 32) (n := n) rfl (by kernel_rfl) (by kernel_rfl) (by kernel_rfl) (by kernel_rfl) (by kernel_rfl) (by omega) (by have hmx : maxLen = 9223372036854775807 := rfl; omega) (fun g75 c75 hc75 => ?_)
     refine od_ ?_
     exact wk (hmx14 (c75, g75, γ195) hc75) [1, 2, 4, 7, 18, 21] [[_], [_], [_], [_], [_], [_], [_], [_]] [1, 0, 2, 3, 4, 5, 6, 7] rfl rfl
    ·
     refine ops_make (T := 43) (ks := 4) (by_ := 24) (n := m) rfl (by kernel_rfl) (by kernel_rfl) (by kernel_rfl) (by kernel_rfl) (by kernel_rfl) (by omega) (by have hmx : maxLen = 9223372036854775807 := rfl; omega) (fun g155 c155 hc155 => ?_)
     refine od_ ?_
     exact wk (hmx15 (c155, g155, γ195) hc155) [1, 2, 4, 7, 17, 22] [[_], [_], [_], [_], [_], [_], [_], [_]] [1, 0, 2, 3, 4, 5, 6, 7] rfl rfl
   refine any_cutX (V := (Array Value) × (Nat) × (Nat → Nat)) (fun ⟨c155, g155, γ195⟩ => c155.size = m * 4) 5 #[true, false, false, false, true, true, true, true, false, true, false] (fun ⟨c155, g155, γ195⟩ => [(1, .func (.func 58) #[] #[.pointer (some ⟨γ1 1, 0, none⟩), .pointer (some ⟨γ1 2, 0, none⟩)]), (2, .pointer (some ⟨γ3 0, 0, none⟩)), (4, .pointer (some ⟨γ3 1, 0, none⟩)), (7, .pointer (some ⟨γ195 0, 0, none⟩)), (15, .pointer (some ⟨γ3 0, 0, none⟩)), (22, .slice (some ⟨g155, 0, none⟩) m m)]) (fun ⟨c155, g155, γ195⟩ => [bx (γ195 0) (#[.slice none 0 0, .slice none 0 0]) 25, bx g155 c155 43, bx (γ3 1) (#[.slice none 0 0, .slice none 0 0]) 25, bx (γ3 0) (#[.slice p n cap, .slice q m capv]) 25, bx (γ1 3) (#[.slice none 0 0, .slice none 0 0]) 25, bx (γ1 2) (#[.int .u32 h, .int .u32 s]) 41, bx (γ1 1) (#[.int .i64 k]) 3, bx (γ1 0) (#[.slice p n cap, .slice q m capv]) 25]) ?_ (fun hmx10 => ?_)
   ·
    rintro ⟨c155, g155, γ195⟩ hc155
    refine a1 1 rfl ?_
    refine qo0 1 [(1, .go (owns 3 0 1))] [1, 2, 4, 7, 22] [(16, .slice p n cap)] ?_
    refine od_ ?_
    refine tk (m := 3) [2] [] [1, 2, 4, 7, 22] [(17, .int .i64 ((n : Nat)))] ([]) #[true, true, true, false, true, true, true, true, false, true, false] al0 ?_
    exact wk (hmx15 (c155, g155, γ195) hc155) [1, 2, 4, 7, 17, 22] [[_], [_], [_], [_], [_], [_], [_], [_]] [0, 1, 2, 3, 4, 5, 6, 7] rfl rfl
   refine any_cutX (V := (Array Value) × (Nat) × (Nat → Nat)) (fun ⟨c75, g75, γ195⟩ => c75.size = n * 4) 5 #[true, true, true, true, true, false, false, false, false, true, false] (fun ⟨c75, g75, γ195⟩ => [(1, .func (.func 58) #[] #[.pointer (some ⟨γ1 1, 0, none⟩), .pointer (some ⟨γ1 2, 0, none⟩)]), (2, .pointer (some ⟨γ3 0, 0, none⟩)), (4, .pointer (some ⟨γ3 1, 0, none⟩)), (7, .pointer (some ⟨γ195 0, 0, none⟩)), (18, .slice (some ⟨g75, 0, none⟩) n n), (19, .pointer (some ⟨γ3 0, 1, none⟩))]) (fun ⟨c75, g75, γ195⟩ => [bx (γ195 0) (#[.slice none 0 0, .slice none 0 0]) 25, bx g75 c75 32, bx (γ3 1) (#[.slice none 0 0, .slice none 0 0]) 25, bx (γ3 0) (#[.slice p n cap, .slice q m capv]) 25, bx (γ1 3) (#[.slice none 0 0, .slice none 0 0]) 25, bx (γ1 2) (#[.int .u32 h, .int .u32 s]) 41, bx (γ1 1) (#[.int .i64 k]) 3, bx (γ1 0) (#[.slice p n cap, .slice q m capv]) 25]) ?_ (fun hmx9 => ?_)
   ·
    rintro ⟨c75, g75, γ195⟩ hc75
    refine a1 5 rfl ?_
    refine qo0 1 [(5, .go (owns 3 1 1))] [1, 2, 4, 7, 18] [(20, .slice q m capv)] ?_
    refine od_ ?_
    refine tk (m := 3) [6] [] [1, 2, 4, 7, 18] [(21, .int .i64 ((m : Nat)))] ([]) #[true, true, true, true, true, true, true, false, false, true, false] al0 ?_
    exact wk (hmx14 (c75, g75, γ195) hc75) [1, 2, 4, 7, 18, 21] [[_], [_], [_], [_], [_], [_], [_], [_]] [0, 1, 2, 3, 4, 5, 6, 7] rfl rfl
   refine any_cutX (V := Unit) (fun _ => True) 5 #[true, true, true, false, true, true, true, false, false, false, false] (fun _ => [(1, .func (.func 58) #[] #[.pointer (some ⟨γ1 1, 0, none⟩), .pointer (some ⟨γ1 2, 0, none⟩)]), (2, .pointer (some ⟨γ3 0, 0, none⟩)), (4, .pointer (some ⟨γ3 1, 0, none⟩)), (17, .int .i64 ((n : Nat))), (21, .int .i64 ((m : Nat)))]) (fun _ => [bx (γ3 1) (#[.slice none 0 0, .slice none 0 0]) 25, bx (γ3 0) (#[.slice p n cap, .slice q m capv]) 25, bx (γ1 3) (#[.slice none 0 0, .slice none 0 0]) 25, bx (γ1 2) (#[.int .u32 h, .int .u32 s]) 41, bx (γ1 1) (#[.int .i64 k]) 3, bx (γ1 0) (#[.slice p n cap, .slice q m capv]) 25]) ?_ (fun hmx8 => ?_)
   ·
    rintro _ _
    refine any_fork [3, 7, 9] (by kernel_rfl) (by simp) (each_cons _ rfl ?_ (each_cons _ rfl ?_ (each_cons _ rfl ?_ (each_nil))))
    ·
     refine ops_make (T := 32) (ks := 4) (by_ := 32) (n := n) rfl (by kernel_rfl) (by kernel_rfl) (by kernel_rfl) (by kernel_rfl) (by kernel_rfl) (by omega) (by have hmx : maxLen = 9223372036854775807 := rfl; omega) (fun g75 c75 hc75 => ?_)
     refine od_ ?_
     exact wk (hmx12 (c75, g75) hc75) [1, 2, 4, 18, 21] [[_], [_], [_], [_], [_], [_], [_]] [0, 1, 2, 3, 4, 5, 6] rfl rfl
    ·
     refine ops_make (T := 43) (ks := 4) (by_ := 24) (n := m) rfl (by kernel_rfl) (by kernel_rfl) (by kernel_rfl) (by kernel_rfl) (by kernel_rfl) (by omega) (by have hmx : maxLen = 9223372036854775807 := rfl; omega) (fun g155 c155 hc155 => ?_)
     refine od_ ?_
     exact wk (hmx13 (c155, g155) hc155) [1, 2, 4, 17, 22] [[_], [_], [_], [_], [_], [_], [_]] [0, 1, 2, 3, 4, 5, 6] rfl rfl
    ·
     refine mo0 1 [] [1, 2, 4, 17, 21] (fun γ195 => [(7, .pointer (some ⟨γ195 0, 0, none⟩))]) (fun γ195 L => bx (γ195 0) (#[.slice none 0 0, .slice none 0 0]) 25 :: L) (fun γ195 => ?_)
     refine od_ ?_
     exact wk (hmx11 γ195 trivial) [1, 2, 4, 7, 17, 21] [[_], [_], [_], [_], [_], [_], [_]] [0, 1, 2, 3, 4, 5, 6] rfl rfl
   refine any_cutX (V := (Array Value) × (Nat)) (fun ⟨c155, g155⟩ => c155.size = m * 4) 6 #[true, false, false, false, true, true, true, true, false, false, false] (fun ⟨c155, g155⟩ => [(1, .func (.func 58) #[] #[.pointer (some ⟨γ1 1, 0, none⟩), .pointer (some ⟨γ1 2, 0, none⟩)]), (2, .pointer (some ⟨γ3 0, 0, none⟩)), (4, .pointer (some ⟨γ3 1, 0, none⟩)), (15, .pointer (some ⟨γ3 0, 0, none⟩)), (22, .slice (some ⟨g155, 0, none⟩) m m)]) (fun ⟨c155, g155⟩ => [bx g155 c155 43, bx (γ3 1) (#[.slice none 0 0, .slice none 0 0]) 25, bx (γ3 0) (#[.slice p n cap, .slice q m capv]) 25, bx (γ1 3) (#[.slice none 0 0, .slice none 0 0]) 25, bx (γ1 2) (#[.int .u32 h, .int .u32 s]) 41, bx (γ1 1) (#[.int .i64 k]) 3, bx (γ1 0) (#[.slice p n cap, .slice q m capv]) 25]) ?_ (fun hmx7 => ?_)
   ·
    rintro ⟨c155, g155⟩ hc155
    refine any_fork [1, 9] (by kernel_rfl) (by simp) (each_cons _ rfl ?_ (each_cons _ rfl ?_ (each_nil)))
    ·
     refine qo0 1 [(1, .go (owns 2 0 1))] [1, 2, 4, 22] [(16, .slice p n cap)] ?_
     refine od_ ?_
     refine tk (m := 4) [2] [] [1, 2, 4, 22] [(17, .int .i64 ((n : Nat)))] ([]) #[true, true, true, false, true, true, true, true, false, false, false] al0 ?_
     exact wk (hmx13 (c155, g155) hc155) [1, 2, 4, 17, 22] [[_], [_], [_], [_], [_], [_], [_]] [0, 1, 2, 3, 4, 5, 6] rfl rfl
    ·
     refine mo0 1 [] [1, 2, 4, 15, 22] (fun γ195 => [(7, .pointer (some ⟨γ195 0, 0, none⟩))]) (fun γ195 L => bx (γ195 0) (#[.slice none 0 0, .slice none 0 0]) 25 :: L) (fun γ195 => ?_)
     refine od_ ?_
     exact wk (hmx10 (c155, g155, γ195) hc155) [1, 2, 4, 7, 15, 22] [[_], [_], [_], [_], [_], [_], [_], [_]] [0, 1, 2, 3, 4, 5, 6, 7] rfl rfl
   refine any_cutX (V := (Array Value) × (Nat)) (fun ⟨c75, g75⟩ => c75.size = n * 4) 6 #[true, true, true, true, true, false, false, false, false, false, false] (fun ⟨c75, g75⟩ => [(1, .func (.func 58) #[] #[.pointer (some ⟨γ1 1, 0, none⟩), .pointer (some ⟨γ1 2, 0, none⟩)]), (2, .pointer (some ⟨γ3 0, 0, none⟩)), (4, .pointer (some ⟨γ3 1, 0, none⟩)), (18, .slice (some ⟨g75, 0, none⟩) n n), (19, .pointer (some ⟨γ3 0, 1, none⟩))]) (fun ⟨c75, g75⟩ => [bx g75 c75 32, bx (γ3 1) (#[.slice none 0 0, .slice none 0 0]) 25, bx (γ3 0) (#[.slice p n cap, .slice q m capv]) 25, bx (γ1 3) (#[.slice none 0 0, .slice none 0 0]) 25, bx (γ1 2) (#[.int .u32 h, .int .u32 s]) 41, bx (γ1 1) (#[.int .i64 k]) 3, bx (γ1 0) (#[.slice p n cap, .slice q m capv]) 25]) ?_ (fun hmx6 => ?_)
   ·
    rintro ⟨c75, g75⟩ hc75
    refine any_fork [5, 9] (by kernel_rfl) (by simp) (each_cons _ rfl ?_ (each_cons _ rfl ?_ (each_nil)))
    ·
     refine qo0 1 [(5, .go (owns 2 1 1))] [1, 2, 4, 18] [(20, .slice q m capv)] ?_
     refine od_ ?_
     refine tk (m := 4) [6] [] [1, 2, 4, 18] [(21, .int .i64 ((m : Nat)))] ([]) #[true, true, true, true, true, true, true, false, false, false, false] al0 ?_
     exact wk (hmx12 (c75, g75) hc75) [1, 2, 4, 18, 21] [[_], [_], [_], [_], [_], [_], [_]] [0, 1, 2, 3, 4, 5, 6] rfl rfl
    ·
     refine mo0 1 [] [1, 2, 4, 18, 19] (fun γ195 => [(7, .pointer (some ⟨γ195 0, 0, none⟩))]) (fun γ195 L => bx (γ195 0) (#[.slice none 0 0, .slice none 0 0]) 25 :: L) (fun γ195 => ?_)
     refine od_ ?_
     exact wk (hmx9 (c75, g75, γ195) hc75) [1, 2, 4, 7, 18, 19] [[_], [_], [_], [_], [_], [_], [_], [_]] [0, 1, 2, 3, 4, 5, 6, 7] rfl rfl
   refine any_cutX (V := (Nat → Nat)) (fun γ195 => True) 6 #[true, false, false, false, true, true, true, false, false, true, false] (fun γ195 => [(1, .func (.func 58) #[] #[.pointer (some ⟨γ1 1, 0, none⟩), .pointer (some ⟨γ1 2, 0, none⟩)]), (2, .pointer (some ⟨γ3 0, 0, none⟩)), (4, .pointer (some ⟨γ3 1, 0, none⟩)), (7, .pointer (some ⟨γ195 0, 0, none⟩)), (15, .pointer (some ⟨γ3 0, 0, none⟩)), (21, .int .i64 ((m : Nat)))]) (fun γ195 => [bx (γ195 0) (#[.slice none 0 0, .slice none 0 0]) 25, bx (γ3 1) (#[.slice none 0 0, .slice none 0 0]) 25, bx (γ3 0) (#[.slice p n cap, .slice q m capv]) 25, bx (γ1 3) (#[.slice none 0 0, .slice none 0 0]) 25, bx (γ1 2) (#[.int .u32 h, .int .u32 s]) 41, bx (γ1 1) (#[.int .i64 k]) 3, bx (γ1 0) (#[.slice p n cap, .slice q m capv]) 25]) ?_ (fun hmx5 => ?_)
   ·
    rintro γ195 _
    refine any_fork [1, 7] (by kernel_rfl) (by simp) (each_cons _ rfl ?_ (each_cons _ rfl ?_ (each_nil)))
    ·
     refine qo0 1 [(1, .go (owns 2 0 1))] [1, 2, 4, 7, 21] [(16, .slice p n cap)] ?_
     refine od_ ?_
     refine tk (m := 4) [2] [] [1, 2, 4, 7, 21] [(17, .int .i64 ((n : Nat)))] ([]) #[true, true, true, false, true, true, true, false, false, true, false] al0 ?_
     exact wk (hmx11 γ195 trivial) [1, 2, 4, 7, 17, 21] [[_], [_], [_], [_], [_], [_], [_]] [0, 1, 2, 3, 4, 5, 6] rfl rfl
    ·
     refine ops_make (T := 43) (ks := 4) (by_ := 24) (n := m) rfl (by kernel_rfl) (by kernel_rfl) (by kernel_rfl) (by kernel_rfl) (by kernel_rfl) (by omega) (by have hmx : maxLen = 9223372036854775807 := rfl; omega) (fun g155 c155 hc155 => ?_)
     refine od_ ?_
     exact wk (hmx10 (c155, g155, γ195) hc155) [1, 2, 4, 7, 15, 22] [[_], [_], [_], [_], [_], [_], [_], [_]] [1, 0, 2, 3, 4, 5, 6, 7] rfl rfl
   refine any_cutX (V := (Nat → Nat)) (fun γ195 => True) 6 #[true, true, true, false, true, false, false, false, false, true, false] (fun γ195 => [(1, .func (.func 58) #[] #[.pointer (some ⟨γ1 1, 0, none⟩), .pointer (some ⟨γ1 2, 0, none⟩)]), (2, .pointer (some ⟨γ3 0, 0, none⟩)), (4, .pointer (some ⟨γ3 1, 0, none⟩)), (7, .pointer (some ⟨γ195 0, 0, none⟩)), (17, .int .i64 ((n : Nat))), (19, .pointer (some ⟨γ3 0, 1, none⟩))]) (fun γ195 => [bx (γ195 0) (#[.slice none 0 0, .slice none 0 0]) 25, bx (γ3 1) (#[.slice none 0 0, .slice none 0 0]) 25, bx (γ3 0) (#[.slice p n cap, .slice q m capv]) 25, bx (γ1 3) (#[.slice none 0 0, .slice none 0 0]) 25, bx (γ1 2) (#[.int .u32 h, .int .u32 s]) 41, bx (γ1 1) (#[.int .i64 k]) 3, bx (γ1 0) (#[.slice p n cap, .slice q m capv]) 25]) ?_ (fun hmx4 => ?_)
   ·
    rintro γ195 _
    refine any_fork [3, 5] (by kernel_rfl) (by simp) (each_cons _ rfl ?_ (each_cons _ rfl ?_ (each_nil)))
    ·
     refine ops_make (T := 32) (ks := 4) (by_ := 32) (n := n) rfl (by kernel_rfl) (by kernel_rfl) (by kernel_rfl) (by kernel_rfl) (by kernel_rfl) (by omega) (by have hmx : maxLen = 9223372036854775807 := rfl; omega) (fun g75 c75 hc75 => ?_)
     refine od_ ?_
     exact wk (hmx9 (c75, g75, γ195) hc75) [1, 2, 4, 7, 18, 19] [[_], [_], [_], [_], [_], [_], [_], [_]] [1, 0, 2, 3, 4, 5, 6, 7] rfl rfl
    ·
     refine qo0 1 [(5, .go (owns 2 1 1))] [1, 2, 4, 7, 17] [(20, .slice q m capv)] ?_
     refine od_ ?_
     refine tk (m := 4) [6] [] [1, 2, 4, 7, 17] [(21, .int .i64 ((m : Nat)))] ([]) #[true, true, true, false, true, true, true, false, false, true, false] al0 ?_
     exact wk (hmx11 γ195 trivial) [1, 2, 4, 7, 17, 21] [[_], [_], [_], [_], [_], [_], [_]] [0, 1, 2, 3, 4, 5, 6] rfl rfl
   refine any_cutX (V := Unit) (fun _ => True) 7 #[true, false, false, false, true, true, true, false, false, false, false] (fun _ => [(1, .func (.func 58) #[] #[.pointer (some ⟨γ1 1, 0, none⟩), .pointer (some ⟨γ1 2, 0, none⟩)]), (2, .pointer (some ⟨γ3 0, 0, none⟩)), (4, .pointer (some ⟨γ3 1, 0, none⟩)), (15, .pointer (some ⟨γ3 0, 0, none⟩)), (21, .int .i64 ((m : Nat)))]) (fun _ => [bx (γ3 1) (#[.slice none 0 0, .slice none 0 0]) 25, bx (γ3 0) (#[.slice p n cap, .slice q m capv]) 25, bx (γ1 3) (#[.slice none 0 0, .slice none 0 0]) 25, bx (γ1 2) (#[.int .u32 h, .int .u32 s]) 41, bx (γ1 1) (#[.int .i64 k]) 3, bx (γ1 0) (#[.slice p n cap, .slice q m capv]) 25]) ?_ (fun hmx3 => ?_)
   ·
    rintro _ _
    refine any_fork [1, 7, 9] (by kernel_rfl) (by simp) (each_cons _ rfl ?_ (each_cons _ rfl ?_ (each_cons _ rfl ?_ (each_nil))))
    ·
     refine qo0 1 [(1, .go (owns 1 0 1))] [1, 2, 4, 21] [(16, .slice p n cap)] ?_
     refine od_ ?_
     refine tk (m := 5) [2] [] [1, 2, 4, 21] [(17, .int .i64 ((n : Nat)))] ([]) #[true, true, true, false, true, true, true, false, false, false, false] al0 ?_
     exact wk (hmx8 () trivial) [1, 2, 4, 17, 21] [[_], [_], [_], [_], [_], [_]] [0, 1, 2, 3, 4, 5] rfl rfl
    ·
     refine ops_make (T := 43) (ks := 4) (by_ := 24) (n := m) rfl (by kernel_rfl) (by kernel_rfl) (by kernel_rfl) (by kernel_rfl) (by kernel_rfl) (by omega) (by have hmx : maxLen = 9223372036854775807 := rfl; omega) (fun g155 c155 hc155 => ?_)
     refine od_ ?_
     exact wk (hmx7 (c155, g155) hc155) [1, 2, 4, 15, 22] [[_], [_], [_], [_], [_], [_], [_]] [0, 1, 2, 3, 4, 5, 6] rfl rfl
    ·
     refine mo0 1 [] [1, 2, 4, 15, 21] (fun γ195 => [(7, .pointer (some ⟨γ195 0, 0, none⟩))]) (fun γ195 L => bx (γ195 0) (#[.slice none 0 0, .slice none 0 0]) 25 :: L) (fun γ195 => ?_)
     refine od_ ?_
     exact wk (hmx5 γ195 trivial) [1, 2, 4, 7, 15, 21] [[_], [_], [_], [_], [_], [_], [_]] [0, 1, 2, 3, 4, 5, 6] rfl rfl
   refine any_cutX (V := Unit) (fun _ => True) 7 #[true, true, true, false, true, false, false, false, false, false, false] (fun _ => [(1, .func (.func 58) #[] #[.pointer (some ⟨γ1 1, 0, none⟩), .pointer (some ⟨γ1 2, 0, none⟩)]), (2, .pointer (some ⟨γ3 0, 0, none⟩)), (4, .pointer (some ⟨γ3 1, 0, none⟩)), (17, .int .i64 ((n : Nat))), (19, .pointer (some ⟨γ3 0, 1, none⟩))]) (fun _ => [bx (γ3 1) (#[.slice none 0 0, .slice none 0 0]) 25, bx (γ3 0) (#[.slice p n cap, .slice q m capv]) 25, bx (γ1 3) (#[.slice none 0 0, .slice none 0 0]) 25, bx (γ1 2) (#[.int .u32 h, .int .u32 s]) 41, bx (γ1 1) (#[.int .i64 k]) 3, bx (γ1 0) (#[.slice p n cap, .slice q m capv]) 25]) ?_ (fun hmx2 => ?_)
   ·
    rintro _ _
    refine any_fork [3, 5, 9] (by kernel_rfl) (by simp) (each_cons _ rfl ?_ (each_cons _ rfl ?_ (each_cons _ rfl ?_ (each_nil))))
    ·
     refine ops_make (T := 32) (ks := 4) (by_ := 32) (n := n) rfl (by kernel_rfl) (by kernel_rfl) (by kernel_rfl) (by kernel_rfl) (by kernel_rfl) (by omega) (by have hmx : maxLen = 9223372036854775807 := rfl; omega) (fun g75 c75 hc75 => ?_)
     refine od_ ?_
     exact wk (hmx6 (c75, g75) hc75) [1, 2, 4, 18, 19] [[_], [_], [_], [_], [_], [_], [_]] [0, 1, 2, 3, 4, 5, 6] rfl rfl
    ·
     refine qo0 1 [(5, .go (owns 1 1 1))] [1, 2, 4, 17] [(20, .slice q m capv)] ?_
     refine od_ ?_
     refine tk (m := 5) [6] [] [1, 2, 4, 17] [(21, .int .i64 ((m : Nat)))] ([]) #[true, true, true, false, true, true, true, false, false, false, false] al0 ?_
     exact wk (hmx8 () trivial) [1, 2, 4, 17, 21] [[_], [_], [_], [_], [_], [_]] [0, 1, 2, 3, 4, 5] rfl rfl
    ·
     refine mo0 1 [] [1, 2, 4, 17, 19] (fun γ195 => [(7, .pointer (some ⟨γ195 0, 0, none⟩))]) (fun γ195 L => bx (γ195 0) (#[.slice none 0 0, .slice none 0 0]) 25 :: L) (fun γ195 => ?_)
     refine od_ ?_
     exact wk (hmx4 γ195 trivial) [1, 2, 4, 7, 17, 19] [[_], [_], [_], [_], [_], [_], [_]] [0, 1, 2, 3, 4, 5, 6] rfl rfl
   refine any_cutX (V := (Nat → Nat)) (fun γ195 => True) 8 #[true, false, false, false, true, false, false, false, false, true, false] (fun γ195 => [(1, .func (.func 58) #[] #[.pointer (some ⟨γ1 1, 0, none⟩), .pointer (some ⟨γ1 2, 0, none⟩)]), (2, .pointer (some ⟨γ3 0, 0, none⟩)), (4, .pointer (some ⟨γ3 1, 0, none⟩)), (7, .pointer (some ⟨γ195 0, 0, none⟩)), (15, .pointer (some ⟨γ3 0, 0, none⟩)), (19, .pointer (some ⟨γ3 0, 1, none⟩))]) (fun γ195 => [bx (γ195 0) (#[.slice none 0 0, .slice none 0 0]) 25, bx (γ3 1) (#[.slice none 0 0, .slice none 0 0]) 25, bx (γ3 0) (#[.slice p n cap, .slice q m capv]) 25, bx (γ1 3) (#[.slice none 0 0, .slice none 0 0]) 25, bx (γ1 2) (#[.int .u32 h, .int .u32 s]) 41, bx (γ1 1) (#[.int .i64 k]) 3, bx (γ1 0) (#[.slice p n cap, .slice q m capv]) 25]) ?_ (fun hmx1 => ?_)
   ·
    rintro γ195 _
    refine any_fork [1, 5] (by kernel_rfl) (by simp) (each_cons _ rfl ?_ (each_cons _ rfl ?_ (each_nil)))
    ·
     refine qo0 1 [(1, .go (owns 2 0 1))] [1, 2, 4, 7, 19] [(16, .slice p n cap)] ?_
     refine od_ ?_
     refine tk (m := 6) [2] [] [1, 2, 4, 7, 19] [(17, .int .i64 ((n : Nat)))] ([]) #[true, true, true, false, true, false, false, false, false, true, false] al0 ?_
     exact wk (hmx4 γ195 trivial) [1, 2, 4, 7, 17, 19] [[_], [_], [_], [_], [_], [_], [_]] [0, 1, 2, 3, 4, 5, 6] rfl rfl
    ·
     refine qo0 1 [(5, .go (owns 2 1 1))] [1, 2, 4, 7, 15] [(20, .slice q m capv)] ?_
     refine od_ ?_
     refine tk (m := 6) [6] [] [1, 2, 4, 7, 15] [(21, .int .i64 ((m : Nat)))] ([]) #[true, false, false, false, true, true, true, false, false, true, false] al0 ?_
     exact wk (hmx5 γ195 trivial) [1, 2, 4, 7, 15, 21] [[_], [_], [_], [_], [_], [_], [_]] [0, 1, 2, 3, 4, 5, 6] rfl rfl
   refine any_fork [1, 5, 9] (by kernel_rfl) (by simp) (each_cons _ rfl ?_ (each_cons _ rfl ?_ (each_cons _ rfl ?_ (each_nil))))
   ·
    refine qo0 1 [(1, .go (owns 1 0 1))] [1, 2, 4, 19] [(16, .slice p n cap)] ?_
    refine od_ ?_
    refine tk (m := 7) [2] [] [1, 2, 4, 19] [(17, .int .i64 ((n : Nat)))] ([]) #[true, true, true, false, true, false, false, false, false, false, false] al0 ?_
    exact wk (hmx2 () trivial) [1, 2, 4, 17, 19] [[_], [_], [_], [_], [_], [_]] [0, 1, 2, 3, 4, 5] rfl rfl
   ·
    refine qo0 1 [(5, .go (owns 1 1 1))] [1, 2, 4, 15] [(20, .slice q m capv)] ?_
    refine od_ ?_
    refine tk (m := 7) [6] [] [1, 2, 4, 15] [(21, .int .i64 ((m : Nat)))] ([]) #[true, false, false, false, true, true, true, false, false, false, false] al0 ?_
    exact wk (hmx3 () trivial) [1, 2, 4, 15, 21] [[_], [_], [_], [_], [_], [_]] [0, 1, 2, 3, 4, 5] rfl rfl
   ·
    refine mo0 1 [] [1, 2, 4, 15, 19] (fun γ195 => [(7, .pointer (some ⟨γ195 0, 0, none⟩))]) (fun γ195 L => bx (γ195 0) (#[.slice none 0 0, .slice none 0 0]) 25 :: L) (fun γ195 => ?_)
    refine od_ ?_
    exact wk (hmx1 γ195 trivial) [1, 2, 4, 7, 15, 19] [[_], [_], [_], [_], [_], [_], [_]] [0, 1, 2, 3, 4, 5, 6] rfl rfl
  rintro ⟨c155, c75, g155, g75, γ195⟩ ⟨hc155, hc75⟩
  refine any_nil (by kernel_rfl) ?_
  refine ds_ (sq_ (ao_ (qo0 4 [(1, .go (owns 0 0 1)), (3, .go (owns 4 0 1))] [1, 2, 4, 7] [(25, .slice (some ⟨g75, 0, none⟩) n n), (27, .slice p n cap)] (ops_copy 2 rfl (by kernel_rfl) (by kernel_rfl) (g := g75) (of := 0) (dn := n) (dc := n) (m := n) (cnt := n) (c := c75) (yv := (.slice p n cap)) (ds.flatMap Enc.enc) (by kernel_rfl) (by kernel_rfl) (T := 32) (ks := 4) (by_ := 32) (by kernel_rfl) (T' := 32) (by kernel_rfl) len_slice (by omega) (fun w hw => by have := first_sv (P := Try.prog) (w := w) (p := p) (m := n) (cap := cap) (cnt := n) (hds.kept hw.below) (by omega); rw [List.take_of_length_le (by omega)] at this; exact this) (by first | (rw [flat_len, Nat.zero_add, hc75, ← hn]; exact Nat.le_refl _) | (rw [flat_len, Nat.zero_add, hc75, ← hn])) (flat_one ds) ?_))))
  have hOw303 := OwnS.filled (l := ds) (n := n) hc75 hn (by have hmx : maxLen = 9223372036854775807 := rfl; omega)
  have hO303 := SlO.ofOwn (T := 32) (g := g75) hOw303 hn
  refine on_ (ds_ (sq_ (ao_ (qo0 4 [(1, .go (owns 0 1 1)), (3, .go (owns 4 1 1))] [1, 4, 7] [(30, .slice (some ⟨g155, 0, none⟩) m m), (32, .slice q m capv)] (ops_copy 1 rfl (by kernel_rfl) (by kernel_rfl) (g := g155) (of := 0) (dn := m) (dc := m) (m := m) (cnt := m) (c := c155) (yv := (.slice q m capv)) (vs.flatMap Enc.enc) (by kernel_rfl) (by kernel_rfl) (T := 43) (ks := 4) (by_ := 24) (by kernel_rfl) (T' := 43) (by kernel_rfl) len_slice (by omega) (fun w hw => by have := first_sv (P := Try.prog) (w := w) (p := q) (m := m) (cap := capv) (cnt := m) (hvs.kept hw.below) (by omega); rw [List.take_of_length_le (by omega)] at this; exact this) (by first | (rw [flat_len, Nat.zero_add, hc155, ← hm]; exact Nat.le_refl _) | (rw [flat_len, Nat.zero_add, hc155, ← hm])) (flat_one vs) ?_)))))
  have hOw306 := OwnS.filled (l := vs) (n := m) hc155 hm (by have hmx : maxLen = 9223372036854775807 := rfl; omega)
  have hO306 := SlO.ofOwn (T := 43) (g := g155) hOw306 hm
  refine on_ (ds_ (sq_ (sq_ (ao_ (qo0 1 [] [4, 7] [(34, .func (.func 58) #[] #[.pointer (some ⟨γ1 1, 0, none⟩), .pointer (some ⟨γ1 2, 0, none⟩)])] (ops_inline (g := 58) (args := #[.pointer (some ⟨γ195 0, 0, none⟩), .pointer (some ⟨γ1 1, 0, none⟩), .pointer (some ⟨γ1 2, 0, none⟩)]) (by kernel_rfl) (by kernel_rfl) (by kernel_rfl) (fun args w => Try.call58 args w) Try.func58 rfl Try.ntmps58 rfl (sq_ (qa0 [] [0, 1, 2] [] (ds_ (sq_ ?_))))))))))
  refine at_calm rfl (by kernel_rfl) (by kernel_rfl) ?_
  refine cm 5 [(3, .go (owns 0 1 1)), (4, .go (owns 7 0 1))] [0, 2] [(11, .slice (some ⟨g155, 0, none⟩) m m), (12, .int .i64 k)] ([]) (by kernel_rfl) rfl al0 ?_
  rcases hg311 : getK Vcp.id vs k with _ | y311
  ·
   have hpl311 := (pos_cut (k := k) (guests_iff.1 q5).vr).2.2
   refine cK (.tuple #[.int .i64 ((posK Vcp.id vs k : Nat)), .bool false]) Try.call56 (fun w hw => by have := placev_d (some ⟨g155, 0, none⟩) m m vs k w (hO306.atN (A := [_]) hw) hm (by omega) (guests_iff.1 q5).vr; rw [hasK_none hg311] at this; exact this) ?_
   refine cm 5 [] [0, 2] [(5, .int .i64 ((posK Vcp.id vs k : Nat))), (6, .bool false)] ([]) (by kernel_rfl) rfl al0 ?_
   refine calm_nil' ?_
   refine ds_ (sq_ (at_block (sq_ (qa0 [] [0, 2, 5] [(16, .bool true)] (ds_ (t_ (sq_ (qa0 [] [] [(4, .int .i64 4)] (ds_ (bk ([]) (.int .i64 4) (qo0 1 [] [4, 7] [(8, .int .i64 4)] (on_ (ds_ (sq_ (qa0 [] [4, 7, 8] [(37, .bool true)] (ds_ (t_ (sq_ (qa0 [(2, .go (owns 3 0 2))] [4] [(5, .int .i64 4)] (ds_ (bk (owns 3 0 2) (.tuple #[.agg #[.slice none 0 0, .slice none 0 0], .int .i64 4]) (qo0 4 [(5, .go (owns 5 0 2))] [6] [(7, .int .i64 4)] (on_ (ds_ (rt (owns 5 0 2) (.tuple #[.agg #[.slice none 0 0, .slice none 0 0], .int .i64 4]) ?_)))))))))))))))))))))))))
   exact fun w' hw => by rw [remaskV_none q5 hg311]; exact ⟨none, 0, 0, [], none, 0, 0, [], rfl, SlO.nil, SlO.nil, hw.below, hw.sub (List.nil_sublist _)⟩
  ·
   have hp_y311 := pos_getK (guests_iff.1 q5).vr hg311
   have hl_y311 := (List.getElem?_eq_some_iff.1 hp_y311).1
   refine cK (.tuple #[.int .i64 ((posK Vcp.id vs k : Nat)), .bool true]) Try.call56 (fun w hw => by have := placev_d (some ⟨g155, 0, none⟩) m m vs k w (hO306.atN (A := [_]) hw) hm (by omega) (guests_iff.1 q5).vr; rw [hasK_some hg311] at this; exact this) ?_
   refine cm 5 [] [0, 2] [(5, .int .i64 ((posK Vcp.id vs k : Nat))), (6, .bool true)] ([]) (by kernel_rfl) rfl al0 ?_
   refine calm_nil' ?_
   refine ds_ (sq_ (at_block (sq_ (qa0 [] [0, 2, 5] [(16, .bool false)] (ds_ (f_ (sq_ (ao_ (qo0 1 [(0, .go (owns 6 0 2))] [0, 2, 5] [(20, .agg #[.int .u32 h, .int .u32 s])] ?_)))))))))
   rcases q322 : maskB h s with _ | _
   ·
    refine cD (.int .i64 170) Try.call48 (fun w hw => by have := mask_d h s w; rw [q322] at this; exact this) (qo0 2 [] [0, 2, 5] [(19, .bool true)] (on_ (ds_ (t_ (sq_ (qa0 [] [] [(4, .int .i64 170)] (ds_ (bk ([]) (.int .i64 170) (qo0 1 [] [4, 7] [(8, .int .i64 170)] (on_ (ds_ (sq_ (qa0 [] [4, 7, 8] [(37, .bool true)] (ds_ (t_ (sq_ (qa0 [(2, .go (owns 3 0 2))] [4] [(5, .int .i64 170)] (ds_ (bk (owns 3 0 2) (.tuple #[.agg #[.slice none 0 0, .slice none 0 0], .int .i64 170]) (qo0 4 [(5, .go (owns 5 0 2))] [6] [(7, .int .i64 170)] (on_ (ds_ (rt (owns 5 0 2) (.tuple #[.agg #[.slice none 0 0, .slice none 0 0], .int .i64 170]) ?_)))))))))))))))))))))))
    exact fun w' hw => by rw [remaskV_mask q5 hg311 q322]; exact ⟨none, 0, 0, [], none, 0, 0, [], rfl, SlO.nil, SlO.nil, hw.below, hw.sub (List.nil_sublist _)⟩
   ·
    refine cD (.int .i64 0) Try.call48 (fun w hw => by have := mask_d h s w; rw [q322] at this; exact this) (qo0 2 [] [0, 2, 5] [(19, .bool false)] (on_ (ds_ (f_ (at_skip (done_block (ds_ (sq_ ?_))))))))
    refine at_any (by kernel_rfl) ?_
    refine tk (m := 5) [0, 1, 2, 4] [] [2] [(25, .pointer (some ⟨γ195 0, 1, none⟩)), (27, .int .i64 ((posK Vcp.id vs k : Nat)))] ([]) #[true, true, true, false, true, false, false, false, false] al0 ?_
    refine any_cut 1 #[true, true, true, true, true, true, true, true, false] ([(28, .agg #[.int .u32 h, .int .u32 s]), (30, .pointer (some ⟨g155, 0 + (posK Vcp.id vs k) * 4 + 2, none⟩))]) ([bx (γ195 0) (#[.slice (some ⟨g75, 0, none⟩) n n, .slice (some ⟨g155, 0, none⟩) m m]) 25, bx g155 ((sets c155 0 (vs.flatMap Enc.enc))) 43, bx g75 ((sets c75 0 (ds.flatMap Enc.enc))) 32, bx (γ3 1) (#[.slice none 0 0, .slice none 0 0]) 25, bx (γ3 0) (#[.slice p n cap, .slice q m capv]) 25, bx (γ1 3) (#[.slice none 0 0, .slice none 0 0]) 25, bx (γ1 2) (#[.int .u32 h, .int .u32 s]) 41, bx (γ1 1) (#[.int .i64 k]) 3, bx (γ1 0) (#[.slice p n cap, .slice q m capv]) 25]) ?_ (fun hm => ?_)
    rotate_left
    ·
     refine any_fork [3, 5] (by kernel_rfl) (by simp) (each_cons _ rfl ?_ (each_cons _ rfl ?_ (each_nil)))
     ·
      refine qo0 1 [(3, .go (owns 0 1 1))] [2, 27] [(26, .slice (some ⟨g155, 0, none⟩) m m)] ?_
      refine od_ ?_
      refine a1 5 rfl ?_
      refine qo0 1 [(5, .go (owns 6 0 2))] [26, 27] [(28, .agg #[.int .u32 h, .int .u32 s])] ?_
      refine od_ ?_
      refine tk (m := 1) [6, 7] [(6, .at g155 0 (posK Vcp.id vs k))] [28] [(30, .pointer (some ⟨g155, 0 + (posK Vcp.id vs k) * 4 + 2, none⟩))] ([(some ⟨g155, 0, none⟩ : Option Addr) = some ⟨g155, 0, none⟩, ((posK Vcp.id vs k : Nat)) = ((posK Vcp.id vs k : Nat) : Int), posK Vcp.id vs k < m]) #[true, true, true, true, true, true, true, true, false] (al2 rfl (al2 rfl (al1 (by omega)))) ?_
      exact any_weak hm [28, 30] (by kernel_rfl) rfl rfl rfl
     ·
      refine qo0 1 [(5, .go (owns 6 0 2))] [25, 27] [(28, .agg #[.int .u32 h, .int .u32 s])] ?_
      refine od_ ?_
      refine a1 3 rfl ?_
      refine qo0 1 [(3, .go (owns 0 1 1))] [27, 28] [(26, .slice (some ⟨g155, 0, none⟩) m m)] ?_
      refine od_ ?_
      refine tk (m := 1) [6, 7] [(6, .at g155 0 (posK Vcp.id vs k))] [28] [(30, .pointer (some ⟨g155, 0 + (posK Vcp.id vs k) * 4 + 2, none⟩))] ([(some ⟨g155, 0, none⟩ : Option Addr) = some ⟨g155, 0, none⟩, ((posK Vcp.id vs k : Nat)) = ((posK Vcp.id vs k : Nat) : Int), posK Vcp.id vs k < m]) #[true, true, true, true, true, true, true, true, false] (al2 rfl (al2 rfl (al1 (by omega)))) ?_
      exact any_weak hm [28, 30] (by kernel_rfl) rfl rfl rfl
    refine a1 8 rfl ?_
    refine mo 1 [(8, .go (ownps 1 (0 + (posK Vcp.id vs k) * 4 + 2) [undef, undef]))] [] (fun _ => []) (fun _ L => (L.set 1 (bx g155 ((((sets c155 0 (vs.flatMap Enc.enc))).setIfInBounds (0 + (posK Vcp.id vs k) * 4 + 2) (.int .u32 h)).setIfInBounds (0 + (posK Vcp.id vs k) * 4 + 2 + 1) (.int .u32 s)) 43))) (fun _ => [0 + (posK Vcp.id vs k) * 4 + 2 < ((sets c155 0 (vs.flatMap Enc.enc))).size] ++ ([0 + (posK Vcp.id vs k) * 4 + 2 + 1 < (((sets c155 0 (vs.flatMap Enc.enc))).setIfInBounds (0 + (posK Vcp.id vs k) * 4 + 2) (.int .u32 h)).size])) (fun _ => (alA (al1 (hOw306.room hm hp_y311 (f := 2) (by decide))) (al1 (by simp only [Array.size_setIfInBounds]; exact hOw306.room hm hp_y311 (f := 3) (by decide))))) (fun _ => ?_)
    refine od_ ?_
    refine any_nil (by kernel_rfl) ?_
    refine ds_ (sq_ (qa0 [] [] [(4, .int .i64 0)] (ds_ (bk ([]) (.int .i64 0) (qo0 1 [] [4, 7] [(8, .int .i64 0)] (on_ (ds_ (sq_ (qa0 [] [4, 7, 8] [(37, .bool false)] (ds_ (f_ (at_skip (ds_ (sq_ (ma0 [(0, .go (owns 0 0 2)), (1, .go (owns 3 0 2))] [4] (fun _ => [(5, .int .i64 0)]) (fun _ L => (L.set 3 (bx (γ3 1) (#[.slice (some ⟨g75, 0, none⟩) n n, .slice (some ⟨g155, 0, none⟩) m m]) 25))) (fun _ => ds_ (bk (owns 3 0 2) (.tuple #[.agg #[.slice (some ⟨g75, 0, none⟩) n n, .slice (some ⟨g155, 0, none⟩) m m], .int .i64 0]) (mo0 4 [(5, .go (owns 5 0 2))] [6] (fun _ => [(7, .int .i64 0)]) (fun _ L => (L.set 5 (bx (γ1 3) (#[.slice (some ⟨g75, 0, none⟩) n n, .slice (some ⟨g155, 0, none⟩) m m]) 25))) (fun _ => on_ (ds_ (rt (owns 5 0 2) (.tuple #[.agg #[.slice (some ⟨g75, 0, none⟩) n n, .slice (some ⟨g155, 0, none⟩) m m], .int .i64 0]) ?_)))))))))))))))))))))
    exact fun w' hw => by rw [remaskV_ok q5 hg311 q322]; exact ⟨_, _, _, _, _, _, _, _, rfl, hO303, (SlO.ofOwn (hOw306.put2 (x' := (⟨y311.id, y311.dom, h, s⟩ : Vcp)) (f := 2) hm hp_y311 (by decide) ⟨(⟨y311.id, y311.dom, h, y311.soft⟩ : Vcp), rfl⟩ rfl) (len_set hm)), hw.below, two_tails (Hs.pick [[bx (γ195 0) (#[.slice (some ⟨g75, 0, none⟩) n n, .slice (some ⟨g155, 0, none⟩) m m]) 25], [bx g155 ((((sets c155 0 (vs.flatMap Enc.enc))).setIfInBounds (0 + (posK Vcp.id vs k) * 4 + 2) (.int .u32 h)).setIfInBounds (0 + (posK Vcp.id vs k) * 4 + 2 + 1) (.int .u32 s)) 43], [bx g75 ((sets c75 0 (ds.flatMap Enc.enc))) 32], [bx (γ3 1) (#[.slice (some ⟨g75, 0, none⟩) n n, .slice (some ⟨g155, 0, none⟩) m m]) 25], [bx (γ3 0) (#[.slice p n cap, .slice q m capv]) 25], [bx (γ1 3) (#[.slice (some ⟨g75, 0, none⟩) n n, .slice (some ⟨g155, 0, none⟩) m m]) 25], [bx (γ1 2) (#[.int .u32 h, .int .u32 s]) 41], [bx (γ1 1) (#[.int .i64 k]) 3], [bx (γ1 0) (#[.slice p n cap, .slice q m capv]) 25]] [2, 1] [0, 3, 4, 5, 6, 7, 8] (by kernel_rfl) hw)⟩
end Go.Proofs.Ytnoefldpkfpglaa

/-! The walker: three bounds; what slices.Delete does to its row. -/
namespace Go.Proofs.Ytnoefldpkfpglaa
open Go Go.RowKit
section
variable {P : Program} {T e : TypeId} {n cap k by_ b o lo hi mx : Nat}
theorem slE_3 (hE : elemB P T e k by_ = true) (h1 : lo ≤ hi) (h2 : hi ≤ mx) (h3 : mx ≤ cap) (h4 : lo < mx) : SlRun P T (.slice (some ⟨b, o, none⟩) n cap) (some (.int .i64 (lo : Int))) (some (.int .i64 (hi : Int))) (some (.int .i64 (mx : Int))) (.slice (some ⟨b, o + lo * k, none⟩) (hi - lo) (mx - lo)) := by
  obtain ⟨hu, i, z, hi', _, _, hk, _⟩ := elemB_spec hE
  subst hk
  intro w
  have hne : ¬ mx = lo := by omega
  simp [Instr.sliceAt, Instr.slice, underlying, hu, Instr.sliceBounds, run_bound h1, run_bound h2, run_bound h3, sizeOf, typeInfo, hi', hne, addr_add]
theorem slE_mid (hE : elemB P T e k by_ = true) (h1 : lo ≤ hi) (h2 : hi ≤ cap) (h4 : lo < cap) : SlRun P T (.slice (some ⟨b, o, none⟩) n cap) (some (.int .i64 (lo : Int))) (some (.int .i64 (hi : Int))) none (.slice (some ⟨b, o + lo * k, none⟩) (hi - lo) (cap - lo)) := by
  obtain ⟨hu, i, z, hi', _, _, hk, _⟩ := elemB_spec hE
  subst hk
  intro w
  have hne : ¬ cap = lo := by omega
  simp [Instr.sliceAt, Instr.slice, underlying, hu, Instr.sliceBounds, run_bound h1, run_bound h2, sizeOf, typeInfo, hi', hne, addr_add]
end
section
variable {α : Type} [Enc α] {l : List α} {i i2 n cap : Nat} {cs : Array Value} {w : World}
theorem strike_room (h : OwnS (Enc.k α) (l.flatMap Enc.enc) n cap cs) (hi : i ≤ i2) (hi2 : i2 ≤ n) : 0 + i * Enc.k α + ((cs.toList.drop (0 + i2 * Enc.k α)).take ((n - i2) * Enc.k α)).length ≤ cs.size := by
  rw [row_len h hi2, h.csz, Nat.zero_add, ← Nat.add_mul]
  have := h.le
  exact Nat.mul_le_mul_right _ (by omega)
theorem strike_clear {vs : List Value} {o : Nat} (h : OwnS (Enc.k α) (l.flatMap Enc.enc) n cap cs) (hi : i ≤ n) : 0 + i * Enc.k α + (n - i) * Enc.k α ≤ (sets cs o vs).size := by
  rw [sets_size, h.csz, Nat.zero_add, ← Nat.add_mul]
  have := h.le
  exact Nat.mul_le_mul_right _ (by omega)
theorem src_strike {P : Program} {tx e : TypeId} (hu : P.underlying tx = some (.slice e)) (hz : n - i2 = 0) {c2 : Nat} {p : Option Addr} :
    Go.Src P (Enc.k α) tx (.slice p (n - i2) c2) (n - i2) ((cs.toList.drop (0 + i2 * Enc.k α)).take ((n - i2) * Enc.k α)) w := by
  rw [hz, Nat.zero_mul, List.take_zero]
  exact src_svn (α := α) (l2 := []) hu Sv.nil rfl
end
section
variable {E : Env} {k : List Fr} {l lx : Sl} {L : List Ob} {c d : Code}
end
end Go.Proofs.Ytnoefldpkfpglaa

/-! slices.Delete. -/
namespace Go.Proofs.Ytnoefldpkfpglaa
open Go Go.RowKit

set_option maxRecDepth 100000 in
theorem deleteD_d (w0 : World) (X Y : List Ob) (p : Option Addr) (n cap : Nat) (l : List Dom) (i i2 : Nat) (w : World)
 (hH : Hs w0 (Y ++ X) w) (hO : SlO 32 Y p n cap l) (hi : i < i2) (hi2 : i2 ≤ n) (hb : n ≤ 1000)
 : Calls Try.prog 65 #[.slice p n cap, .int .i64 (i : Nat), .int .i64 (i2 : Nat)] w fun e w' => ∃ q capq Y', e = .returned (.slice q (i + (n - i2)) capq) ∧ SlO 32 Y' q (i + (n - i2)) capq (l.take i ++ l.drop i2) ∧ Hs w0 (Y' ++ X) w' := by
 have hn := hO.len
 obtain ⟨g, cs, rfl, rfl, hOw⟩ := hO.rowOf (i := i) (by omega)
 have hcap := hOw.le
 refine enter hH Try.func65 rfl Try.ntmps65 rfl (sq_ (qa0 [] [0, 1, 2] [] (ds_ (sq_ (qa [(5, .sl (.slice (some ⟨g, 0 + i * 4, none⟩) (i2 - i) (n - i)))] [0, 1, 2] [] ([SlRun Try.prog 22 (.slice (some ⟨g, 0, none⟩) n cap) (some (.int .i64 ((i : Nat)))) (some (.int .i64 ((i2 : Nat)))) (some (.int .i64 ((n : Nat)))) (.slice (some ⟨g, 0 + i * 4, none⟩) (i2 - i) (n - i))]) (al1 (slE_3 (P := Try.prog) (T := 22) (e := 32) (k := 4) (by_ := 32) (by kernel_rfl) (lo := i) (hi := i2) (mx := n) (by omega) (by omega) (by omega) (by omega))) (ds_ (sq_ (sq_ (qa [(2, .no)] [0, 1, 2] [(16, .bool false)] ([¬ (((i : Nat) : Int) = ((i2 : Nat) : Int))]) (al1 ((by omega))) (ds_ (f_ (at_skip (ds_ (sq_ (qa0 [] [0, 1, 2] [(7, .int .i64 ((n : Nat)))] (ds_ (sq_ ?_)))))))))))))))))
 by_cases q5 : cap = i2
 ·
  refine at_any (by kernel_rfl) ?_
  refine tk (m := 4) [0, 1, 3, 4] [] [0, 7] [(20, .slice (some ⟨g, 0, none⟩) n cap), (21, .int .i64 ((i : Nat))), (23, .slice (some ⟨g, 0, none⟩) n cap), (24, .int .i64 ((i2 : Nat)))] ([]) #[true, true, false, true, true, false, false, false] al0 ?_
  refine any_cut 2 #[true, true, true, true, true, true, false, false] ([(0, .slice (some ⟨g, 0, none⟩) n cap), (7, .int .i64 ((n : Nat))), (22, .slice (some ⟨g, 0, none⟩) i cap), (25, .slice (some ⟨g, 0, none⟩) (n - i2) (cap - i2))]) (bx g cs 32 :: X) ?_ (fun hm => ?_)
  rotate_left
  ·
   refine any_fork [2, 5] (by kernel_rfl) (by simp) (each_cons _ rfl ?_ (each_cons _ rfl ?_ (each_nil)))
   ·
    refine qo 1 [(2, .sl (.slice (some ⟨g, 0, none⟩) i cap))] [0, 7, 23, 24] [(22, .slice (some ⟨g, 0, none⟩) i cap)] ([SlRun Try.prog 22 (.slice (some ⟨g, 0, none⟩) n cap) none (some (.int .i64 ((i : Nat)))) none (.slice (some ⟨g, 0, none⟩) i cap)]) (al1 (slE_hi (P := Try.prog) (T := 22) (e := 32) (k := 4) (by_ := 32) (by kernel_rfl) (h := i) (by omega))) ?_
    refine od_ ?_
    refine a1 5 rfl ?_
    refine qo 1 [(5, .sl (.slice (some ⟨g, 0, none⟩) (n - i2) (cap - i2)))] [0, 7, 22] [(25, .slice (some ⟨g, 0, none⟩) (n - i2) (cap - i2))] ([SlRun Try.prog 22 (.slice (some ⟨g, 0, none⟩) n cap) (some (.int .i64 ((i2 : Nat)))) none none (.slice (some ⟨g, 0, none⟩) (n - i2) (cap - i2))]) (al1 (by have := slE_cut (P := Try.prog) (T := 22) (e := 32) (k := 4) (by_ := 32) (by kernel_rfl) (lo := i2) (p := some ⟨g, 0, none⟩) (n := n) (cap := cap) (by omega); rw [if_pos q5] at this; exact this)) ?_
    refine od_ ?_
    exact any_weak hm [0, 7, 22, 25] (by kernel_rfl) rfl rfl rfl
   ·
    refine qo 1 [(5, .sl (.slice (some ⟨g, 0, none⟩) (n - i2) (cap - i2)))] [0, 7, 20, 21] [(25, .slice (some ⟨g, 0, none⟩) (n - i2) (cap - i2))] ([SlRun Try.prog 22 (.slice (some ⟨g, 0, none⟩) n cap) (some (.int .i64 ((i2 : Nat)))) none none (.slice (some ⟨g, 0, none⟩) (n - i2) (cap - i2))]) (al1 (by have := slE_cut (P := Try.prog) (T := 22) (e := 32) (k := 4) (by_ := 32) (by kernel_rfl) (lo := i2) (p := some ⟨g, 0, none⟩) (n := n) (cap := cap) (by omega); rw [if_pos q5] at this; exact this)) ?_
    refine od_ ?_
    refine a1 2 rfl ?_
    refine qo 1 [(2, .sl (.slice (some ⟨g, 0, none⟩) i cap))] [0, 7, 25] [(22, .slice (some ⟨g, 0, none⟩) i cap)] ([SlRun Try.prog 22 (.slice (some ⟨g, 0, none⟩) n cap) none (some (.int .i64 ((i : Nat)))) none (.slice (some ⟨g, 0, none⟩) i cap)]) (al1 (slE_hi (P := Try.prog) (T := 22) (e := 32) (k := 4) (by_ := 32) (by kernel_rfl) (h := i) (by omega))) ?_
    refine od_ ?_
    exact any_weak hm [0, 7, 22, 25] (by kernel_rfl) rfl rfl rfl
  refine a1 6 rfl ?_
  refine ops_appendR 0 rfl (by kernel_rfl) (by kernel_rfl) (g := g) (n := i) (cap := cap) (m := n - i2) (c := cs) (yv := .slice (some ⟨g, 0, none⟩) (n - i2) (cap - i2)) ((cs.toList.drop (0 + i2 * 4)).take ((n - i2) * 4)) (by kernel_rfl) (by kernel_rfl) (T := 32) (ks := 4) (by_ := 32) (by kernel_rfl) (T' := 32) (by kernel_rfl) (by omega) (fun w hw => (src_strike (α := Dom) Try.underlying22 (by omega))) (strike_room hOw (by omega) (by omega)) ?_
  refine od_ ?_
  refine tk (m := 0) [7] [] [7] [(0, .slice (some ⟨g, 0, none⟩) (i + (n - i2)) cap)] ([]) #[true, true, true, true, true, true, true, true] al0 ?_
  refine any_nil (by kernel_rfl) ?_
  refine ds_ (sq_ (ao_ (qo 5 [(4, .sl (.slice (some ⟨g, 0 + (i + (n - i2)) * 4, none⟩) (n - (i + (n - i2))) (cap - (i + (n - i2)))))] [0] [(31, .slice (some ⟨g, 0 + (i + (n - i2)) * 4, none⟩) (n - (i + (n - i2))) (cap - (i + (n - i2))))] ([SlRun Try.prog 22 (.slice (some ⟨g, 0, none⟩) (i + (n - i2)) cap) (some (.int .i64 ((i + (n - i2) : Nat)))) (some (.int .i64 ((n : Nat)))) none (.slice (some ⟨g, 0 + (i + (n - i2)) * 4, none⟩) (n - (i + (n - i2))) (cap - (i + (n - i2))))]) (al1 (slE_mid (P := Try.prog) (T := 22) (e := 32) (k := 4) (by_ := 32) (by kernel_rfl) (lo := i + (n - i2)) (hi := n) (by omega) (by omega) (by omega))) (ops_clear 0 rfl (by kernel_rfl) (by kernel_rfl) (g := g) (of := 0 + (i + (n - i2)) * 4) (n := n - (i + (n - i2))) (dc := cap - (i + (n - i2))) (c := (sets cs (0 + i * 4) ((cs.toList.drop (0 + i2 * 4)).take ((n - i2) * 4)))) (by kernel_rfl) (T := 32) (ks := 4) (by_ := 32) (by kernel_rfl) (by kernel_rfl) rfl (strike_clear hOw (by omega)) (fun c2 hc2 hpre2 => on_ (ds_ (sq_ (qa0 [] [] [(6, .slice (some ⟨g, 0, none⟩) (i + (n - i2)) cap)] (ds_ (rt ([]) (.slice (some ⟨g, 0, none⟩) (i + (n - i2)) cap) ?_))))))))))
  exact fun w' hw => ⟨_, _, [_], rfl, .inr ⟨_, _, rfl, rfl, by rw [List.length_append, List.length_take, List.length_drop]; omega, hOw.strike hn (by omega) (by omega) (hc2.trans (sets_size ..)) hpre2⟩, hw⟩
 ·
  refine at_any (by kernel_rfl) ?_
  refine tk (m := 4) [0, 1, 3, 4] [] [0, 7] [(20, .slice (some ⟨g, 0, none⟩) n cap), (21, .int .i64 ((i : Nat))), (23, .slice (some ⟨g, 0, none⟩) n cap), (24, .int .i64 ((i2 : Nat)))] ([]) #[true, true, false, true, true, false, false, false] al0 ?_
  refine any_cut 2 #[true, true, true, true, true, true, false, false] ([(0, .slice (some ⟨g, 0, none⟩) n cap), (7, .int .i64 ((n : Nat))), (22, .slice (some ⟨g, 0, none⟩) i cap), (25, .slice (some ⟨g, 0 + i2 * 4, none⟩) (n - i2) (cap - i2))]) (bx g cs 32 :: X) ?_ (fun hm => ?_)
  rotate_left
  ·
   refine any_fork [2, 5] (by kernel_rfl) (by simp) (each_cons _ rfl ?_ (each_cons _ rfl ?_ (each_nil)))
   ·
    refine qo 1 [(2, .sl (.slice (some ⟨g, 0, none⟩) i cap))] [0, 7, 23, 24] [(22, .slice (some ⟨g, 0, none⟩) i cap)] ([SlRun Try.prog 22 (.slice (some ⟨g, 0, none⟩) n cap) none (some (.int .i64 ((i : Nat)))) none (.slice (some ⟨g, 0, none⟩) i cap)]) (al1 (slE_hi (P := Try.prog) (T := 22) (e := 32) (k := 4) (by_ := 32) (by kernel_rfl) (h := i) (by omega))) ?_
    refine od_ ?_
    refine a1 5 rfl ?_
    refine qo 1 [(5, .sl (.slice (some ⟨g, 0 + i2 * 4, none⟩) (n - i2) (cap - i2)))] [0, 7, 22] [(25, .slice (some ⟨g, 0 + i2 * 4, none⟩) (n - i2) (cap - i2))] ([SlRun Try.prog 22 (.slice (some ⟨g, 0, none⟩) n cap) (some (.int .i64 ((i2 : Nat)))) none none (.slice (some ⟨g, 0 + i2 * 4, none⟩) (n - i2) (cap - i2))]) (al1 (slE_lo (P := Try.prog) (T := 22) (e := 32) (k := 4) (by_ := 32) (by kernel_rfl) (lo := i2) (by omega) (by omega))) ?_
    refine od_ ?_
    exact any_weak hm [0, 7, 22, 25] (by kernel_rfl) rfl rfl rfl
   ·
    refine qo 1 [(5, .sl (.slice (some ⟨g, 0 + i2 * 4, none⟩) (n - i2) (cap - i2)))] [0, 7, 20, 21] [(25, .slice (some ⟨g, 0 + i2 * 4, none⟩) (n - i2) (cap - i2))] ([SlRun Try.prog 22 (.slice (some ⟨g, 0, none⟩) n cap) (some (.int .i64 ((i2 : Nat)))) none none (.slice (some ⟨g, 0 + i2 * 4, none⟩) (n - i2) (cap - i2))]) (al1 (slE_lo (P := Try.prog) (T := 22) (e := 32) (k := 4) (by_ := 32) (by kernel_rfl) (lo := i2) (by omega) (by omega))) ?_
    refine od_ ?_
    refine a1 2 rfl ?_
    refine qo 1 [(2, .sl (.slice (some ⟨g, 0, none⟩) i cap))] [0, 7, 25] [(22, .slice (some ⟨g, 0, none⟩) i cap)] ([SlRun Try.prog 22 (.slice (some ⟨g, 0, none⟩) n cap) none (some (.int .i64 ((i : Nat)))) none (.slice (some ⟨g, 0, none⟩) i cap)]) (al1 (slE_hi (P := Try.prog) (T := 22) (e := 32) (k := 4) (by_ := 32) (by kernel_rfl) (h := i) (by omega))) ?_
    refine od_ ?_
    exact any_weak hm [0, 7, 22, 25] (by kernel_rfl) rfl rfl rfl
  refine a1 6 rfl ?_
  refine ops_appendR 0 rfl (by kernel_rfl) (by kernel_rfl) (g := g) (n := i) (cap := cap) (m := n - i2) (c := cs) (yv := .slice (some ⟨g, 0 + i2 * 4, none⟩) (n - i2) (cap - i2)) ((cs.toList.drop (0 + i2 * 4)).take ((n - i2) * 4)) (by kernel_rfl) (by kernel_rfl) (T := 32) (ks := 4) (by_ := 32) (by kernel_rfl) (T' := 32) (by kernel_rfl) (by omega) (fun w hw => (src_own Try.underlying22 (hw.row 0 rfl) hOw (by omega))) (strike_room hOw (by omega) (by omega)) ?_
  refine od_ ?_
  refine tk (m := 0) [7] [] [7] [(0, .slice (some ⟨g, 0, none⟩) (i + (n - i2)) cap)] ([]) #[true, true, true, true, true, true, true, true] al0 ?_
  refine any_nil (by kernel_rfl) ?_
  refine ds_ (sq_ (ao_ (qo 5 [(4, .sl (.slice (some ⟨g, 0 + (i + (n - i2)) * 4, none⟩) (n - (i + (n - i2))) (cap - (i + (n - i2)))))] [0] [(31, .slice (some ⟨g, 0 + (i + (n - i2)) * 4, none⟩) (n - (i + (n - i2))) (cap - (i + (n - i2))))] ([SlRun Try.prog 22 (.slice (some ⟨g, 0, none⟩) (i + (n - i2)) cap) (some (.int .i64 ((i + (n - i2) : Nat)))) (some (.int .i64 ((n : Nat)))) none (.slice (some ⟨g, 0 + (i + (n - i2)) * 4, none⟩) (n - (i + (n - i2))) (cap - (i + (n - i2))))]) (al1 (slE_mid (P := Try.prog) (T := 22) (e := 32) (k := 4) (by_ := 32) (by kernel_rfl) (lo := i + (n - i2)) (hi := n) (by omega) (by omega) (by omega))) (ops_clear 0 rfl (by kernel_rfl) (by kernel_rfl) (g := g) (of := 0 + (i + (n - i2)) * 4) (n := n - (i + (n - i2))) (dc := cap - (i + (n - i2))) (c := (sets cs (0 + i * 4) ((cs.toList.drop (0 + i2 * 4)).take ((n - i2) * 4)))) (by kernel_rfl) (T := 32) (ks := 4) (by_ := 32) (by kernel_rfl) (by kernel_rfl) rfl (strike_clear hOw (by omega)) (fun c2 hc2 hpre2 => on_ (ds_ (sq_ (qa0 [] [] [(6, .slice (some ⟨g, 0, none⟩) (i + (n - i2)) cap)] (ds_ (rt ([]) (.slice (some ⟨g, 0, none⟩) (i + (n - i2)) cap) ?_))))))))))
  exact fun w' hw => ⟨_, _, [_], rfl, .inr ⟨_, _, rfl, rfl, by rw [List.length_append, List.length_take, List.length_drop]; omega, hOw.strike hn (by omega) (by omega) (hc2.trans (sets_size ..)) hpre2⟩, hw⟩

set_option maxRecDepth 100000 in
theorem deleteV_d (w0 : World) (X Y : List Ob) (p : Option Addr) (n cap : Nat) (l : List Vcp) (i i2 : Nat) (w : World)
 (hH : Hs w0 (Y ++ X) w) (hO : SlO 43 Y p n cap l) (hi : i < i2) (hi2 : i2 ≤ n) (hb : n ≤ 1000)
 : Calls Try.prog 57 #[.slice p n cap, .int .i64 (i : Nat), .int .i64 (i2 : Nat)] w fun e w' => ∃ q capq Y', e = .returned (.slice q (i + (n - i2)) capq) ∧ SlO 43 Y' q (i + (n - i2)) capq (l.take i ++ l.drop i2) ∧ Hs w0 (Y' ++ X) w' := by
 have hn := hO.len
 obtain ⟨g, cs, rfl, rfl, hOw⟩ := hO.rowOf (i := i) (by omega)
 have hcap := hOw.le
 refine enter hH Try.func57 rfl Try.ntmps57 rfl (sq_ (qa0 [] [0, 1, 2] [] (ds_ (sq_ (qa [(5, .sl (.slice (some ⟨g, 0 + i * 4, none⟩) (i2 - i) (n - i)))] [0, 1, 2] [] ([SlRun Try.prog 23 (.slice (some ⟨g, 0, none⟩) n cap) (some (.int .i64 ((i : Nat)))) (some (.int .i64 ((i2 : Nat)))) (some (.int .i64 ((n : Nat)))) (.slice (some ⟨g, 0 + i * 4, none⟩) (i2 - i) (n - i))]) (al1 (slE_3 (P := Try.prog) (T := 23) (e := 43) (k := 4) (by_ := 24) (by kernel_rfl) (lo := i) (hi := i2) (mx := n) (by omega) (by omega) (by omega) (by omega))) (ds_ (sq_ (sq_ (qa [(2, .no)] [0, 1, 2] [(16, .bool false)] ([¬ (((i : Nat) : Int) = ((i2 : Nat) : Int))]) (al1 ((by omega))) (ds_ (f_ (at_skip (ds_ (sq_ (qa0 [] [0, 1, 2] [(7, .int .i64 ((n : Nat)))] (ds_ (sq_ ?_)))))))))))))))))
 by_cases q5 : cap = i2
 ·
  refine at_any (by kernel_rfl) ?_
  refine tk (m := 4) [0, 1, 3, 4] [] [0, 7] [(20, .slice (some ⟨g, 0, none⟩) n cap), (21, .int .i64 ((i : Nat))), (23, .slice (some ⟨g, 0, none⟩) n cap), (24, .int .i64 ((i2 : Nat)))] ([]) #[true, true, false, true, true, false, false, false] al0 ?_
  refine any_cut 2 #[true, true, true, true, true, true, false, false] ([(0, .slice (some ⟨g, 0, none⟩) n cap), (7, .int .i64 ((n : Nat))), (22, .slice (some ⟨g, 0, none⟩) i cap), (25, .slice (some ⟨g, 0, none⟩) (n - i2) (cap - i2))]) (bx g cs 43 :: X) ?_ (fun hm => ?_)
  rotate_left
  ·
   refine any_fork [2, 5] (by kernel_rfl) (by simp) (each_cons _ rfl ?_ (each_cons _ rfl ?_ (each_nil)))
   ·
    refine qo 1 [(2, .sl (.slice (some ⟨g, 0, none⟩) i cap))] [0, 7, 23, 24] [(22, .slice (some ⟨g, 0, none⟩) i cap)] ([SlRun Try.prog 23 (.slice (some ⟨g, 0, none⟩) n cap) none (some (.int .i64 ((i : Nat)))) none (.slice (some ⟨g, 0, none⟩) i cap)]) (al1 (slE_hi (P := Try.prog) (T := 23) (e := 43) (k := 4) (by_ := 24) (by kernel_rfl) (h := i) (by omega))) ?_
    refine od_ ?_
    refine a1 5 rfl ?_
    refine qo 1 [(5, .sl (.slice (some ⟨g, 0, none⟩) (n - i2) (cap - i2)))] [0, 7, 22] [(25, .slice (some ⟨g, 0, none⟩) (n - i2) (cap - i2))] ([SlRun Try.prog 23 (.slice (some ⟨g, 0, none⟩) n cap) (some (.int .i64 ((i2 : Nat)))) none none (.slice (some ⟨g, 0, none⟩) (n - i2) (cap - i2))]) (al1 (by have := slE_cut (P := Try.prog) (T := 23) (e := 43) (k := 4) (by_ := 24) (by kernel_rfl) (lo := i2) (p := some ⟨g, 0, none⟩) (n := n) (cap := cap) (by omega); rw [if_pos q5] at this; exact this)) ?_
    refine od_ ?_
    exact any_weak hm [0, 7, 22, 25] (by kernel_rfl) rfl rfl rfl
   ·
    refine qo 1 [(5, .sl (.slice (some ⟨g, 0, none⟩) (n - i2) (cap - i2)))] [0, 7, 20, 21] [(25, .slice (some ⟨g, 0, none⟩) (n - i2) (cap - i2))] ([SlRun Try.prog 23 (.slice (some ⟨g, 0, none⟩) n cap) (some (.int .i64 ((i2 : Nat)))) none none (.slice (some ⟨g, 0, none⟩) (n - i2) (cap - i2))]) (al1 (by have := slE_cut (P := Try.prog) (T := 23) (e := 43) (k := 4) (by_ := 24) (by kernel_rfl) (lo := i2) (p := some ⟨g, 0, none⟩) (n := n) (cap := cap) (by omega); rw [if_pos q5] at this; exact this)) ?_
    refine od_ ?_
    refine a1 2 rfl ?_
    refine qo 1 [(2, .sl (.slice (some ⟨g, 0, none⟩) i cap))] [0, 7, 25] [(22, .slice (some ⟨g, 0, none⟩) i cap)] ([SlRun Try.prog 23 (.slice (some ⟨g, 0, none⟩) n cap) none (some (.int .i64 ((i : Nat)))) none (.slice (some ⟨g, 0, none⟩) i cap)]) (al1 (slE_hi (P := Try.prog) (T := 23) (e := 43) (k := 4) (by_ := 24) (by kernel_rfl) (h := i) (by omega))) ?_
    refine od_ ?_
    exact any_weak hm [0, 7, 22, 25] (by kernel_rfl) rfl rfl rfl
  refine a1 6 rfl ?_
  refine ops_appendR 0 rfl (by kernel_rfl) (by kernel_rfl) (g := g) (n := i) (cap := cap) (m := n - i2) (c := cs) (yv := .slice (some ⟨g, 0, none⟩) (n - i2) (cap - i2)) ((cs.toList.drop (0 + i2 * 4)).take ((n - i2) * 4)) (by kernel_rfl) (by kernel_rfl) (T := 43) (ks := 4) (by_ := 24) (by kernel_rfl) (T' := 43) (by kernel_rfl) (by omega) (fun w hw => (src_strike (α := Vcp) Try.underlying23 (by omega))) (strike_room hOw (by omega) (by omega)) ?_
  refine od_ ?_
  refine tk (m := 0) [7] [] [7] [(0, .slice (some ⟨g, 0, none⟩) (i + (n - i2)) cap)] ([]) #[true, true, true, true, true, true, true, true] al0 ?_
  refine any_nil (by kernel_rfl) ?_
  refine ds_ (sq_ (ao_ (qo 5 [(4, .sl (.slice (some ⟨g, 0 + (i + (n - i2)) * 4, none⟩) (n - (i + (n - i2))) (cap - (i + (n - i2)))))] [0] [(31, .slice (some ⟨g, 0 + (i + (n - i2)) * 4, none⟩) (n - (i + (n - i2))) (cap - (i + (n - i2))))] ([SlRun Try.prog 23 (.slice (some ⟨g, 0, none⟩) (i + (n - i2)) cap) (some (.int .i64 ((i + (n - i2) : Nat)))) (some (.int .i64 ((n : Nat)))) none (.slice (some ⟨g, 0 + (i + (n - i2)) * 4, none⟩) (n - (i + (n - i2))) (cap - (i + (n - i2))))]) (al1 (slE_mid (P := Try.prog) (T := 23) (e := 43) (k := 4) (by_ := 24) (by kernel_rfl) (lo := i + (n - i2)) (hi := n) (by omega) (by omega) (by omega))) (ops_clear 0 rfl (by kernel_rfl) (by kernel_rfl) (g := g) (of := 0 + (i + (n - i2)) * 4) (n := n - (i + (n - i2))) (dc := cap - (i + (n - i2))) (c := (sets cs (0 + i * 4) ((cs.toList.drop (0 + i2 * 4)).take ((n - i2) * 4)))) (by kernel_rfl) (T := 43) (ks := 4) (by_ := 24) (by kernel_rfl) (by kernel_rfl) rfl (strike_clear hOw (by omega)) (fun c2 hc2 hpre2 => on_ (ds_ (sq_ (qa0 [] [] [(6, .slice (some ⟨g, 0, none⟩) (i + (n - i2)) cap)] (ds_ (rt ([]) (.slice (some ⟨g, 0, none⟩) (i + (n - i2)) cap) ?_))))))))))
  exact fun w' hw => ⟨_, _, [_], rfl, .inr ⟨_, _, rfl, rfl, by rw [List.length_append, List.length_take, List.length_drop]; omega, hOw.strike hn (by omega) (by omega) (hc2.trans (sets_size ..)) hpre2⟩, hw⟩
 ·
  refine at_any (by kernel_rfl) ?_
  refine tk (m := 4) [0, 1, 3, 4] [] [0, 7] [(20, .slice (some ⟨g, 0, none⟩) n cap), (21, .int .i64 ((i : Nat))), (23, .slice (some ⟨g, 0, none⟩) n cap), (24, .int .i64 ((i2 : Nat)))] ([]) #[true, true, false, true, true, false, false, false] al0 ?_
  refine any_cut 2 #[true, true, true, true, true, true, false, false] ([(0, .slice (some ⟨g, 0, none⟩) n cap), (7, .int .i64 ((n : Nat))), (22, .slice (some ⟨g, 0, none⟩) i cap), (25, .slice (some ⟨g, 0 + i2 * 4, none⟩) (n - i2) (cap - i2))]) (bx g cs 43 :: X) ?_ (fun hm => ?_)
  rotate_left
  ·
   refine any_fork [2, 5] (by kernel_rfl) (by simp) (each_cons _ rfl ?_ (each_cons _ rfl ?_ (each_nil)))
   ·
    refine qo 1 [(2, .sl (.slice (some ⟨g, 0, none⟩) i cap))] [0, 7, 23, 24] [(22, .slice (some ⟨g, 0, none⟩) i cap)] ([SlRun Try.prog 23 (.slice (some ⟨g, 0, none⟩) n cap) none (some (.int .i64 ((i : Nat)))) none (.slice (some ⟨g, 0, none⟩) i cap)]) (al1 (slE_hi (P := Try.prog) (T := 23) (e := 43) (k := 4) (by_ := 24) (by kernel_rfl) (h := i) (by omega))) ?_
    refine od_ ?_
    refine a1 5 rfl ?_
    refine qo 1 [(5, .sl (.slice (some ⟨g, 0 + i2 * 4, none⟩) (n - i2) (cap - i2)))] [0, 7, 22] [(25, .slice (some ⟨g, 0 + i2 * 4, none⟩) (n - i2) (cap - i2))] ([SlRun Try.prog 23 (.slice (some ⟨g, 0, none⟩) n cap) (some (.int .i64 ((i2 : Nat)))) none none (.slice (some ⟨g, 0 + i2 * 4, none⟩) (n - i2) (cap - i2))]) (al1 (slE_lo (P := Try.prog) (T := 23) (e := 43) (k := 4) (by_ := 24) (by kernel_rfl) (lo := i2) (by omega) (by omega))) ?_
    refine od_ ?_
    exact any_weak hm [0, 7, 22, 25] (by kernel_rfl) rfl rfl rfl
   ·
    refine qo 1 [(5, .sl (.slice (some ⟨g, 0 + i2 * 4, none⟩) (n - i2) (cap - i2)))] [0, 7, 20, 21] [(25, .slice (some ⟨g, 0 + i2 * 4, none⟩) (n - i2) (cap - i2))] ([SlRun Try.prog 23 (.slice (some ⟨g, 0, none⟩) n cap) (some (.int .i64 ((i2 : Nat)))) none none (.slice (some ⟨g, 0 + i2 * 4, none⟩) (n - i2) (cap - i2))]) (al1 (slE_lo (P := Try.prog) (T := 23) (e := 43) (k := 4) (by_ := 24) (by kernel_rfl) (lo := i2) (by omega) (by omega))) ?_
    refine od_ ?_
    refine a1 2 rfl ?_
    refine qo 1 [(2, .sl (.slice (some ⟨g, 0, none⟩) i cap))] [0, 7, 25] [(22, .slice (some ⟨g, 0, none⟩) i cap)] ([SlRun Try.prog 23 (.slice (some ⟨g, 0, none⟩) n cap) none (some (.int .i64 ((i : Nat)))) none (.slice (some ⟨g, 0, none⟩) i cap)]) (al1 (slE_hi (P := Try.prog) (T := 23) (e := 43) (k := 4) (by_ := 24) (by kernel_rfl) (h := i) (by omega))) ?_
    refine od_ ?_
    exact any_weak hm [0, 7, 22, 25] (by kernel_rfl) rfl rfl rfl
  refine a1 6 rfl ?_
  refine ops_appendR 0 rfl (by kernel_rfl) (by kernel_rfl) (g := g) (n := i) (cap := cap) (m := n - i2) (c := cs) (yv := .slice (some ⟨g, 0 + i2 * 4, none⟩) (n - i2) (cap - i2)) ((cs.toList.drop (0 + i2 * 4)).take ((n - i2) * 4)) (by kernel_rfl) (by kernel_rfl) (T := 43) (ks := 4) (by_ := 24) (by kernel_rfl) (T' := 43) (by kernel_rfl) (by omega) (fun w hw => (src_own Try.underlying23 (hw.row 0 rfl) hOw (by omega))) (strike_room hOw (by omega) (by omega)) ?_
  refine od_ ?_
  refine tk (m := 0) [7] [] [7] [(0, .slice (some ⟨g, 0, none⟩) (i + (n - i2)) cap)] ([]) #[true, true, true, true, true, true, true, true] al0 ?_
  refine any_nil (by kernel_rfl) ?_
  refine ds_ (sq_ (ao_ (qo 5 [(4, .sl (.slice (some ⟨g, 0 + (i + (n - i2)) * 4, none⟩) (n - (i + (n - i2))) (cap - (i + (n - i2)))))] [0] [(31, .slice (some ⟨g, 0 + (i + (n - i2)) * 4, none⟩) (n - (i + (n - i2))) (cap - (i + (n - i2))))] ([SlRun Try.prog 23 (.slice (some ⟨g, 0, none⟩) (i + (n - i2)) cap) (some (.int .i64 ((i + (n - i2) : Nat)))) (some (.int .i64 ((n : Nat)))) none (.slice (some ⟨g, 0 + (i + (n - i2)) * 4, none⟩) (n - (i + (n - i2))) (cap - (i + (n - i2))))]) (al1 (slE_mid (P := Try.prog) (T := 23) (e := 43) (k := 4) (by_ := 24) (by kernel_rfl) (lo := i + (n - i2)) (hi := n) (by omega) (by omega) (by omega))) (ops_clear 0 rfl (by kernel_rfl) (by kernel_rfl) (g := g) (of := 0 + (i + (n - i2)) * 4) (n := n - (i + (n - i2))) (dc := cap - (i + (n - i2))) (c := (sets cs (0 + i * 4) ((cs.toList.drop (0 + i2 * 4)).take ((n - i2) * 4)))) (by kernel_rfl) (T := 43) (ks := 4) (by_ := 24) (by kernel_rfl) (by kernel_rfl) rfl (strike_clear hOw (by omega)) (fun c2 hc2 hpre2 => on_ (ds_ (sq_ (qa0 [] [] [(6, .slice (some ⟨g, 0, none⟩) (i + (n - i2)) cap)] (ds_ (rt ([]) (.slice (some ⟨g, 0, none⟩) (i + (n - i2)) cap) ?_))))))))))
  exact fun w' hw => ⟨_, _, [_], rfl, .inr ⟨_, _, rfl, rfl, by rw [List.length_append, List.length_take, List.length_drop]; omega, hOw.strike hn (by omega) (by omega) (hc2.trans (sets_size ..)) hpre2⟩, hw⟩
end Go.Proofs.Ytnoefldpkfpglaa

/-! Domains: Destroy, Drop. -/
namespace Go.Proofs.Ytnoefldpkfpglaa
open Go Go.RowKit

set_option maxRecDepth 100000 in
theorem destroy_d (p : Option Addr) (n cap : Nat) (ds : List Dom) (q : Option Addr) (m capv : Nat) (vs : List Vcp) (k : Int) (w : World)
 (hds : Sv w p ds) (hn : n = ds.length) (hb : n ≤ 1000)
 (hvs : Sv w q vs) (hm : m = vs.length) (hmb : m ≤ 1000)
 : Calls Try.prog 31 #[.agg #[.slice p n cap, .slice q m capv], .int .i64 k] w fun e w' => ∃ q m capq Y q2 m2 capq2 X, e = .returned (.tuple #[.agg #[.slice q m capq, .slice q2 m2 capq2], .int .i64 (destroyV ds vs k).2.2]) ∧ SlO 32 Y q m capq (destroyV ds vs k).1 ∧ SlO 43 X q2 m2 capq2 (destroyV ds vs k).2.1 ∧ Below w.heap.size w w' ∧ Hs w (Y ++ X) w' := by
 refine enter (Hs.start w) Try.func31 rfl Try.ntmps31 rfl (sq_ (ma0 [] [] (fun γ1 => [(2, .pointer (some ⟨γ1 0, 0, none⟩)), (3, .pointer (some ⟨γ1 1, 0, none⟩)), (4, .pointer (some ⟨γ1 2, 0, none⟩))]) (fun γ1 L => bx (γ1 2) (#[.slice none 0 0, .slice none 0 0]) 25 :: bx (γ1 1) (#[.int .i64 k]) 3 :: bx (γ1 0) (#[.slice p n cap, .slice q m capv]) 25 :: L) (fun γ1 => ds_ (sq_ (ao_ (qo0 2 [(0, .go (owns 2 0 2))] [4] [(6, .agg #[.slice p n cap, .slice q m capv]), (7, .func (.func 64) #[] #[.pointer (some ⟨γ1 1, 0, none⟩)])] (ops_inline (g := 52) (args := #[.agg #[.slice p n cap, .slice q m capv], .func (.func 64) #[] #[.pointer (some ⟨γ1 1, 0, none⟩)]]) (by kernel_rfl) (by kernel_rfl) (by kernel_rfl) (fun args w => Try.call52 args w) Try.func52 rfl Try.ntmps52 rfl (sq_ (ma0 [] [1] (fun γ3 => [(2, .pointer (some ⟨γ3 0, 0, none⟩)), (4, .pointer (some ⟨γ3 1, 0, none⟩))]) (fun γ3 L => bx (γ3 1) (#[.slice none 0 0, .slice none 0 0]) 25 :: bx (γ3 0) (#[.slice p n cap, .slice q m capv]) 25 :: L) (fun γ3 => ds_ (sq_ (sq_ (ao_ (qo0 1 [(0, .go (owns 1 0 2))] [1, 2, 4] [(9, .agg #[.slice p n cap, .slice q m capv])] ?_))))))))))))))
 rcases q5 : guestsB ds vs with _ | _
 ·
  refine cD (.int .i64 190) Try.call10 (fun w hw => by have := gcheck_d p n cap ds q m capv vs w (hds.kept hw.below) hn (by omega) (hvs.kept hw.below) hm (by omega); rw [q5] at this; exact this) (qo0 1 [] [1, 2, 4] [(6, .int .i64 190)] (on_ (ds_ (sq_ (qa0 [] [1, 2, 4, 6] [(12, .bool true)] (ds_ (t_ (sq_ (qa0 [(2, .go (owns 0 0 2))] [4] [(5, .int .i64 190)] (ds_ (bk (owns 0 0 2) (.tuple #[.agg #[.slice none 0 0, .slice none 0 0], .int .i64 190]) (qo0 4 [(5, .go (owns 2 0 2))] [4] [(5, .int .i64 190)] (on_ (ds_ (rt (owns 2 0 2) (.tuple #[.agg #[.slice none 0 0, .slice none 0 0], .int .i64 190]) ?_)))))))))))))))
  exact fun w' hw => by rw [destroyV_bad q5]; exact ⟨none, 0, 0, [], none, 0, 0, [], rfl, SlO.nil, SlO.nil, hw.below, hw.sub (List.nil_sublist _)⟩
 ·
  refine cD (.int .i64 0) Try.call10 (fun w hw => by have := gcheck_d p n cap ds q m capv vs w (hds.kept hw.below) hn (by omega) (hvs.kept hw.below) hm (by omega); rw [q5] at this; exact this) (qo0 1 [] [1, 2, 4] [(6, .int .i64 0)] (on_ (ds_ (sq_ (qa0 [] [1, 2, 4, 6] [(12, .bool false)] (ds_ (f_ (at_skip (ds_ (sq_ ?_))))))))))
  refine at_any (by kernel_rfl) ?_
  refine tk (m := 9) [0, 4] [] [1, 2, 4] [(15, .pointer (some ⟨γ3 0, 0, none⟩)), (19, .pointer (some ⟨γ3 0, 1, none⟩))] ([]) #[true, false, false, false, true, false, false, false, false, false, false] al0 ?_
  refine any_cutX (V := (Array Value) × (Array Value) × (Nat) × (Nat) × (Nat → Nat)) (fun ⟨c155, c75, g155, g75, γ195⟩ => c155.size = m * 4 ∧ c75.size = n * 4) 0 #[true, true, true, true, true, true, true, true, true, true, true] (fun ⟨c155, c75, g155, g75, γ195⟩ => [(1, .func (.func 64) #[] #[.pointer (some ⟨γ1 1, 0, none⟩)]), (2, .pointer (some ⟨γ3 0, 0, none⟩)), (4, .pointer (some ⟨γ3 1, 0, none⟩)), (7, .pointer (some ⟨γ195 0, 0, none⟩))]) (fun ⟨c155, c75, g155, g75, γ195⟩ => [bx (γ195 0) (#[.slice (some ⟨g75, 0, none⟩) n n, .slice (some ⟨g155, 0, none⟩) m m]) 25, bx g155 c155 43, bx g75 c75 32, bx (γ3 1) (#[.slice none 0 0, .slice none 0 0]) 25, bx (γ3 0) (#[.slice p n cap, .slice q m capv]) 25, bx (γ1 2) (#[.slice none 0 0, .slice none 0 0]) 25, bx (γ1 1) (#[.int .i64 k]) 3, bx (γ1 0) (#[.slice p n cap, .slice q m capv]) 25]) ?_ (fun hmx18 => ?_)
  rotate_left
  ·
   refine any_cutX (V := (Array Value) × (Array Value) × (Nat) × (Nat) × (Nat → Nat)) (fun ⟨c155, c75, g155, g75, γ195⟩ => c155.size = m * 4 ∧ c75.size = n * 4) 1 #[true, true, true, true, true, true, true, true, true, true, false] (fun ⟨c155, c75, g155, g75, γ195⟩ => [(1, .func (.func 64) #[] #[.pointer (some ⟨γ1 1, 0, none⟩)]), (2, .pointer (some ⟨γ3 0, 0, none⟩)), (4, .pointer (some ⟨γ3 1, 0, none⟩)), (7, .pointer (some ⟨γ195 0, 0, none⟩)), (23, .agg #[.slice (some ⟨g75, 0, none⟩) n n, .slice (some ⟨g155, 0, none⟩) m m])]) (fun ⟨c155, c75, g155, g75, γ195⟩ => [bx (γ195 0) (#[.slice none 0 0, .slice none 0 0]) 25, bx g155 c155 43, bx g75 c75 32, bx (γ3 1) (#[.slice none 0 0, .slice none 0 0]) 25, bx (γ3 0) (#[.slice p n cap, .slice q m capv]) 25, bx (γ1 2) (#[.slice none 0 0, .slice none 0 0]) 25, bx (γ1 1) (#[.int .i64 k]) 3, bx (γ1 0) (#[.slice p n cap, .slice q m capv]) 25]) ?_ (fun hmx17 => ?_)
   ·
    rintro ⟨c155, c75, g155, g75, γ195⟩ ⟨hc155, hc75⟩
    refine a1 10 rfl ?_
    refine mo0 1 [(10, .go (owns 0 0 2))] [1, 2, 4, 7] (fun _ => []) (fun _ L => (L.set 0 (bx (γ195 0) (#[.slice (some ⟨g75, 0, none⟩) n n, .slice (some ⟨g155, 0, none⟩) m m]) 25))) (fun _ => ?_)
    refine od_ ?_
    exact wk (hmx18 (c155, c75, g155, g75, γ195) ⟨hc155, hc75⟩) [1, 2, 4, 7] [[_], [_], [_], [_], [_], [_], [_], [_]] [0, 1, 2, 3, 4, 5, 6, 7] rfl rfl
   refine any_cutX (V := (Array Value) × (Array Value) × (Nat) × (Nat)) (fun ⟨c155, c75, g155, g75⟩ => c155.size = m * 4 ∧ c75.size = n * 4) 2 #[true, true, true, true, true, true, true, true, true, false, false] (fun ⟨c155, c75, g155, g75⟩ => [(1, .func (.func 64) #[] #[.pointer (some ⟨γ1 1, 0, none⟩)]), (2, .pointer (some ⟨γ3 0, 0, none⟩)), (4, .pointer (some ⟨γ3 1, 0, none⟩)), (23, .agg #[.slice (some ⟨g75, 0, none⟩) n n, .slice (some ⟨g155, 0, none⟩) m m])]) (fun ⟨c155, c75, g155, g75⟩ => [bx g155 c155 43, bx g75 c75 32, bx (γ3 1) (#[.slice none 0 0, .slice none 0 0]) 25, bx (γ3 0) (#[.slice p n cap, .slice q m capv]) 25, bx (γ1 2) (#[.slice none 0 0, .slice none 0 0]) 25, bx (γ1 1) (#[.int .i64 k]) 3, bx (γ1 0) (#[.slice p n cap, .slice q m capv]) 25]) ?_ (fun hmx16 => ?_)
   ·
    rintro ⟨c155, c75, g155, g75⟩ ⟨hc155, hc75⟩
    refine a1 9 rfl ?_
    refine mo0 1 [] [1, 2, 4, 23] (fun γ195 => [(7, .pointer (some ⟨γ195 0, 0, none⟩))]) (fun γ195 L => bx (γ195 0) (#[.slice none 0 0, .slice none 0 0]) 25 :: L) (fun γ195 => ?_)
    refine od_ ?_
    exact wk (hmx17 (c155, c75, g155, g75, γ195) ⟨hc155, hc75⟩) [1, 2, 4, 7, 23] [[_], [_], [_], [_], [_], [_], [_], [_]] [0, 1, 2, 3, 4, 5, 6, 7] rfl rfl
   refine any_cutX (V := (Array Value) × (Nat) × (Nat → Nat)) (fun ⟨c155, g155, γ195⟩ => c155.size = m * 4) 3 #[true, true, true, false, true, true, true, true, false, true, false] (fun ⟨c155, g155, γ195⟩ => [(1, .func (.func 64) #[] #[.pointer (some ⟨γ1 1, 0, none⟩)]), (2, .pointer (some ⟨γ3 0, 0, none⟩)), (4, .pointer (some ⟨γ3 1, 0, none⟩)), (7, .pointer (some ⟨γ195 0, 0, none⟩)), (17, .int .i64 ((n : Nat))), (22, .slice (some ⟨g155, 0, none⟩) m m)]) (fun ⟨c155, g155, γ195⟩ => [bx (γ195 0) (#[.slice none 0 0, .slice none 0 0]) 25, bx g155 c155 43, bx (γ3 1) (#[.slice none 0 0, .slice none 0 0]) 25, bx (γ3 0) (#[.slice p n cap, .slice q m capv]) 25, bx (γ1 2) (#[.slice none 0 0, .slice none 0 0]) 25, bx (γ1 1) (#[.int .i64 k]) 3, bx (γ1 0) (#[.slice p n cap, .slice q m capv]) 25]) ?_ (fun hmx15 => ?_)
   ·
    rintro ⟨c155, g155, γ195⟩ hc155
    refine a1 3 rfl ?_
    refine ops_make (T := 32) (ks := 4) (by_ := 32) (n := n) rfl (by kernel_rfl) (by kernel_rfl) (by kernel_rfl) (by kernel_rfl) (by kernel_rfl) (by omega) (by have hmx : maxLen = 9223372036854775807 := rfl; omega) (fun g75 c75 hc75 => ?_)
    refine od_ ?_
    refine tk (m := 1) [8] [] [1, 2, 4, 7] [(23, .agg #[.slice (some ⟨g75, 0, none⟩) n n, .slice (some ⟨g155, 0, none⟩) m m])] ([]) #[true, true, true, true, true, true, true, true, true, true, false] al0 ?_
    exact wk (hmx17 (c155, c75, g155, g75, γ195) ⟨hc155, hc75⟩) [1, 2, 4, 7, 23] [[_], [_], [_], [_], [_], [_], [_], [_]] [1, 2, 0, 3, 4, 5, 6, 7] rfl rfl
   refine any_cutX (V := (Array Value) × (Nat) × (Nat → Nat)) (fun ⟨c75, g75, γ195⟩ => c75.size = n * 4) 3 #[true, true, true, true, true, true, true, false, false, true, false] (fun ⟨c75, g75, γ195⟩ => [(1, .func (.func 64) #[] #[.pointer (some ⟨γ1 1, 0, none⟩)]), (2, .pointer (some ⟨γ3 0, 0, none⟩)), (4, .pointer (some ⟨γ3 1, 0, none⟩)), (7, .pointer (some ⟨γ195 0, 0, none⟩)), (18, .slice (some ⟨g75, 0, none⟩) n n), (21, .int .i64 ((m : Nat)))]) (fun ⟨c75, g75, γ195⟩ => [bx (γ195 0) (#[.slice none 0 0, .slice none 0 0]) 25, bx g75 c75 32, bx (γ3 1) (#[.slice none 0 0, .slice none 0 0]) 25, bx (γ3 0) (#[.slice p n cap, .slice q m capv]) 25, bx (γ1 2) (#[.slice none 0 0, .slice none 0 0]) 25, bx (γ1 1) (#[.int .i64 k]) 3, bx (γ1 0) (#[.slice p n cap, .slice q m capv]) 25]) ?_ (fun hmx14 => ?_)
   ·
    rintro ⟨c75, g75, γ195⟩ hc75
    refine a1 7 rfl ?_
    refine ops_make (T := 43) (ks := 4) (by_ := 24) (n := m) rfl (by kernel_rfl) (by kernel_rfl) (by kernel_rfl) (by kernel_rfl) (by kernel_rfl) (by omega) (by have hmx : maxLen = 9223372036854775807 := rfl; omega) (fun g155 c155 hc155 => ?_)
    refine od_ ?_
    refine tk (m := 1) [8] [] [1, 2, 4, 7] [(23, .agg #[.slice (some ⟨g75, 0, none⟩) n n, .slice (some ⟨g155, 0, none⟩) m m])] ([]) #[true, true, true, true, true, true, true, true, true, true, false] al0 ?_
    exact wk (hmx17 (c155, c75, g155, g75, γ195) ⟨hc155, hc75⟩) [1, 2, 4, 7, 23] [[_], [_], [_], [_], [_], [_], [_], [_]] [1, 0, 2, 3, 4, 5, 6, 7] rfl rfl
   refine any_cutX (V := (Array Value) × (Nat)) (fun ⟨c155, g155⟩ => c155.size = m * 4) 4 #[true, true, true, false, true, true, true, true, false, false, false] (fun ⟨c155, g155⟩ => [(1, .func (.func 64) #[] #[.pointer (some ⟨γ1 1, 0, none⟩)]), (2, .pointer (some ⟨γ3 0, 0, none⟩)), (4, .pointer (some ⟨γ3 1, 0, none⟩)), (17, .int .i64 ((n : Nat))), (22, .slice (some ⟨g155, 0, none⟩) m m)]) (fun ⟨c155, g155⟩ => [bx g155 c155 43, bx (γ3 1) (#[.slice none 0 0, .slice none 0 0]) 25, bx (γ3 0) (#[.slice p n cap, .slice q m capv]) 25, bx (γ1 2) (#[.slice none 0 0, .slice none 0 0]) 25, bx (γ1 1) (#[.int .i64 k]) 3, bx (γ1 0) (#[.slice p n cap, .slice q m capv]) 25]) ?_ (fun hmx13 => ?_)
   ·
    rintro ⟨c155, g155⟩ hc155
    refine any_fork [3, 9] (by kernel_rfl) (by simp) (each_cons _ rfl ?_ (each_cons _ rfl ?_ (each_nil)))
    ·
     refine ops_make (T := 32) (ks := 4) (by_ := 32) (n := n) rfl (by kernel_rfl) (by kernel_rfl) (by kernel_rfl) (by kernel_rfl) (by kernel_rfl) (by omega) (by have hmx : maxLen = 9223372036854775807 := rfl; omega) (fun g75 c75 hc75 => ?_)
     refine od_ ?_
     refine tk (m := 2) [8] [] [1, 2, 4] [(23, .agg #[.slice (some ⟨g75, 0, none⟩) n n, .slice (some ⟨g155, 0, none⟩) m m])] ([]) #[true, true, true, true, true, true, true, true, true, false, false] al0 ?_
     exact wk (hmx16 (c155, c75, g155, g75) ⟨hc155, hc75⟩) [1, 2, 4, 23] [[_], [_], [_], [_], [_], [_], [_]] [1, 0, 2, 3, 4, 5, 6] rfl rfl
    ·
     refine mo0 1 [] [1, 2, 4, 17, 22] (fun γ195 => [(7, .pointer (some ⟨γ195 0, 0, none⟩))]) (fun γ195 L => bx (γ195 0) (#[.slice none 0 0, .slice none 0 0]) 25 :: L) (fun γ195 => ?_)
     refine od_ ?_
     exact wk (hmx15 (c155, g155, γ195) hc155) [1, 2, 4, 7, 17, 22] [[_], [_], [_], [_], [_], [_], [_]] [0, 1, 2, 3, 4, 5, 6] rfl rfl
   refine any_cutX (V := (Array Value) × (Nat)) (fun ⟨c75, g75⟩ => c75.size = n * 4) 4 #[true, true, true, true, true, true, true, false, false, false, false] (fun ⟨c75, g75⟩ => [(1, .func (.func 64) #[] #[.pointer (some ⟨γ1 1, 0, none⟩)]), (2, .pointer (some ⟨γ3 0, 0, none⟩)), (4, .pointer (some ⟨γ3 1, 0, none⟩)), (18, .slice (some ⟨g75, 0, none⟩) n n), (21, .int .i64 ((m : Nat)))]) (fun ⟨c75, g75⟩ => [bx g75 c75 32, bx (γ3 1) (#[.slice none 0 0, .slice none 0 0]) 25, bx (γ3 0) (#[.slice p n cap, .slice q m capv]) 25, bx (γ1 2) (#[.slice none 0 0, .slice none 0 0]) 25, bx (γ1 1) (#[.int .i64 k]) 3, bx (γ1 0) (#[.slice p n cap, .slice q m capv]) 25]) ?_ (fun hmx12 => ?_)
   ·
    rintro ⟨c75, g75⟩ hc75
    refine any_fork [7, 9] (by kernel_rfl) (by simp) (each_cons _ rfl ?_ (each_cons _ rfl ?_ (each_nil)))
    ·
     refine ops_make (T := 43) (ks := 4) (by_ := 24) (n := m) rfl (by kernel_rfl) (by kernel_rfl) (by kernel_rfl) (by kernel_rfl) (by kernel_rfl) (by omega) (by have hmx : maxLen = 9223372036854775807 := rfl; omega) (fun g155 c155 hc155 => ?_)
     refine od_ ?_
     refine tk (m := 2) [8] [] [1, 2, 4] [(23, .agg #[.slice (some ⟨g75, 0, none⟩) n n, .slice (some ⟨g155, 0, none⟩) m m])] ([]) #[true, true, true, true, true, true, true, true, true, false, false] al0 ?_
     exact wk (hmx16 (c155, c75, g155, g75) ⟨hc155, hc75⟩) [1, 2, 4, 23] [[_], [_], [_], [_], [_], [_], [_]] [0, 1, 2, 3, 4, 5, 6] rfl rfl
    ·
     refine mo0 1 [] [1, 2, 4, 18, 21] (fun γ195 => [(7, .pointer (some ⟨γ195 0, 0, none⟩))]) (fun γ195 L => bx (γ195 0) (#[.slice none 0 0, .slice none 0 0]) 25 :: L) (fun γ195 => ?_)
     refine od_ ?_
     exact wk (hmx14 (c75, g75, γ195) hc75) [1, 2, 4, 7, 18, 21] [[_], [_], [_], [_], [_], [_], [_]] [0, 1, 2, 3, 4, 5, 6] rfl rfl
   refine any_cutX (V := (Nat → Nat)) (fun γ195 => True) 4 #[true, true, true, false, true, true, true, false, false, true, false] (fun γ195 => [(1, .func (.func 64) #[] #[.pointer (some ⟨γ1 1, 0, none⟩)]), (2, .pointer (some ⟨γ3 0, 0, none⟩)), (4, .pointer (some ⟨γ3 1, 0, none⟩)), (7, .pointer (some ⟨γ195 0, 0, none⟩)), (17, .int .i64 ((n : Nat))), (21, .int .i64 ((m : Nat)))]) (fun γ195 => [bx (γ195 0) (#[.slice none 0 0, .slice none 0 0]) 25, bx (γ3 1) (#[.slice none 0 0, .slice none 0 0]) 25, bx (γ3 0) (#[.slice p n cap, .slice q m capv]) 25, bx (γ1 2) (#[.slice none 0 0, .slice none 0 0]) 25, bx (γ1 1) (#[.int .i64 k]) 3, bx (γ1 0) (#[.slice p n cap, .slice q m capv]) 25]) ?_ (fun hmx11 => ?_)
   ·
    rintro γ195 _
    refine any_fork [3, 7] (by kernel_rfl) (by simp) (each_cons _ rfl ?_ (each_cons _ rfl ?_ (each_nil)))
    ·
     refine ops_make (T := 32) (ks := 4) (by_ := 32) (n := n) rfl (by kernel_rfl) (by kernel_rfl) (by kernel_rfl) (by kernel_rfl) (by kernel_rfl) (by omega) (by have hmx : maxLen = 9223372036854775807 := rfl; omega) (fun g75 c75 hc75 => ?_)
     refine od_ ?_
     exact wk (hmx14 (c75, g75, γ195) hc75) [1, 2, 4, 7, 18, 21] [[_], [_], [_], [_], [_], [_], [_]] [1, 0, 2, 3, 4, 5, 6] rfl rfl
    ·
     refine ops_make (T := 43) (ks := 4) (by_ := 24) (n := m) rfl (by kernel_rfl) (by kernel_rfl) (by kernel_rfl) (by kernel_rfl) (by kernel_rfl) (by omega) (by have hmx : maxLen = 9223372036854775807 := rfl; omega) (fun g155 c155 hc155 => ?_)
     refine od_ ?_
     exact wk (hmx15 (c155, g155, γ195) hc155) [1, 2, 4, 7, 17, 22] [[_], [_], [_], [_], [_], [_], [_]] [1, 0, 2, 3, 4, 5, 6] rfl rfl
   refine any_cutX (V := (Array Value) × (Nat) × (Nat → Nat)) (fun ⟨c155, g155, γ195⟩ => c155.size = m * 4) 5 #[true, false, false, false, true, true, true, true, false, true, false] (fun ⟨c155, g155, γ195⟩ => [(1, .func (.func 64) #[] #[.pointer (some ⟨γ1 1, 0, none⟩)]), (2, .pointer (some ⟨γ3 0, 0, none⟩)), (4, .pointer (some ⟨γ3 1, 0, none⟩)), (7, .pointer (some ⟨γ195 0, 0, none⟩)), (15, .pointer (some ⟨γ3 0, 0, none⟩)), (22, .slice (some ⟨g155, 0, none⟩) m m)]) (fun ⟨c155, g155, γ195⟩ => [bx (γ195 0) (#[.slice none 0 0, .slice none 0 0]) 25, bx g155 c155 43, bx (γ3 1) (#[.slice none 0 0, .slice none 0 0]) 25, bx (γ3 0) (#[.slice p n cap, .slice q m capv]) 25, bx (γ1 2) (#[.slice none 0 0, .slice none 0 0]) 25, bx (γ1 1) (#[.int .i64 k]) 3, bx (γ1 0) (#[.slice p n cap, .slice q m capv]) 25]) ?_ (fun hmx10 => ?_)
   ·
    rintro ⟨c155, g155, γ195⟩ hc155
    refine a1 1 rfl ?_
    refine qo0 1 [(1, .go (owns 3 0 1))] [1, 2, 4, 7, 22] [(16, .slice p n cap)] ?_
    refine od_ ?_
    refine tk (m := 3) [2] [] [1, 2, 4, 7, 22] [(17, .int .i64 ((n : Nat)))] ([]) #[true, true, true, false, true, true, true, true, false, true, false] al0 ?_
    exact wk (hmx15 (c155, g155, γ195) hc155) [1, 2, 4, 7, 17, 22] [[_], [_], [_], [_], [_], [_], [_]] [0, 1, 2, 3, 4, 5, 6] rfl rfl
   refine any_cutX (V := (Array Value) × (Nat) × (Nat → Nat)) (fun ⟨c75, g75, γ195⟩ => c75.size = n * 4) 5 #[true, true, true, true, true, false, false, false, false, true, false] (fun ⟨c75, g75, γ195⟩ => [(1, .func (.func 64) #[] #[.pointer (some ⟨γ1 1, 0, none⟩)]), (2, .pointer (some ⟨γ3 0, 0, none⟩)), (4, .pointer (some ⟨γ3 1, 0, none⟩)), (7, .pointer (some ⟨γ195 0, 0, none⟩)), (18, .slice (some ⟨g75, 0, none⟩) n n), (19, .pointer (some ⟨γ3 0, 1, none⟩))]) (fun ⟨c75, g75, γ195⟩ => [bx (γ195 0) (#[.slice none 0 0, .slice none 0 0]) 25, bx g75 c75 32, bx (γ3 1) (#[.slice none 0 0, .slice none 0 0]) 25, bx (γ3 0) (#[.slice p n cap, .slice q m capv]) 25, bx (γ1 2) (#[.slice none 0 0, .slice none 0 0]) 25, bx (γ1 1) (#[.int .i64 k]) 3, bx (γ1 0) (#[.slice p n cap, .slice q m capv]) 25]) ?_ (fun hmx9 => ?_)
   ·
    rintro ⟨c75, g75, γ195⟩ hc75
    refine a1 5 rfl ?_
    refine qo0 1 [(5, .go (owns 3 1 1))] [1, 2, 4, 7, 18] [(20, .slice q m capv)] ?_
    refine od_ ?_
    refine tk (m := 3) [6] [] [1, 2, 4, 7, 18] [(21, .int .i64 ((m : Nat)))] ([]) #[true, true, true, true, true, true, true, false, false, true, false] al0 ?_
    exact wk (hmx14 (c75, g75, γ195) hc75) [1, 2, 4, 7, 18, 21] [[_], [_], [_], [_], [_], [_], [_]] [0, 1, 2, 3, 4, 5, 6] rfl rfl
   refine any_cutX (V := Unit) (fun _ => True) 5 #[true, true, true, false, true, true, true, false, false, false, false] (fun _ => [(1, .func (.func 64) #[] #[.pointer (some ⟨γ1 1, 0, none⟩)]), (2, .pointer (some ⟨γ3 0, 0, none⟩)), (4, .pointer (some ⟨γ3 1, 0, none⟩)), (17, .int .i64 ((n : Nat))), (21, .int .i64 ((m : Nat)))]) (fun _ => [bx (γ3 1) (#[.slice none 0 0, .slice none 0 0]) 25, bx (γ3 0) (#[.slice p n cap, .slice q m capv]) 25, bx (γ1 2) (#[.slice none 0 0, .slice none 0 0]) 25, bx (γ1 1) (#[.int .i64 k]) 3, bx (γ1 0) (#[.slice p n cap, .slice q m capv]) 25]) ?_ (fun hmx8 => ?_)
   ·
    rintro _ _
    refine any_fork [3, 7, 9] (by kernel_rfl) (by simp) (each_cons _ rfl ?_ (each_cons _ rfl ?_ (each_cons _ rfl ?_ (each_nil))))
    ·
     refine ops_make (T := 32) (ks := 4) (by_ := 32) (n := n) rfl (by kernel_rfl) (by kernel_rfl) (by kernel_rfl) (by kernel_rfl) (by kernel_rfl) (by omega) (by have hmx : maxLen = 9223372036854775807 := rfl; omega) (fun g75 c75 hc75 => ?_)
     refine od_ ?_
     exact wk (hmx12 (c75, g75) hc75) [1, 2, 4, 18, 21] [[_], [_], [_], [_], [_], [_]] [0, 1, 2, 3, 4, 5] rfl rfl
    ·
     refine ops_make (T := 43) (ks := 4) (by_ := 24) (n := m) rfl (by kernel_rfl) (by kernel_rfl) (by kernel_rfl) (by kernel_rfl) (by kernel_rfl) (by omega) (by have hmx : maxLen = 9223372036854775807 := rfl; omega) (fun g155 c155 hc155 => ?_)
     refine od_ ?_
     exact wk (hmx13 (c155, g155) hc155) [1, 2, 4, 17, 22] [[_], [_], [_], [_], [_], [_]] [0, 1, 2, 3, 4, 5] rfl rfl
    ·
     refine mo0 1 [] [1, 2, 4, 17, 21] (fun γ195 => [(7, .pointer (some ⟨γ195 0, 0, none⟩))]) (fun γ195 L => bx (γ195 0) (#[.slice none 0 0, .slice none 0 0]) 25 :: L) (fun γ195 => ?_)
     refine od_ ?_
     exact wk (hmx11 γ195 trivial) [1, 2, 4, 7, 17, 21] [[_], [_], [_], [_], [_], [_]] [0, 1, 2, 3, 4, 5] rfl rfl
   refine any_cutX (V := (Array Value) × (Nat)) (fun ⟨c155, g155⟩ => c155.size = m * 4) 6 #[true, false, false, false, true, true, true, true, false, false, false] (fun ⟨c155, g155⟩ => [(1, .func (.func 64) #[] #[.pointer (some ⟨γ1 1, 0, none⟩)]), (2, .pointer (some ⟨γ3 0, 0, none⟩)), (4, .pointer (some ⟨γ3 1, 0, none⟩)), (15, .pointer (some ⟨γ3 0, 0, none⟩)), (22, .slice (some ⟨g155, 0, none⟩) m m)]) (fun ⟨c155, g155⟩ => [bx g155 c155 43, bx (γ3 1) (#[.slice none 0 0, .slice none 0 0]) 25, bx (γ3 0) (#[.slice p n cap, .slice q m capv]) 25, bx (γ1 2) (#[.slice none 0 0, .slice none 0 0]) 25, bx (γ1 1) (#[.int .i64 k]) 3, bx (γ1 0) (#[.slice p n cap, .slice q m capv]) 25]) ?_ (fun hmx7 => ?_)
   ·
    rintro ⟨c155, g155⟩ hc155
    refine any_fork [1, 9] (by kernel_rfl) (by simp) (each_cons _ rfl ?_ (each_cons _ rfl ?_ (each_nil)))
    ·
     refine qo0 1 [(1, .go (owns 2 0 1))] [1, 2, 4, 22] [(16, .slice p n cap)] ?_
     refine od_ ?_
     refine tk (m := 4) [2] [] [1, 2, 4, 22] [(17, .int .i64 ((n : Nat)))] ([]) #[true, true, true, false, true, true, true, true, false, false, false] al0 ?_
     exact wk (hmx13 (c155, g155) hc155) [1, 2, 4, 17, 22] [[_], [_], [_], [_], [_], [_]] [0, 1, 2, 3, 4, 5] rfl rfl
    ·
     refine mo0 1 [] [1, 2, 4, 15, 22] (fun γ195 => [(7, .pointer (some ⟨γ195 0, 0, none⟩))]) (fun γ195 L => bx (γ195 0) (#[.slice none 0 0, .slice none 0 0]) 25 :: L) (fun γ195 => ?_)
     refine od_ ?_
     exact wk (hmx10 (c155, g155, γ195) hc155) [1, 2, 4, 7, 15, 22] [[_], [_], [_], [_], [_], [_], [_]] [0, 1, 2, 3, 4, 5, 6] rfl rfl
   refine any_cutX (V := (Array Value) × (Nat)) (fun ⟨c75, g75⟩ => c75.size = n * 4) 6 #[true, true, true, true, true, false, false, false, false, false, false] (fun ⟨c75, g75⟩ => [(1, .func (.func 64) #[] #[.pointer (some ⟨γ1 1, 0, none⟩)]), (2, .pointer (some ⟨γ3 0, 0, none⟩)), (4, .pointer (some ⟨γ3 1, 0, none⟩)), (18, .slice (some ⟨g75, 0, none⟩) n n), (19, .pointer (some ⟨γ3 0, 1, none⟩))]) (fun ⟨c75, g75⟩ => [bx g75 c75 32, bx (γ3 1) (#[.slice none 0 0, .slice none 0 0]) 25, bx (γ3 0) (#[.slice p n cap, .slice q m capv]) 25, bx (γ1 2) (#[.slice none 0 0, .slice none 0 0]) 25, bx (γ1 1) (#[.int .i64 k]) 3, bx (γ1 0) (#[.slice p n cap, .slice q m capv]) 25]) ?_ (fun hmx6 => ?_)
   ·
    rintro ⟨c75, g75⟩ hc75
    refine any_fork [5, 9] (by kernel_rfl) (by simp) (each_cons _ rfl ?_ (each_cons _ rfl ?_ (each_nil)))
    ·
     refine qo0 1 [(5, .go (owns 2 1 1))] [1, 2, 4, 18] [(20, .slice q m capv)] ?_
     refine od_ ?_
     refine tk (m := 4) [6] [] [1, 2, 4, 18] [(21, .int .i64 ((m : Nat)))] ([]) #[true, true, true, true, true, true, true, false, false, false, false] al0 ?_
     exact wk (hmx12 (c75, g75) hc75) [1, 2, 4, 18, 21] [[_], [_], [_], [_], [_], [_]] [0, 1, 2, 3, 4, 5] rfl rfl
    ·
     refine mo0 1 [] [1, 2, 4, 18, 19] (fun γ195 => [(7, .pointer (some ⟨γ195 0, 0, none⟩))]) (fun γ195 L => bx (γ195 0) (#[.slice none 0 0, .slice none 0 0]) 25 :: L) (fun γ195 => ?_)
     refine od_ ?_
     exact wk (hmx9 (c75, g75, γ195) hc75) [1, 2, 4, 7, 18, 19] [[_], [_], [_], [_], [_], [_], [_]] [0, 1, 2, 3, 4, 5, 6] rfl rfl
   refine any_cutX (V := (Nat → Nat)) (fun γ195 => True) 6 #[true, false, false, false, true, true, true, false, false, true, false] (fun γ195 => [(1, .func (.func 64) #[] #[.pointer (some ⟨γ1 1, 0, none⟩)]), (2, .pointer (some ⟨γ3 0, 0, none⟩)), (4, .pointer (some ⟨γ3 1, 0, none⟩)), (7, .pointer (some ⟨γ195 0, 0, none⟩)), (15, .pointer (some ⟨γ3 0, 0, none⟩)), (21, .int .i64 ((m : Nat)))]) (fun γ195 => [bx (γ195 0) (#[.slice none 0 0, .slice none 0 0]) 25, bx (γ3 1) (#[.slice none 0 0, .slice none 0 0]) 25, bx (γ3 0) (#[.slice p n cap, .slice q m capv]) 25, bx (γ1 2) (#[.slice none 0 0, .slice none 0 0]) 25, bx (γ1 1) (#[.int .i64 k]) 3, bx (γ1 0) (#[.slice p n cap, .slice q m capv]) 25]) ?_ (fun hmx5 => ?_)
   ·
    rintro γ195 _
    refine any_fork [1, 7] (by kernel_rfl) (by simp) (each_cons _ rfl ?_ (each_cons _ rfl ?_ (each_nil)))
    ·
     refine qo0 1 [(1, .go (owns 2 0 1))] [1, 2, 4, 7, 21] [(16, .slice p n cap)] ?_
     refine od_ ?_
     refine tk (m := 4) [2] [] [1, 2, 4, 7, 21] [(17, .int .i64 ((n : Nat)))] ([]) #[true, true, true, false, true, true, true, false, false, true, false] al0 ?_
     exact wk (hmx11 γ195 trivial) [1, 2, 4, 7, 17, 21] [[_], [_], [_], [_], [_], [_]] [0, 1, 2, 3, 4, 5] rfl rfl
    ·
     refine ops_make (T := 43) (ks := 4) (by_ := 24) (n := m) rfl (by kernel_rfl) (by kernel_rfl) (by kernel_rfl) (by kernel_rfl) (by kernel_rfl) (by omega) (by have hmx : maxLen = 9223372036854775807 := rfl; omega) (fun g155 c155 hc155 => ?_)
     refine od_ ?_
     exact wk (hmx10 (c155, g155, γ195) hc155) [1, 2, 4, 7, 15, 22] [[_], [_], [_], [_], [_], [_], [_]] [1, 0, 2, 3, 4, 5, 6] rfl rfl
   refine any_cutX (V := (Nat → Nat)) (fun γ195 => True) 6 #[true, true, true, false, true, false, false, false, false, true, false] (fun γ195 => [(1, .func (.func 64) #[] #[.pointer (some ⟨γ1 1, 0, none⟩)]), (2, .pointer (some ⟨γ3 0, 0, none⟩)), (4, .pointer (some ⟨γ3 1, 0, none⟩)), (7, .pointer (some ⟨γ195 0, 0, none⟩)), (17, .int .i64 ((n : Nat))), (19, .pointer (some ⟨γ3 0, 1, none⟩))]) (fun γ195 => [bx (γ195 0) (#[.slice none 0 0, .slice none 0 0]) 25, bx (γ3 1) (#[.slice none 0 0, .slice none 0 0]) 25, bx (γ3 0) (#[.slice p n cap, .slice q m capv]) 25, bx (γ1 2) (#[.slice none 0 0, .slice none 0 0]) 25, bx (γ1 1) (#[.int .i64 k]) 3, bx (γ1 0) (#[.slice p n cap, .slice q m capv]) 25]) ?_ (fun hmx4 => ?_)
   ·
    rintro γ195 _
    refine any_fork [3, 5] (by kernel_rfl) (by simp) (each_cons _ rfl ?_ (each_cons _ rfl ?_ (each_nil)))
    ·
     refine ops_make (T := 32) (ks := 4) (by_ := 32) (n := n) rfl (by kernel_rfl) (by kernel_rfl) (by kernel_rfl) (by kernel_rfl) (by kernel_rfl) (by omega) (by have hmx : maxLen = 9223372036854775807 := rfl; omega) (fun g75 c75 hc75 => ?_)
     refine od_ ?_
     exact wk (hmx9 (c75, g75, γ195) hc75) [1, 2, 4, 7, 18, 19] [[_], [_], [_], [_], [_], [_], [_]] [1, 0, 2, 3, 4, 5, 6] rfl rfl
    ·
     refine qo0 1 [(5, .go (owns 2 1 1))] [1, 2, 4, 7, 17] [(20, .slice q m capv)] ?_
     refine od_ ?_
     refine tk (m := 4) [6] [] [1, 2, 4, 7, 17] [(21, .int .i64 ((m : Nat)))] ([]) #[true, true, true, false, true, true, true, false, false, true, false] al0 ?_
     exact wk (hmx11 γ195 trivial) [1, 2, 4, 7, 17, 21] [[_], [_], [_], [_], [_], [_]] [0, 1, 2, 3, 4, 5] rfl rfl
   refine any_cutX (V := Unit) (fun _ => True) 7 #[true, false, false, false, true, true, true, false, false, false, false] (fun _ => [(1, .func (.func 64) #[] #[.pointer (some ⟨γ1 1, 0, none⟩)]), (2, .pointer (some ⟨γ3 0, 0, none⟩)), (4, .pointer (some ⟨γ3 1, 0, none⟩)), (15, .pointer (some ⟨γ3 0, 0, none⟩)), (21, .int .i64 ((m : Nat)))]) (fun _ => [bx (γ3 1) (#[.slice none 0 0, .slice none 0 0]) 25, bx (γ3 0) (#[.slice p n cap, .slice q m capv]) 25, bx (γ1 2) (#[.slice none 0 0, .slice none 0 0]) 25, bx (γ1 1) (#[.int .i64 k]) 3, bx (γ1 0) (#[.slice p n cap, .slice q m capv]) 25]) ?_ (fun hmx3 => ?_)
   ·
    rintro _ _
    refine any_fork [1, 7, 9] (by kernel_rfl) (by simp) (each_cons _ rfl ?_ (each_cons _ rfl ?_ (each_cons _ rfl ?_ (each_nil))))
    ·
     refine qo0 1 [(1, .go (owns 1 0 1))] [1, 2, 4, 21] [(16, .slice p n cap)] ?_
     refine od_ ?_
     refine tk (m := 5) [2] [] [1, 2, 4, 21] [(17, .int .i64 ((n : Nat)))] ([]) #[true, true, true, false, true, true, true, false, false, false, false] al0 ?_
     exact wk (hmx8 () trivial) [1, 2, 4, 17, 21] [[_], [_], [_], [_], [_]] [0, 1, 2, 3, 4] rfl rfl
    ·
     refine ops_make (T := 43) (ks := 4) (by_ := 24) (n := m) rfl (by kernel_rfl) (by kernel_rfl) (by kernel_rfl) (by kernel_rfl) (by kernel_rfl) (by omega) (by have hmx : maxLen = 9223372036854775807 := rfl; omega) (fun g155 c155 hc155 => ?_)
     refine od_ ?_
     exact wk (hmx7 (c155, g155) hc155) [1, 2, 4, 15, 22] [[_], [_], [_], [_], [_], [_]] [0, 1, 2, 3, 4, 5] rfl rfl
    ·
     refine mo0 1 [] [1, 2, 4, 15, 21] (fun γ195 => [(7, .pointer (some ⟨γ195 0, 0, none⟩))]) (fun γ195 L => bx (γ195 0) (#[.slice none 0 0, .slice none 0 0]) 25 :: L) (fun γ195 => ?_)
     refine od_ ?_
     exact wk (hmx5 γ195 trivial) [1, 2, 4, 7, 15, 21] [[_], [_], [_], [_], [_], [_]] [0, 1, 2, 3, 4, 5] rfl rfl
   refine any_cutX (V := Unit) (fun _ => True) 7 #[true, true, true, false, true, false, false, false, false, false, false] (fun _ => [(1, .func (.func 64) #[] #[.pointer (some ⟨γ1 1, 0, none⟩)]), (2, .pointer (some ⟨γ3 0, 0, none⟩)), (4, .pointer (some ⟨γ3 1, 0, none⟩)), (17, .int .i64 ((n : Nat))), (19, .pointer (some ⟨γ3 0, 1, none⟩))]) (fun _ => [bx (γ3 1) (#[.slice none 0 0, .slice none 0 0]) 25, bx (γ3 0) (#[.slice p n cap, .slice q m capv]) 25, bx (γ1 2) (#[.slice none 0 0, .slice none 0 0]) 25, bx (γ1 1) (#[.int .i64 k]) 3, bx (γ1 0) (#[.slice p n cap, .slice q m capv]) 25]) ?_ (fun hmx2 => ?_)
   ·
    rintro _ _
    refine any_fork [3, 5, 9] (by kernel_rfl) (by simp) (each_cons _ rfl ?_ (each_cons _ rfl ?_ (each_cons _ rfl ?_ (each_nil))))
    ·
     refine ops_make (T := 32) (ks := 4) (by_ := 32) (n := n) rfl (by kernel_rfl) (by kernel_rfl) (by kernel_rfl) (by kernel_rfl) (by kernel_rfl) (by omega) (by have hmx : maxLen = 9223372036854775807 := rfl; omega) (fun g75 c75 hc75 => ?_)
     refine od_ ?_
     exact wk (hmx6 (c75, g75) hc75) [1, 2, 4, 18, 19] [[_], [_], [_], [_], [_], [_]] [0, 1, 2, 3, 4, 5] rfl rfl
    ·
     refine qo0 1 [(5, .go (owns 1 1 1))] [1, 2, 4, 17] [(20, .slice q m capv)] ?_
     refine od_ ?_
     refine tk (m := 5) [6] [] [1, 2, 4, 17] [(21, .int .i64 ((m : Nat)))] ([]) #[true, true, true, false, true, true, true, false, false, false, false] al0 ?_
     exact wk (hmx8 () trivial) [1, 2, 4, 17, 21] [[_], [_], [_], [_], [_]] [0, 1, 2, 3, 4] rfl rfl
    ·
     refine mo0 1 [] [1, 2, 4, 17, 19] (fun γ195 => [(7, .pointer (some ⟨γ195 0, 0, none⟩))]) (fun γ195 L => bx (γ195 0) (#[.slice none 0 0, .slice none 0 0]) 25 :: L) (fun γ195 => ?_)
     refine od_ ?_
     exact wk (hmx4 γ195 trivial) [1, 2, 4, 7, 17, 19] [[_], [_], [_], [_], [_], [_]] [0, 1, 2, 3, 4, 5] rfl rfl
   refine any_cutX (V := (Nat → Nat)) (fun γ195 => True) 8 #[true, false, false, false, true, false, false, false, false, true, false] (fun γ195 => [(1, .func (.func 64) #[] #[.pointer (some ⟨γ1 1, 0, none⟩)]), (2, .pointer (some ⟨γ3 0, 0, none⟩)), (4, .pointer (some ⟨γ3 1, 0, none⟩)), (7, .pointer (some ⟨γ195 0, 0, none⟩)), (15, .pointer (some ⟨γ3 0, 0, none⟩)), (19, .pointer (some ⟨γ3 0, 1, none⟩))]) (fun γ195 => [bx (γ195 0) (#[.slice none 0 0, .slice none 0 0]) 25, bx (γ3 1) (#[.slice none 0 0, .slice none 0 0]) 25, bx (γ3 0) (#[.slice p n cap, .slice q m capv]) 25, bx (γ1 2) (#[.slice none 0 0, .slice none 0 0]) 25, bx (γ1 1) (#[.int .i64 k]) 3, bx (γ1 0) (#[.slice p n cap, .slice q m capv]) 25]) ?_ (fun hmx1 => ?_)
   ·
    rintro γ195 _
    refine any_fork [1, 5] (by kernel_rfl) (by simp) (each_cons _ rfl ?_ (each_cons _ rfl ?_ (each_nil)))
    ·
     refine qo0 1 [(1, .go (owns 2 0 1))] [1, 2, 4, 7, 19] [(16, .slice p n cap)] ?_
     refine od_ ?_
     refine tk (m := 6) [2] [] [1, 2, 4, 7, 19] [(17, .int .i64 ((n : Nat)))] ([]) #[true, true, true, false, true, false, false, false, false, true, false] al0 ?_
     exact wk (hmx4 γ195 trivial) [1, 2, 4, 7, 17, 19] [[_], [_], [_], [_], [_], [_]] [0, 1, 2, 3, 4, 5] rfl rfl
    ·
     refine qo0 1 [(5, .go (owns 2 1 1))] [1, 2, 4, 7, 15] [(20, .slice q m capv)] ?_
     refine od_ ?_
     refine tk (m := 6) [6] [] [1, 2, 4, 7, 15] [(21, .int .i64 ((m : Nat)))] ([]) #[true, false, false, false, true, true, true, false, false, true, false] al0 ?_
     exact wk (hmx5 γ195 trivial) [1, 2, 4, 7, 15, 21] [[_], [_], [_], [_], [_], [_]] [0, 1, 2, 3, 4, 5] rfl rfl
   refine any_fork [1, 5, 9] (by kernel_rfl) (by simp) (each_cons _ rfl ?_ (each_cons _ rfl ?_ (each_cons _ rfl ?_ (each_nil))))
   ·
    refine qo0 1 [(1, .go (owns 1 0 1))] [1, 2, 4, 19] [(16, .slice p n cap)] ?_
    refine od_ ?_
    refine tk (m := 7) [2] [] [1, 2, 4, 19] [(17, .int .i64 ((n : Nat)))] ([]) #[true, true, true, false, true, false, false, false, false, false, false] al0 ?_
    exact wk (hmx2 () trivial) [1, 2, 4, 17, 19] [[_], [_], [_], [_], [_]] [0, 1, 2, 3, 4] rfl rfl
   ·
    refine qo0 1 [(5, .go (owns 1 1 1))] [1, 2, 4, 15] [(20, .slice q m capv)] ?_
    refine od_ ?_
    refine tk (m := 7) [6] [] [1, 2, 4, 15] [(21, .int .i64 ((m : Nat)))] ([]) #[true, false, false, false, true, true, true, false, false, false, false] al0 ?_
    exact wk (hmx3 () trivial) [1, 2, 4, 15, 21] [[_], [_], [_], [_], [_]] [0, 1, 2, 3, 4] rfl rfl
   ·
    refine mo0 1 [] [1, 2, 4, 15, 19] (fun γ195 => [(7, .pointer (some ⟨γ195 0, 0, none⟩))]) (fun γ195 L => bx (γ195 0) (#[.slice none 0 0, .slice none 0 0]) 25 :: L) (fun γ195 => ?_)
    refine od_ ?_
    exact wk (hmx1 γ195 trivial) [1, 2, 4, 7, 15, 19] [[_], [_], [_], [_], [_], [_]] [0, 1, 2, 3, 4, 5] rfl rfl
  rintro ⟨c155, c75, g155, g75, γ195⟩ ⟨hc155, hc75⟩
  refine any_nil (by kernel_rfl) ?_
  refine ds_ (sq_ (ao_ (qo0 4 [(1, .go (owns 0 0 1)), (3, .go (owns 4 0 1))] [1, 2, 4, 7] [(25, .slice (some ⟨g75, 0, none⟩) n n), (27, .slice p n cap)] (ops_copy 2 rfl (by kernel_rfl) (by kernel_rfl) (g := g75) (of := 0) (dn := n) (dc := n) (m := n) (cnt := n) (c := c75) (yv := (.slice p n cap)) (ds.flatMap Enc.enc) (by kernel_rfl) (by kernel_rfl) (T := 32) (ks := 4) (by_ := 32) (by kernel_rfl) (T' := 32) (by kernel_rfl) len_slice (by omega) (fun w hw => by have := first_sv (P := Try.prog) (w := w) (p := p) (m := n) (cap := cap) (cnt := n) (hds.kept hw.below) (by omega); rw [List.take_of_length_le (by omega)] at this; exact this) (by first | (rw [flat_len, Nat.zero_add, hc75, ← hn]; exact Nat.le_refl _) | (rw [flat_len, Nat.zero_add, hc75, ← hn])) (flat_one ds) ?_))))
  have hOw303 := OwnS.filled (l := ds) (n := n) hc75 hn (by have hmx : maxLen = 9223372036854775807 := rfl; omega)
  have hO303 := SlO.ofOwn (T := 32) (g := g75) hOw303 hn
  refine on_ (ds_ (sq_ (ao_ (qo0 4 [(1, .go (owns 0 1 1)), (3, .go (owns 4 1 1))] [1, 4, 7] [(30, .slice (some ⟨g155, 0, none⟩) m m), (32, .slice q m capv)] (ops_copy 1 rfl (by kernel_rfl) (by kernel_rfl) (g := g155) (of := 0) (dn := m) (dc := m) (m := m) (cnt := m) (c := c155) (yv := (.slice q m capv)) (vs.flatMap Enc.enc) (by kernel_rfl) (by kernel_rfl) (T := 43) (ks := 4) (by_ := 24) (by kernel_rfl) (T' := 43) (by kernel_rfl) len_slice (by omega) (fun w hw => by have := first_sv (P := Try.prog) (w := w) (p := q) (m := m) (cap := capv) (cnt := m) (hvs.kept hw.below) (by omega); rw [List.take_of_length_le (by omega)] at this; exact this) (by first | (rw [flat_len, Nat.zero_add, hc155, ← hm]; exact Nat.le_refl _) | (rw [flat_len, Nat.zero_add, hc155, ← hm])) (flat_one vs) ?_)))))
  have hOw306 := OwnS.filled (l := vs) (n := m) hc155 hm (by have hmx : maxLen = 9223372036854775807 := rfl; omega)
  have hO306 := SlO.ofOwn (T := 43) (g := g155) hOw306 hm
  refine on_ (ds_ (sq_ (sq_ (ao_ (qo0 1 [] [4, 7] [(34, .func (.func 64) #[] #[.pointer (some ⟨γ1 1, 0, none⟩)])] (ops_inline (g := 64) (args := #[.pointer (some ⟨γ195 0, 0, none⟩), .pointer (some ⟨γ1 1, 0, none⟩)]) (by kernel_rfl) (by kernel_rfl) (by kernel_rfl) (fun args w => Try.call64 args w) Try.func64 rfl Try.ntmps64 rfl (sq_ (qa0 [] [0, 1] [] (ds_ (sq_ ?_))))))))))
  refine at_calm rfl (by kernel_rfl) (by kernel_rfl) ?_
  refine cm 5 [(3, .go (owns 0 0 1)), (4, .go (owns 6 0 1))] [0, 1] [(10, .slice (some ⟨g75, 0, none⟩) n n), (11, .int .i64 k)] ([]) (by kernel_rfl) rfl al0 ?_
  rcases hg311 : getK Dom.id ds k with _ | y311
  ·
   have hpl311 := (pos_cut (k := k) (guests_iff.1 q5).dr).2.2
   refine cK (.tuple #[.int .i64 ((posK Dom.id ds k : Nat)), .bool false]) Try.call47 (fun w hw => by have := placed_d (some ⟨g75, 0, none⟩) n n ds k w (hO303.atN (A := [_, _]) hw) hn (by omega) (guests_iff.1 q5).dr; rw [hasK_none hg311] at this; exact this) ?_
   refine cm 5 [] [0, 1] [(4, .int .i64 ((posK Dom.id ds k : Nat))), (5, .bool false)] ([]) (by kernel_rfl) rfl al0 ?_
   refine calm_nil' ?_
   refine ds_ (sq_ (at_block (sq_ (qa0 [] [0, 1, 4] [(15, .bool true)] (ds_ (t_ (sq_ (qa0 [] [] [(3, .int .i64 4)] (ds_ (bk ([]) (.int .i64 4) (qo0 1 [] [4, 7] [(8, .int .i64 4)] (on_ (ds_ (sq_ (qa0 [] [4, 7, 8] [(37, .bool true)] (ds_ (t_ (sq_ (qa0 [(2, .go (owns 3 0 2))] [4] [(5, .int .i64 4)] (ds_ (bk (owns 3 0 2) (.tuple #[.agg #[.slice none 0 0, .slice none 0 0], .int .i64 4]) (qo0 4 [(5, .go (owns 5 0 2))] [4] [(5, .int .i64 4)] (on_ (ds_ (rt (owns 5 0 2) (.tuple #[.agg #[.slice none 0 0, .slice none 0 0], .int .i64 4]) ?_)))))))))))))))))))))))))
   exact fun w' hw => by rw [destroyV_none q5 hg311]; exact ⟨none, 0, 0, [], none, 0, 0, [], rfl, SlO.nil, SlO.nil, hw.below, hw.sub (List.nil_sublist _)⟩
  ·
   have hp_y311 := pos_getK (guests_iff.1 q5).dr hg311
   have hl_y311 := (List.getElem?_eq_some_iff.1 hp_y311).1
   refine cK (.tuple #[.int .i64 ((posK Dom.id ds k : Nat)), .bool true]) Try.call47 (fun w hw => by have := placed_d (some ⟨g75, 0, none⟩) n n ds k w (hO303.atN (A := [_, _]) hw) hn (by omega) (guests_iff.1 q5).dr; rw [hasK_some hg311] at this; exact this) ?_
   refine cm 5 [] [0, 1] [(4, .int .i64 ((posK Dom.id ds k : Nat))), (5, .bool true)] ([]) (by kernel_rfl) rfl al0 ?_
   refine calm_nil' ?_
   refine ds_ (sq_ (at_block (sq_ (qa0 [] [0, 1, 4] [(15, .bool false)] (ds_ (f_ (sq_ ?_)))))))
   refine at_calm rfl (by kernel_rfl) (by kernel_rfl) ?_
   refine cm 4 [(2, .go (owns 0 0 2)), (3, .go (owns 6 0 1))] [0, 4] [(21, .agg #[.slice (some ⟨g75, 0, none⟩) n n, .slice (some ⟨g155, 0, none⟩) m m]), (22, .int .i64 k)] ([]) (by kernel_rfl) rfl al0 ?_
   refine cK (.int .i64 ((cntV vs k : Nat))) Try.call46 (fun w hw => count_d (some ⟨g75, 0, none⟩) n n ds (some ⟨g155, 0, none⟩) m m vs k w (hO306.atN (A := [_]) hw) hm (by omega)) ?_
   by_cases q323 : ((cntV vs k : Nat) : Int) > (0 : Int)
   ·
    refine cm 2 [(5, .yes)] [0, 4] [(18, .bool true)] ([((cntV vs k : Nat) : Int) > (0 : Int)]) (by kernel_rfl) rfl (al1 q323) ?_
    refine calm_nil' ?_
    refine ds_ (t_ (sq_ (qa0 [] [] [(3, .int .i64 8)] (ds_ (bk ([]) (.int .i64 8) (qo0 1 [] [4, 7] [(8, .int .i64 8)] (on_ (ds_ (sq_ (qa0 [] [4, 7, 8] [(37, .bool true)] (ds_ (t_ (sq_ (qa0 [(2, .go (owns 3 0 2))] [4] [(5, .int .i64 8)] (ds_ (bk (owns 3 0 2) (.tuple #[.agg #[.slice none 0 0, .slice none 0 0], .int .i64 8]) (qo0 4 [(5, .go (owns 5 0 2))] [4] [(5, .int .i64 8)] (on_ (ds_ (rt (owns 5 0 2) (.tuple #[.agg #[.slice none 0 0, .slice none 0 0], .int .i64 8]) ?_))))))))))))))))))))
    exact fun w' hw => by rw [destroyV_busy q5 hg311 q323]; exact ⟨none, 0, 0, [], none, 0, 0, [], rfl, SlO.nil, SlO.nil, hw.below, hw.sub (List.nil_sublist _)⟩
   ·
    refine cm 2 [(5, .no)] [0, 4] [(18, .bool false)] ([¬ (((cntV vs k : Nat) : Int) > (0 : Int))]) (by kernel_rfl) rfl (al1 q323) ?_
    refine calm_nil' ?_
    refine ds_ (f_ (at_skip (done_block (ds_ (sq_ (ao_ (qo 8 [(4, .go (owns 0 0 1)), (7, .fit)] [] [(25, .pointer (some ⟨γ195 0, 0, none⟩)), (29, .slice (some ⟨g75, 0, none⟩) n n), (30, .int .i64 ((posK Dom.id ds k : Nat))), (32, .int .i64 ((posK Dom.id ds k + 1 : Nat)))] ([Fit .i64 ((posK Dom.id ds k + 1 : Nat))]) (al1 (fit64 (by omega) (by omega))) (Ops.pick [[bx (γ195 0) (#[.slice (some ⟨g75, 0, none⟩) n n, .slice (some ⟨g155, 0, none⟩) m m]) 25], [bx g155 ((sets c155 0 (vs.flatMap Enc.enc))) 43], [bx g75 ((sets c75 0 (ds.flatMap Enc.enc))) 32], [bx (γ3 1) (#[.slice none 0 0, .slice none 0 0]) 25], [bx (γ3 0) (#[.slice p n cap, .slice q m capv]) 25], [bx (γ1 2) (#[.slice none 0 0, .slice none 0 0]) 25], [bx (γ1 1) (#[.int .i64 k]) 3], [bx (γ1 0) (#[.slice p n cap, .slice q m capv]) 25]] [2, 0, 1, 3, 4, 5, 6, 7] [] ([bx g75 ((sets c75 0 (ds.flatMap Enc.enc))) 32, bx (γ195 0) (#[.slice (some ⟨g75, 0, none⟩) n n, .slice (some ⟨g155, 0, none⟩) m m]) 25, bx g155 ((sets c155 0 (vs.flatMap Enc.enc))) 43, bx (γ3 1) (#[.slice none 0 0, .slice none 0 0]) 25, bx (γ3 0) (#[.slice p n cap, .slice q m capv]) 25, bx (γ1 2) (#[.slice none 0 0, .slice none 0 0]) 25, bx (γ1 1) (#[.int .i64 k]) 3, bx (γ1 0) (#[.slice p n cap, .slice q m capv]) 25]) (by kernel_rfl) rfl rfl (cP (fun v L' => ∃ q_ c_ Y_, v = .slice q_ ((posK Dom.id ds k) + (n - (posK Dom.id ds k + 1))) c_ ∧ L' = [bx (γ195 0) (#[.slice (some ⟨g75, 0, none⟩) n n, .slice (some ⟨g155, 0, none⟩) m m]) 25, bx g155 ((sets c155 0 (vs.flatMap Enc.enc))) 43, bx (γ3 1) (#[.slice none 0 0, .slice none 0 0]) 25, bx (γ3 0) (#[.slice p n cap, .slice q m capv]) 25, bx (γ1 2) (#[.slice none 0 0, .slice none 0 0]) 25, bx (γ1 1) (#[.int .i64 k]) 3, bx (γ1 0) (#[.slice p n cap, .slice q m capv]) 25] ++ (Y_ ++ []) ∧ SlO 32 Y_ q_ ((posK Dom.id ds k) + (n - (posK Dom.id ds k + 1))) c_ (ds.take (posK Dom.id ds k) ++ ds.drop (posK Dom.id ds k + 1))) Try.call65 (fun w hw => (deleteD_d _ ([bx (γ195 0) (#[.slice (some ⟨g75, 0, none⟩) n n, .slice (some ⟨g155, 0, none⟩) m m]) 25, bx g155 ((sets c155 0 (vs.flatMap Enc.enc))) 43, bx (γ3 1) (#[.slice none 0 0, .slice none 0 0]) 25, bx (γ3 0) (#[.slice p n cap, .slice q m capv]) 25, bx (γ1 2) (#[.slice none 0 0, .slice none 0 0]) 25, bx (γ1 1) (#[.int .i64 k]) 3, bx (γ1 0) (#[.slice p n cap, .slice q m capv]) 25] ++ []) [bx g75 ((sets c75 0 (ds.flatMap Enc.enc))) 32] (some ⟨g75, 0, none⟩) n n ds (posK Dom.id ds k) (posK Dom.id ds k + 1) w hw hO303 (by omega) (by omega) (by omega)).mono fun e w' ⟨q_, c_, Y_, he, hO, hY⟩ => ⟨_, _, he, ⟨q_, c_, Y_, rfl, rfl, hO⟩, hY.push⟩) ?_)))))))))
    rintro v332 L332 ⟨q332, cq332, Y332, rfl, rfl, hO332⟩
    refine mo0 3 [(11, .go (owns 0 0 1))] [] (fun _ => []) (fun _ L => (L.set 0 (bx (γ195 0) (#[.slice q332 ((posK Dom.id ds k) + (n - (posK Dom.id ds k + 1))) cq332, .slice (some ⟨g155, 0, none⟩) m m]) 25))) (fun _ => on_ (ds_ (sq_ (qa0 [] [] [(3, .int .i64 0)] (ds_ (bk ([]) (.int .i64 0) (qo0 1 [] [4, 7] [(8, .int .i64 0)] (on_ (ds_ (sq_ (qa0 [] [4, 7, 8] [(37, .bool false)] (ds_ (f_ (at_skip (ds_ (sq_ (ma0 [(0, .go (owns 0 0 2)), (1, .go (owns 2 0 2))] [4] (fun _ => [(5, .int .i64 0)]) (fun _ L => (L.set 2 (bx (γ3 1) (#[.slice q332 ((posK Dom.id ds k) + (n - (posK Dom.id ds k + 1))) cq332, .slice (some ⟨g155, 0, none⟩) m m]) 25))) (fun _ => ds_ (bk (owns 2 0 2) (.tuple #[.agg #[.slice q332 ((posK Dom.id ds k) + (n - (posK Dom.id ds k + 1))) cq332, .slice (some ⟨g155, 0, none⟩) m m], .int .i64 0]) (mo0 4 [(5, .go (owns 4 0 2))] [4] (fun _ => [(5, .int .i64 0)]) (fun _ L => (L.set 4 (bx (γ1 2) (#[.slice q332 ((posK Dom.id ds k) + (n - (posK Dom.id ds k + 1))) cq332, .slice (some ⟨g155, 0, none⟩) m m]) 25))) (fun _ => on_ (ds_ (rt (owns 4 0 2) (.tuple #[.agg #[.slice q332 ((posK Dom.id ds k) + (n - (posK Dom.id ds k + 1))) cq332, .slice (some ⟨g155, 0, none⟩) m m], .int .i64 0]) ?_)))))))))))))))))))))))
    exact fun w' hw => by rw [destroyV_ok q5 hg311 q323]; exact ⟨_, _, _, _, _, _, _, _, rfl, hO332, hO306, hw.below, two_tails (Hs.pick [[bx (γ195 0) (#[.slice q332 ((posK Dom.id ds k) + (n - (posK Dom.id ds k + 1))) cq332, .slice (some ⟨g155, 0, none⟩) m m]) 25], [bx g155 ((sets c155 0 (vs.flatMap Enc.enc))) 43], [bx (γ3 1) (#[.slice q332 ((posK Dom.id ds k) + (n - (posK Dom.id ds k + 1))) cq332, .slice (some ⟨g155, 0, none⟩) m m]) 25], [bx (γ3 0) (#[.slice p n cap, .slice q m capv]) 25], [bx (γ1 2) (#[.slice q332 ((posK Dom.id ds k) + (n - (posK Dom.id ds k + 1))) cq332, .slice (some ⟨g155, 0, none⟩) m m]) 25], [bx (γ1 1) (#[.int .i64 k]) 3], [bx (γ1 0) (#[.slice p n cap, .slice q m capv]) 25], Y332] [7, 1] [0, 2, 3, 4, 5, 6] (by kernel_rfl) hw)⟩

set_option maxRecDepth 100000 in
theorem drop_d (p : Option Addr) (n cap : Nat) (ds : List Dom) (q : Option Addr) (m capv : Nat) (vs : List Vcp) (k : Int) (w : World)
 (hds : Sv w p ds) (hn : n = ds.length) (hb : n ≤ 1000)
 (hvs : Sv w q vs) (hm : m = vs.length) (hmb : m ≤ 1000)
 : Calls Try.prog 17 #[.agg #[.slice p n cap, .slice q m capv], .int .i64 k] w fun e w' => ∃ q m capq Y q2 m2 capq2 X, e = .returned (.tuple #[.agg #[.slice q m capq, .slice q2 m2 capq2], .int .i64 (dropV ds vs k).2.2]) ∧ SlO 32 Y q m capq (dropV ds vs k).1 ∧ SlO 43 X q2 m2 capq2 (dropV ds vs k).2.1 ∧ Below w.heap.size w w' ∧ Hs w (Y ++ X) w' := by
 refine enter (Hs.start w) Try.func17 rfl Try.ntmps17 rfl (sq_ (ma0 [] [] (fun γ1 => [(2, .pointer (some ⟨γ1 0, 0, none⟩)), (3, .pointer (some ⟨γ1 1, 0, none⟩)), (4, .pointer (some ⟨γ1 2, 0, none⟩))]) (fun γ1 L => bx (γ1 2) (#[.slice none 0 0, .slice none 0 0]) 25 :: bx (γ1 1) (#[.int .i64 k]) 3 :: bx (γ1 0) (#[.slice p n cap, .slice q m capv]) 25 :: L) (fun γ1 => ds_ (sq_ (ao_ (qo0 2 [(0, .go (owns 2 0 2))] [4] [(6, .agg #[.slice p n cap, .slice q m capv]), (7, .func (.func 55) #[] #[.pointer (some ⟨γ1 1, 0, none⟩)])] (ops_inline (g := 52) (args := #[.agg #[.slice p n cap, .slice q m capv], .func (.func 55) #[] #[.pointer (some ⟨γ1 1, 0, none⟩)]]) (by kernel_rfl) (by kernel_rfl) (by kernel_rfl) (fun args w => Try.call52 args w) Try.func52 rfl Try.ntmps52 rfl (sq_ (ma0 [] [1] (fun γ3 => [(2, .pointer (some ⟨γ3 0, 0, none⟩)), (4, .pointer (some ⟨γ3 1, 0, none⟩))]) (fun γ3 L => bx (γ3 1) (#[.slice none 0 0, .slice none 0 0]) 25 :: bx (γ3 0) (#[.slice p n cap, .slice q m capv]) 25 :: L) (fun γ3 => ds_ (sq_ (sq_ (ao_ (qo0 1 [(0, .go (owns 1 0 2))] [1, 2, 4] [(9, .agg #[.slice p n cap, .slice q m capv])] ?_))))))))))))))
 rcases q5 : guestsB ds vs with _ | _
 ·
  refine cD (.int .i64 190) Try.call10 (fun w hw => by have := gcheck_d p n cap ds q m capv vs w (hds.kept hw.below) hn (by omega) (hvs.kept hw.below) hm (by omega); rw [q5] at this; exact this) (qo0 1 [] [1, 2, 4] [(6, .int .i64 190)] (on_ (ds_ (sq_ (qa0 [] [1, 2, 4, 6] [(12, .bool true)] (ds_ (t_ (sq_ (qa0 [(2, .go (owns 0 0 2))] [4] [(5, .int .i64 190)] (ds_ (bk (owns 0 0 2) (.tuple #[.agg #[.slice none 0 0, .slice none 0 0], .int .i64 190]) (qo0 4 [(5, .go (owns 2 0 2))] [4] [(5, .int .i64 190)] (on_ (ds_ (rt (owns 2 0 2) (.tuple #[.agg #[.slice none 0 0, .slice none 0 0], .int .i64 190]) ?_)))))))))))))))
  exact fun w' hw => by rw [dropV_bad q5]; exact ⟨none, 0, 0, [], none, 0, 0, [], rfl, SlO.nil, SlO.nil, hw.below, hw.sub (List.nil_sublist _)⟩
 ·
  refine cD (.int .i64 0) Try.call10 (fun w hw => by have := gcheck_d p n cap ds q m capv vs w (hds.kept hw.below) hn (by omega) (hvs.kept hw.below) hm (by omega); rw [q5] at this; exact this) (qo0 1 [] [1, 2, 4] [(6, .int .i64 0)] (on_ (ds_ (sq_ (qa0 [] [1, 2, 4, 6] [(12, .bool false)] (ds_ (f_ (at_skip (ds_ (sq_ ?_))))))))))
  refine at_any (by kernel_rfl) ?_
  refine tk (m := 9) [0, 4] [] [1, 2, 4] [(15, .pointer (some ⟨γ3 0, 0, none⟩)), (19, .pointer (some ⟨γ3 0, 1, none⟩))] ([]) #[true, false, false, false, true, false, false, false, false, false, false] al0 ?_
  refine any_cutX (V := (Array Value) × (Array Value) × (Nat) × (Nat) × (Nat → Nat)) (fun ⟨c155, c75, g155, g75, γ195⟩ => c155.size = m * 4 ∧ c75.size = n * 4) 0 #[true, true, true, true, true, true, true, true, true, true, true] (fun ⟨c155, c75, g155, g75, γ195⟩ => [(1, .func (.func 55) #[] #[.pointer (some ⟨γ1 1, 0, none⟩)]), (2, .pointer (some ⟨γ3 0, 0, none⟩)), (4, .pointer (some ⟨γ3 1, 0, none⟩)), (7, .pointer (some ⟨γ195 0, 0, none⟩))]) (fun ⟨c155, c75, g155, g75, γ195⟩ => [bx (γ195 0) (#[.slice (some ⟨g75, 0, none⟩) n n, .slice (some ⟨g155, 0, none⟩) m m]) 25, bx g155 c155 43, bx g75 c75 32, bx (γ3 1) (#[.slice none 0 0, .slice none 0 0]) 25, bx (γ3 0) (#[.slice p n cap, .slice q m capv]) 25, bx (γ1 2) (#[.slice none 0 0, .slice none 0 0]) 25, bx (γ1 1) (#[.int .i64 k]) 3, bx (γ1 0) (#[.slice p n cap, .slice q m capv]) 25]) ?_ (fun hmx18 => ?_)
  rotate_left
  ·
   refine any_cutX (V := (Array Value) × (Array Value) × (Nat) × (Nat) × (Nat → Nat)) (fun ⟨c155, c75, g155, g75, γ195⟩ => c155.size = m * 4 ∧ c75.size = n * 4) 1 #[true, true, true, true, true, true, true, true, true, true, false] (fun ⟨c155, c75, g155, g75, γ195⟩ => [(1, .func (.func 55) #[] #[.pointer (some ⟨γ1 1, 0, none⟩)]), (2, .pointer (some ⟨γ3 0, 0, none⟩)), (4, .pointer (some ⟨γ3 1, 0, none⟩)), (7, .pointer (some ⟨γ195 0, 0, none⟩)), (23, .agg #[.slice (some ⟨g75, 0, none⟩) n n, .slice (some ⟨g155, 0, none⟩) m m])]) (fun ⟨c155, c75, g155, g75, γ195⟩ => [bx (γ195 0) (#[.slice none 0 0, .slice none 0 0]) 25, bx g155 c155 43, bx g75 c75 32, bx (γ3 1) (#[.slice none 0 0, .slice none 0 0]) 25, bx (γ3 0) (#[.slice p n cap, .slice q m capv]) 25, bx (γ1 2) (#[.slice none 0 0, .slice none 0 0]) 25, bx (γ1 1) (#[.int .i64 k]) 3, bx (γ1 0) (#[.slice p n cap, .slice q m capv]) 25]) ?_ (fun hmx17 => ?_)
   ·
    rintro ⟨c155, c75, g155, g75, γ195⟩ ⟨hc155, hc75⟩
    refine a1 10 rfl ?_
    refine mo0 1 [(10, .go (owns 0 0 2))] [1, 2, 4, 7] (fun _ => []) (fun _ L => (L.set 0 (bx (γ195 0) (#[.slice (some ⟨g75, 0, none⟩) n n, .slice (some ⟨g155, 0, none⟩) m m]) 25))) (fun _ => ?_)
    refine od_ ?_
    exact wk (hmx18 (c155, c75, g155, g75, γ195) ⟨hc155, hc75⟩) [1, 2, 4, 7] [[_], [_], [_], [_], [_], [_], [_], [_]] [0, 1, 2, 3, 4, 5, 6, 7] rfl rfl
   refine any_cutX (V := (Array Value) × (Array Value) × (Nat) × (Nat)) (fun ⟨c155, c75, g155, g75⟩ => c155.size = m * 4 ∧ c75.size = n * 4) 2 #[true, true, true, true, true, true, true, true, true, false, false] (fun ⟨c155, c75, g155, g75⟩ => [(1, .func (.func 55) #[] #[.pointer (some ⟨γ1 1, 0, none⟩)]), (2, .pointer (some ⟨γ3 0, 0, none⟩)), (4, .pointer (some ⟨γ3 1, 0, none⟩)), (23, .agg #[.slice (some ⟨g75, 0, none⟩) n n, .slice (some ⟨g155, 0, none⟩) m m])]) (fun ⟨c155, c75, g155, g75⟩ => [bx g155 c155 43, bx g75 c75 32, bx (γ3 1) (#[.slice none 0 0, .slice none 0 0]) 25, bx (γ3 0) (#[.slice p n cap, .slice q m capv]) 25, bx (γ1 2) (#[.slice none 0 0, .slice none 0 0]) 25, bx (γ1 1) (#[.int .i64 k]) 3, bx (γ1 0) (#[.slice p n cap, .slice q m capv]) 25]) ?_ (fun hmx16 => ?_)
   ·
    rintro ⟨c155, c75, g155, g75⟩ ⟨hc155, hc75⟩
    refine a1 9 rfl ?_
    refine mo0 1 [] [1, 2, 4, 23] (fun γ195 => [(7, .pointer (some ⟨γ195 0, 0, none⟩))]) (fun γ195 L => bx (γ195 0) (#[.slice none 0 0, .slice none 0 0]) 25 :: L) (fun γ195 => ?_)
    refine od_ ?_
    exact wk (hmx17 (c155, c75, g155, g75, γ195) ⟨hc155, hc75⟩) [1, 2, 4, 7, 23] [[_], [_], [_], [_], [_], [_], [_], [_]] [0, 1, 2, 3, 4, 5, 6, 7] rfl rfl
   refine any_cutX (V := (Array Value) × (Nat) × (Nat → Nat)) (fun ⟨c155, g155, γ195⟩ => c155.size = m * 4) 3 #[true, true, true, false, true, true, true, true, false, true, false] (fun ⟨c155, g155, γ195⟩ => [(1, .func (.func 55) #[] #[.pointer (some ⟨γ1 1, 0, none⟩)]), (2, .pointer (some ⟨γ3 0, 0, none⟩)), (4, .pointer (some ⟨γ3 1, 0, none⟩)), (7, .pointer (some ⟨γ195 0, 0, none⟩)), (17, .int .i64 ((n : Nat))), (22, .slice (some ⟨g155, 0, none⟩) m m)]) (fun ⟨c155, g155, γ195⟩ => [bx (γ195 0) (#[.slice none 0 0, .slice none 0 0]) 25, bx g155 c155 43, bx (γ3 1) (#[.slice none 0 0, .slice none 0 0]) 25, bx (γ3 0) (#[.slice p n cap, .slice q m capv]) 25, bx (γ1 2) (#[.slice none 0 0, .slice none 0 0]) 25, bx (γ1 1) (#[.int .i64 k]) 3, bx (γ1 0) (#[.slice p n cap, .slice q m capv]) 25]) ?_ (fun hmx15 => ?_)
   ·
    rintro ⟨c155, g155, γ195⟩ hc155
    refine a1 3 rfl ?_
    refine ops_make (T := 32) (ks := 4) (by_ := 32) (n := n) rfl (by kernel_rfl) (by kernel_rfl) (by kernel_rfl) (by kernel_rfl) (by kernel_rfl) (by omega) (by have hmx : maxLen = 9223372036854775807 := rfl; omega) (fun g75 c75 hc75 => ?_)
    refine od_ ?_
    refine tk (m := 1) [8] [] [1, 2, 4, 7] [(23, .agg #[.slice (some ⟨g75, 0, none⟩) n n, .slice (some ⟨g155, 0, none⟩) m m])] ([]) #[true, true, true, true, true, true, true, true, true, true, false] al0 ?_
    exact wk (hmx17 (c155, c75, g155, g75, γ195) ⟨hc155, hc75⟩) [1, 2, 4, 7, 23] [[_], [_], [_], [_], [_], [_], [_], [_]] [1, 2, 0, 3, 4, 5, 6, 7] rfl rfl
   refine any_cutX (V := (Array Value) × (Nat) × (Nat → Nat)) (fun ⟨c75, g75, γ195⟩ => c75.size = n * 4) 3 #[true, true, true, true, true, true, true, false, false, true, false] (fun ⟨c75, g75, γ195⟩ => [(1, .func (.func 55) #[] #[.pointer (some ⟨γ1 1, 0, none⟩)]), (2, .pointer (some ⟨γ3 0, 0, none⟩)), (4, .pointer (some ⟨γ3 1, 0, none⟩)), (7, .pointer (some ⟨γ195 0, 0, none⟩)), (18, .slice (some ⟨g75, 0, none⟩) n n), (21, .int .i64 ((m : Nat)))]) (fun ⟨c75, g75, γ195⟩ => [bx (γ195 0) (#[.slice none 0 0, .slice none 0 0]) 25, bx g75 c75 32, bx (γ3 1) (#[.slice none 0 0, .slice none 0 0]) 25, bx (γ3 0) (#[.slice p n cap, .slice q m capv]) 25, bx (γ1 2) (#[.slice none 0 0, .slice none 0 0]) 25, bx (γ1 1) (#[.int .i64 k]) 3, bx (γ1 0) (#[.slice p n cap, .slice q m capv]) 25]) ?_ (fun hmx14 => ?_)
   ·
    rintro ⟨c75, g75, γ195⟩ hc75
    refine a1 7 rfl ?_
    refine ops_make (T := 43) (ks := 4) (by_ := 24) (n := m) rfl (by kernel_rfl) (by kernel_rfl) (by kernel_rfl) (by kernel_rfl) (by kernel_rfl) (by omega) (by have hmx : maxLen = 9223372036854775807 := rfl; omega) (fun g155 c155 hc155 => ?_)
    refine od_ ?_
    refine tk (m := 1) [8] [] [1, 2, 4, 7] [(23, .agg #[.slice (some ⟨g75, 0, none⟩) n n, .slice (some ⟨g155, 0, none⟩) m m])] ([]) #[true, true, true, true, true, true, true, true, true, true, false] al0 ?_
    exact wk (hmx17 (c155, c75, g155, g75, γ195) ⟨hc155, hc75⟩) [1, 2, 4, 7, 23] [[_], [_], [_], [_], [_], [_], [_], [_]] [1, 0, 2, 3, 4, 5, 6, 7] rfl rfl
   refine any_cutX (V := (Array Value) × (Nat)) (fun ⟨c155, g155⟩ => c155.size = m * 4) 4 #[true, true, true, false, true, true, true, true, false, false, false] (fun ⟨c155, g155⟩ => [(1, .func (.func 55) #[] #[.pointer (some ⟨γ1 1, 0, none⟩)]), (2, .pointer (some ⟨γ3 0, 0, none⟩)), (4, .pointer (some ⟨γ3 1, 0, none⟩)), (17, .int .i64 ((n : Nat))), (22, .slice (some ⟨g155, 0, none⟩) m m)]) (fun ⟨c155, g155⟩ => [bx g155 c155 43, bx (γ3 1) (#[.slice none 0 0, .slice none 0 0]) 25, bx (γ3 0) (#[.slice p n cap, .slice q m capv]) 25, bx (γ1 2) (#[.slice none 0 0, .slice none 0 0]) 25, bx (γ1 1) (#[.int .i64 k]) 3, bx (γ1 0) (#[.slice p n cap, .slice q m capv]) 25]) ?_ (fun hmx13 => ?_)
   ·
    rintro ⟨c155, g155⟩ hc155
    refine any_fork [3, 9] (by kernel_rfl) (by simp) (each_cons _ rfl ?_ (each_cons _ rfl ?_ (each_nil)))
    ·
     refine ops_make (T := 32) (ks := 4) (by_ := 32) (n := n) rfl (by kernel_rfl) (by kernel_rfl) (by kernel_rfl) (by kernel_rfl) (by kernel_rfl) (by omega) (by have hmx : maxLen = 9223372036854775807 := rfl; omega) (fun g75 c75 hc75 => ?_)
     refine od_ ?_
     refine tk (m := 2) [8] [] [1, 2, 4] [(23, .agg #[.slice (some ⟨g75, 0, none⟩) n n, .slice (some ⟨g155, 0, none⟩) m m])] ([]) #[true, true, true, true, true, true, true, true, true, false, false] al0 ?_
     exact wk (hmx16 (c155, c75, g155, g75) ⟨hc155, hc75⟩) [1, 2, 4, 23] [[_], [_], [_], [_], [_], [_], [_]] [1, 0, 2, 3, 4, 5, 6] rfl rfl
    ·
     refine mo0 1 [] [1, 2, 4, 17, 22] (fun γ195 => [(7, .pointer (some ⟨γ195 0, 0, none⟩))]) (fun γ195 L => bx (γ195 0) (#[.slice none 0 0, .slice none 0 0]) 25 :: L) (fun γ195 => ?_)
     refine od_ ?_
     exact wk (hmx15 (c155, g155, γ195) hc155) [1, 2, 4, 7, 17, 22] [[_], [_], [_], [_], [_], [_], [_]] [0, 1, 2, 3, 4, 5, 6] rfl rfl
   refine any_cutX (V := (Array Value) × (Nat)) (fun ⟨c75, g75⟩ => c75.size = n * 4) 4 #[true, true, true, true, true, true, true, false, false, false, false] (fun ⟨c75, g75⟩ => [(1, .func (.func 55) #[] #[.pointer (some ⟨γ1 1, 0, none⟩)]), (2, .pointer (some ⟨γ3 0, 0, none⟩)), (4, .pointer (some ⟨γ3 1, 0, none⟩)), (18, .slice (some ⟨g75, 0, none⟩) n n), (21, .int .i64 ((m : Nat)))]) (fun ⟨c75, g75⟩ => [bx g75 c75 32, bx (γ3 1) (#[.slice none 0 0, .slice none 0 0]) 25, bx (γ3 0) (#[.slice p n cap, .slice q m capv]) 25, bx (γ1 2) (#[.slice none 0 0, .slice none 0 0]) 25, bx (γ1 1) (#[.int .i64 k]) 3, bx (γ1 0) (#[.slice p n cap, .slice q m capv]) 25]) ?_ (fun hmx12 => ?_)
   ·
    rintro ⟨c75, g75⟩ hc75
    refine any_fork [7, 9] (by kernel_rfl) (by simp) (each_cons _ rfl ?_ (each_cons _ rfl ?_ (each_nil)))
    ·
     refine ops_make (T := 43) (ks := 4) (by_ := 24) (n := m) rfl (by kernel_rfl) (by kernel_rfl) (by kernel_rfl) (by kernel_rfl) (by kernel_rfl) (by omega) (by have hmx : maxLen = 9223372036854775807 := rfl; omega) (fun g155 c155 hc155 => ?_)
     refine od_ ?_
     refine tk (m := 2) [8] [] [1, 2, 4] [(23, .agg #[.slice (some ⟨g75, 0, none⟩) n n, .slice (some ⟨g155, 0, none⟩) m m])] ([]) #[true, true, true, true, true, true, true, true, true, false, false] al0 ?_
     exact wk (hmx16 (c155, c75, g155, g75) ⟨hc155, hc75⟩) [1, 2, 4, 23] [[_], [_], [_], [_], [_], [_], [_]] [0, 1, 2, 3, 4, 5, 6] rfl rfl
    ·
     refine mo0 1 [] [1, 2, 4, 18, 21] (fun γ195 => [(7, .pointer (some ⟨γ195 0, 0, none⟩))]) (fun γ195 L => bx (γ195 0) (#[.slice none 0 0, .slice none 0 0]) 25 :: L) (fun γ195 => ?_)
     refine od_ ?_
     exact wk (hmx14 (c75, g75, γ195) hc75) [1, 2, 4, 7, 18, 21] [[_], [_], [_], [_], [_], [_], [_]] [0, 1, 2, 3, 4, 5, 6] rfl rfl
   refine any_cutX (V := (Nat → Nat)) (fun γ195 => True) 4 #[true, true, true, false, true, true, true, false, false, true, false] (fun γ195 => [(1, .func (.func 55) #[] #[.pointer (some ⟨γ1 1, 0, none⟩)]), (2, .pointer (some ⟨γ3 0, 0, none⟩)), (4, .pointer (some ⟨γ3 1, 0, none⟩)), (7, .pointer (some ⟨γ195 0, 0, none⟩)), (17, .int .i64 ((n : Nat))), (21, .int .i64 ((m : Nat)))]) (fun γ195 => [bx (γ195 0) (#[.slice none 0 0, .slice none 0 0]) 25, bx (γ3 1) (#[.slice none 0 0, .slice none 0 0]) 25, bx (γ3 0) (#[.slice p n cap, .slice q m capv]) 25, bx (γ1 2) (#[.slice none 0 0, .slice none 0 0]) 25, bx (γ1 1) (#[.int .i64 k]) 3, bx (γ1 0) (#[.slice p n cap, .slice q m capv]) 25]) ?_ (fun hmx11 => ?_)
   ·
    rintro γ195 _
    refine any_fork [3, 7] (by kernel_rfl) (by simp) (each_cons _ rfl ?_ (each_cons _ rfl ?_ (each_nil)))
    ·
     refine ops_make (T := 32) (ks := 4) (by_ := 32) (n := n) rfl (by kernel_rfl) (by kernel_rfl) (by kernel_rfl) (by kernel_rfl) (by kernel_rfl) (by omega) (by have hmx : maxLen = 9223372036854775807 := rfl; omega) (fun g75 c75 hc75 => ?_)
     refine od_ ?_
     exact wk (hmx14 (c75, g75, γ195) hc75) [1, 2, 4, 7, 18, 21] [[_], [_], [_], [_], [_], [_], [_]] [1, 0, 2, 3, 4, 5, 6] rfl rfl
    ·
     refine ops_make (T := 43) (ks := 4) (by_ := 24) (n := m) rfl (by kernel_rfl) (by kernel_rfl) (by kernel_rfl) (by kernel_rfl) (by kernel_rfl) (by omega) (by have hmx : maxLen = 9223372036854775807 := rfl; omega) (fun g155 c155 hc155 => ?_)
     refine od_ ?_
     exact wk (hmx15 (c155, g155, γ195) hc155) [1, 2, 4, 7, 17, 22] [[_], [_], [_], [_], [_], [_], [_]] [1, 0, 2, 3, 4, 5, 6] rfl rfl
   refine any_cutX (V := (Array Value) × (Nat) × (Nat → Nat)) (fun ⟨c155, g155, γ195⟩ => c155.size = m * 4) 5 #[true, false, false, false, true, true, true, true, false, true, false] (fun ⟨c155, g155, γ195⟩ => [(1, .func (.func 55) #[] #[.pointer (some ⟨γ1 1, 0, none⟩)]), (2, .pointer (some ⟨γ3 0, 0, none⟩)), (4, .pointer (some ⟨γ3 1, 0, none⟩)), (7, .pointer (some ⟨γ195 0, 0, none⟩)), (15, .pointer (some ⟨γ3 0, 0, none⟩)), (22, .slice (some ⟨g155, 0, none⟩) m m)]) (fun ⟨c155, g155, γ195⟩ => [bx (γ195 0) (#[.slice none 0 0, .slice none 0 0]) 25, bx g155 c155 43, bx (γ3 1) (#[.slice none 0 0, .slice none 0 0]) 25, bx (γ3 0) (#[.slice p n cap, .slice q m capv]) 25, bx (γ1 2) (#[.slice none 0 0, .slice none 0 0]) 25, bx (γ1 1) (#[.int .i64 k]) 3, bx (γ1 0) (#[.slice p n cap, .slice q m capv]) 25]) ?_ (fun hmx10 => ?_)
   ·
    rintro ⟨c155, g155, γ195⟩ hc155
    refine a1 1 rfl ?_
    refine qo0 1 [(1, .go (owns 3 0 1))] [1, 2, 4, 7, 22] [(16, .slice p n cap)] ?_
    refine od_ ?_
    refine tk (m := 3) [2] [] [1, 2, 4, 7, 22] [(17, .int .i64 ((n : Nat)))] ([]) #[true, true, true, false, true, true, true, true, false, true, false] al0 ?_
    exact wk (hmx15 (c155, g155, γ195) hc155) [1, 2, 4, 7, 17, 22] [[_], [_], [_], [_], [_], [_], [_]] [0, 1, 2, 3, 4, 5, 6] rfl rfl
   refine any_cutX (V := (Array Value) × (Nat) × (Nat → Nat)) (fun ⟨c75, g75, γ195⟩ => c75.size = n * 4) 5 #[true, true, true, true, true, false, false, false, false, true, false] (fun ⟨c75, g75, γ195⟩ => [(1, .func (.func 55) #[] #[.pointer (some ⟨γ1 1, 0, none⟩)]), (2, .pointer (some ⟨γ3 0, 0, none⟩)), (4, .pointer (some ⟨γ3 1, 0, none⟩)), (7, .pointer (some ⟨γ195 0, 0, none⟩)), (18, .slice (some ⟨g75, 0, none⟩) n n), (19, .pointer (some ⟨γ3 0, 1, none⟩))]) (fun ⟨c75, g75, γ195⟩ => [bx (γ195 0) (#[.slice none 0 0, .slice none 0 0]) 25, bx g75 c75 32, bx (γ3 1) (#[.slice none 0 0, .slice none 0 0]) 25, bx (γ3 0) (#[.slice p n cap, .slice q m capv]) 25, bx (γ1 2) (#[.slice none 0 0, .slice none 0 0]) 25, bx (γ1 1) (#[.int .i64 k]) 3, bx (γ1 0) (#[.slice p n cap, .slice q m capv]) 25]) ?_ (fun hmx9 => ?_)
   ·
    rintro ⟨c75, g75, γ195⟩ hc75
    refine a1 5 rfl ?_
    refine qo0 1 [(5, .go (owns 3 1 1))] [1, 2, 4, 7, 18] [(20, .slice q m capv)] ?_
    refine od_ ?_
    refine tk (m := 3) [6] [] [1, 2, 4, 7, 18] [(21, .int .i64 ((m : Nat)))] ([]) #[true, true, true, true, true, true, true, false, false, true, false] al0 ?_
    exact wk (hmx14 (c75, g75, γ195) hc75) [1, 2, 4, 7, 18, 21] [[_], [_], [_], [_], [_], [_], [_]] [0, 1, 2, 3, 4, 5, 6] rfl rfl
   refine any_cutX (V := Unit) (fun _ => True) 5 #[true, true, true, false, true, true, true, false, false, false, false] (fun _ => [(1, .func (.func 55) #[] #[.pointer (some ⟨γ1 1, 0, none⟩)]), (2, .pointer (some ⟨γ3 0, 0, none⟩)), (4, .pointer (some ⟨γ3 1, 0, none⟩)), (17, .int .i64 ((n : Nat))), (21, .int .i64 ((m : Nat)))]) (fun _ => [bx (γ3 1) (#[.slice none 0 0, .slice none 0 0]) 25, bx (γ3 0) (#[.slice p n cap, .slice q m capv]) 25, bx (γ1 2) (#[.slice none 0 0, .slice none 0 0]) 25, bx (γ1 1) (#[.int .i64 k]) 3, bx (γ1 0) (#[.slice p n cap, .slice q m capv]) 25]) ?_ (fun hmx8 => ?_)
   ·
    rintro _ _
    refine any_fork [3, 7, 9] (by kernel_rfl) (by simp) (each_cons _ rfl ?_ (each_cons _ rfl ?_ (each_cons _ rfl ?_ (each_nil))))
    ·
     refine ops_make (T := 32) (ks := 4) (by_ := 32) (n := n) rfl (by kernel_rfl) (by kernel_rfl) (by kernel_rfl) (by kernel_rfl) (by kernel_rfl) (by omega) (by have hmx : maxLen = 9223372036854775807 := rfl; omega) (fun g75 c75 hc75 => ?_)
     refine od_ ?_
     exact wk (hmx12 (c75, g75) hc75) [1, 2, 4, 18, 21] [[_], [_], [_], [_], [_], [_]] [0, 1, 2, 3, 4, 5] rfl rfl
    ·
     refine ops_make (T := 43) (ks := 4) (by_ := 24) (n := m) rfl (by kernel_rfl) (by kernel_rfl) (by kernel_rfl) (by kernel_rfl) (by kernel_rfl) (by omega) (by have hmx : maxLen = 9223372036854775807 := rfl; omega) (fun g155 c155 hc155 => ?_)
     refine od_ ?_
     exact wk (hmx13 (c155, g155) hc155) [1, 2, 4, 17, 22] [[_], [_], [_], [_], [_], [_]] [0, 1, 2, 3, 4, 5] rfl rfl
    ·
     refine mo0 1 [] [1, 2, 4, 17, 21] (fun γ195 => [(7, .pointer (some ⟨γ195 0, 0, none⟩))]) (fun γ195 L => bx (γ195 0) (#[.slice none 0 0, .slice none 0 0]) 25 :: L) (fun γ195 => ?_)
     refine od_ ?_
     exact wk (hmx11 γ195 trivial) [1, 2, 4, 7, 17, 21] [[_], [_], [_], [_], [_], [_]] [0, 1, 2, 3, 4, 5] rfl rfl
   refine any_cutX (V := (Array Value) × (Nat)) (fun ⟨c155, g155⟩ => c155.size = m * 4) 6 #[true, false, false, false, true, true, true, true, false, false, false] (fun ⟨c155, g155⟩ => [(1, .func (.func 55) #[] #[.pointer (some ⟨γ1 1, 0, none⟩)]), (2, .pointer (some ⟨γ3 0, 0, none⟩)), (4, .pointer (some ⟨γ3 1, 0, none⟩)), (15, .pointer (some ⟨γ3 0, 0, none⟩)), (22, .slice (some ⟨g155, 0, none⟩) m m)]) (fun ⟨c155, g155⟩ => [bx g155 c155 43, bx (γ3 1) (#[.slice none 0 0, .slice none 0 0]) 25, bx (γ3 0) (#[.slice p n cap, .slice q m capv]) 25, bx (γ1 2) (#[.slice none 0 0, .slice none 0 0]) 25, bx (γ1 1) (#[.int .i64 k]) 3, bx (γ1 0) (#[.slice p n cap, .slice q m capv]) 25]) ?_ (fun hmx7 => ?_)
   ·
    rintro ⟨c155, g155⟩ hc155
    refine any_fork [1, 9] (by kernel_rfl) (by simp) (each_cons _ rfl ?_ (each_cons _ rfl ?_ (each_nil)))
    ·
     refine qo0 1 [(1, .go (owns 2 0 1))] [1, 2, 4, 22] [(16, .slice p n cap)] ?_
     refine od_ ?_
     refine tk (m := 4) [2] [] [1, 2, 4, 22] [(17, .int .i64 ((n : Nat)))] ([]) #[true, true, true, false, true, true, true, true, false, false, false] al0 ?_
     exact wk (hmx13 (c155, g155) hc155) [1, 2, 4, 17, 22] [[_], [_], [_], [_], [_], [_]] [0, 1, 2, 3, 4, 5] rfl rfl
    ·
     refine mo0 1 [] [1, 2, 4, 15, 22] (fun γ195 => [(7, .pointer (some ⟨γ195 0, 0, none⟩))]) (fun γ195 L => bx (γ195 0) (#[.slice none 0 0, .slice none 0 0]) 25 :: L) (fun γ195 => ?_)
     refine od_ ?_
     exact wk (hmx10 (c155, g155, γ195) hc155) [1, 2, 4, 7, 15, 22] [[_], [_], [_], [_], [_], [_], [_]] [0, 1, 2, 3, 4, 5, 6] rfl rfl
   refine any_cutX (V := (Array Value) × (Nat)) (fun ⟨c75, g75⟩ => c75.size = n * 4) 6 #[true, true, true, true, true, false, false, false, false, false, false] (fun ⟨c75, g75⟩ => [(1, .func (.func 55) #[] #[.pointer (some ⟨γ1 1, 0, none⟩)]), (2, .pointer (some ⟨γ3 0, 0, none⟩)), (4, .pointer (some ⟨γ3 1, 0, none⟩)), (18, .slice (some ⟨g75, 0, none⟩) n n), (19, .pointer (some ⟨γ3 0, 1, none⟩))]) (fun ⟨c75, g75⟩ => [bx g75 c75 32, bx (γ3 1) (#[.slice none 0 0, .slice none 0 0]) 25, bx (γ3 0) (#[.slice p n cap, .slice q m capv]) 25, bx (γ1 2) (#[.slice none 0 0, .slice none 0 0]) 25, bx (γ1 1) (#[.int .i64 k]) 3, bx (γ1 0) (#[.slice p n cap, .slice q m capv]) 25]) ?_ (fun hmx6 => ?_)
   ·
    rintro ⟨c75, g75⟩ hc75
    refine any_fork [5, 9] (by kernel_rfl) (by simp) (each_cons _ rfl ?_ (each_cons _ rfl ?_ (each_nil)))
    ·
     refine qo0 1 [(5, .go (owns 2 1 1))] [1, 2, 4, 18] [(20, .slice q m capv)] ?_
     refine od_ ?_
     refine tk (m := 4) [6] [] [1, 2, 4, 18] [(21, .int .i64 ((m : Nat)))] ([]) #[true, true, true, true, true, true, true, false, false, false, false] al0 ?_
     exact wk (hmx12 (c75, g75) hc75) [1, 2, 4, 18, 21] [[_], [_], [_], [_], [_], [_]] [0, 1, 2, 3, 4, 5] rfl rfl
    ·
     refine mo0 1 [] [1, 2, 4, 18, 19] (fun γ195 => [(7, .pointer (some ⟨γ195 0, 0, none⟩))]) (fun γ195 L => bx (γ195 0) (#[.slice none 0 0, .slice none 0 0]) 25 :: L) (fun γ195 => ?_)
     refine od_ ?_
     exact wk (hmx9 (c75, g75, γ195) hc75) [1, 2, 4, 7, 18, 19] [[_], [_], [_], [_], [_], [_], [_]] [0, 1, 2, 3, 4, 5, 6] rfl rfl
   refine any_cutX (V := (Nat → Nat)) (fun γ195 => True) 6 #[true, false, false, false, true, true, true, false, false, true, false] (fun γ195 => [(1, .func (.func 55) #[] #[.pointer (some ⟨γ1 1, 0, none⟩)]), (2, .pointer (some ⟨γ3 0, 0, none⟩)), (4, .pointer (some ⟨γ3 1, 0, none⟩)), (7, .pointer (some ⟨γ195 0, 0, none⟩)), (15, .pointer (some ⟨γ3 0, 0, none⟩)), (21, .int .i64 ((m : Nat)))]) (fun γ195 => [bx (γ195 0) (#[.slice none 0 0, .slice none 0 0]) 25, bx (γ3 1) (#[.slice none 0 0, .slice none 0 0]) 25, bx (γ3 0) (#[.slice p n cap, .slice q m capv]) 25, bx (γ1 2) (#[.slice none 0 0, .slice none 0 0]) 25, bx (γ1 1) (#[.int .i64 k]) 3, bx (γ1 0) (#[.slice p n cap, .slice q m capv]) 25]) ?_ (fun hmx5 => ?_)
   ·
    rintro γ195 _
    refine any_fork [1, 7] (by kernel_rfl) (by simp) (each_cons _ rfl ?_ (each_cons _ rfl ?_ (each_nil)))
    ·
     refine qo0 1 [(1, .go (owns 2 0 1))] [1, 2, 4, 7, 21] [(16, .slice p n cap)] ?_
     refine od_ ?_
     refine tk (m := 4) [2] [] [1, 2, 4, 7, 21] [(17, .int .i64 ((n : Nat)))] ([]) #[true, true, true, false, true, true, true, false, false, true, false] al0 ?_
     exact wk (hmx11 γ195 trivial) [1, 2, 4, 7, 17, 21] [[_], [_], [_], [_], [_], [_]] [0, 1, 2, 3, 4, 5] rfl rfl
    ·
     refine ops_make (T := 43) (ks := 4) (by_ := 24) (n := m) rfl (by kernel_rfl) (by kernel_rfl) (by kernel_rfl) (by kernel_rfl) (by kernel_rfl) (by omega) (by have hmx : maxLen = 9223372036854775807 := rfl; omega) (fun g155 c155 hc155 => ?_)
     refine od_ ?_
     exact wk (hmx10 (c155, g155, γ195) hc155) [1, 2, 4, 7, 15, 22] [[_], [_], [_], [_], [_], [_], [_]] [1, 0, 2, 3, 4, 5, 6] rfl rfl
   refine any_cutX (V := (Nat → Nat)) (fun γ195 => True) 6 #[true, true, true, false, true, false, false, false, false, true, false] (fun γ195 => [(1, .func (.func 55) #[] #[.pointer (some ⟨γ1 1, 0, none⟩)]), (2, .pointer (some ⟨γ3 0, 0, none⟩)), (4, .pointer (some ⟨γ3 1, 0, none⟩)), (7, .pointer (some ⟨γ195 0, 0, none⟩)), (17, .int .i64 ((n : Nat))), (19, .pointer (some ⟨γ3 0, 1, none⟩))]) (fun γ195 => [bx (γ195 0) (#[.slice none 0 0, .slice none 0 0]) 25, bx (γ3 1) (#[.slice none 0 0, .slice none 0 0]) 25, bx (γ3 0) (#[.slice p n cap, .slice q m capv]) 25, bx (γ1 2) (#[.slice none 0 0, .slice none 0 0]) 25, bx (γ1 1) (#[.int .i64 k]) 3, bx (γ1 0) (#[.slice p n cap, .slice q m capv]) 25]) ?_ (fun hmx4 => ?_)
   ·
    rintro γ195 _
    refine any_fork [3, 5] (by kernel_rfl) (by simp) (each_cons _ rfl ?_ (each_cons _ rfl ?_ (each_nil)))
    ·
     refine ops_make (T := 32) (ks := 4) (by_ := 32) (n := n) rfl (by kernel_rfl) (by kernel_rfl) (by kernel_rfl) (by kernel_rfl) (by kernel_rfl) (by omega) (by have hmx : maxLen = 9223372036854775807 := rfl; omega) (fun g75 c75 hc75 => ?_)
     refine od_ ?_
     exact wk (hmx9 (c75, g75, γ195) hc75) [1, 2, 4, 7, 18, 19] [[_], [_], [_], [_], [_], [_], [_]] [1, 0, 2, 3, 4, 5, 6] rfl rfl
    ·
     refine qo0 1 [(5, .go (owns 2 1 1))] [1, 2, 4, 7, 17] [(20, .slice q m capv)] ?_
     refine od_ ?_
     refine tk (m := 4) [6] [] [1, 2, 4, 7, 17] [(21, .int .i64 ((m : Nat)))] ([]) #[true, true, true, false, true, true, true, false, false, true, false] al0 ?_
     exact wk (hmx11 γ195 trivial) [1, 2, 4, 7, 17, 21] [[_], [_], [_], [_], [_], [_]] [0, 1, 2, 3, 4, 5] rfl rfl
   refine any_cutX (V := Unit) (fun _ => True) 7 #[true, false, false, false, true, true, true, false, false, false, false] (fun _ => [(1, .func (.func 55) #[] #[.pointer (some ⟨γ1 1, 0, none⟩)]), (2, .pointer (some ⟨γ3 0, 0, none⟩)), (4, .pointer (some ⟨γ3 1, 0, none⟩)), (15, .pointer (some ⟨γ3 0, 0, none⟩)), (21, .int .i64 ((m : Nat)))]) (fun _ => [bx (γ3 1) (#[.slice none 0 0, .slice none 0 0]) 25, bx (γ3 0) (#[.slice p n cap, .slice q m capv]) 25, bx (γ1 2) (#[.slice none 0 0, .slice none 0 0]) 25, bx (γ1 1) (#[.int .i64 k]) 3, bx (γ1 0) (#[.slice p n cap, .slice q m capv]) 25]) ?_ (fun hmx3 => ?_)
   ·
    rintro _ _
    refine any_fork [1, 7, 9] (by kernel_rfl) (by simp) (each_cons _ rfl ?_ (each_cons _ rfl ?_ (each_cons _ rfl ?_ (each_nil))))
    ·
     refine qo0 1 [(1, .go (owns 1 0 1))] [1, 2, 4, 21] [(16, .slice p n cap)] ?_
     refine od_ ?_
     refine tk (m := 5) [2] [] [1, 2, 4, 21] [(17, .int .i64 ((n : Nat)))] ([]) #[true, true, true, false, true, true, true, false, false, false, false] al0 ?_
     exact wk (hmx8 () trivial) [1, 2, 4, 17, 21] [[_], [_], [_], [_], [_]] [0, 1, 2, 3, 4] rfl rfl
    ·
     refine ops_make (T := 43) (ks := 4) (by_ := 24) (n := m) rfl (by kernel_rfl) (by kernel_rfl) (by kernel_rfl) (by kernel_rfl) (by kernel_rfl) (by omega) (by have hmx : maxLen = 9223372036854775807 := rfl; omega) (fun g155 c155 hc155 => ?_)
     refine od_ ?_
     exact wk (hmx7 (c155, g155) hc155) [1, 2, 4, 15, 22] [[_], [_], [_], [_], [_], [_]] [0, 1, 2, 3, 4, 5] rfl rfl
    ·
     refine mo0 1 [] [1, 2, 4, 15, 21] (fun γ195 => [(7, .pointer (some ⟨γ195 0, 0, none⟩))]) (fun γ195 L => bx (γ195 0) (#[.slice none 0 0, .slice none 0 0]) 25 :: L) (fun γ195 => ?_)
     refine od_ ?_
     exact wk (hmx5 γ195 trivial) [1, 2, 4, 7, 15, 21] [[_], [_], [_], [_], [_], [_]] [0, 1, 2, 3, 4, 5] rfl rfl
   refine any_cutX (V := Unit) (fun _ => True) 7 #[true, true, true, false, true, false, false, false, false, false, false] (fun _ => [(1, .func (.func 55) #[] #[.pointer (some ⟨γ1 1, 0, none⟩)]), (2, .pointer (some ⟨γ3 0, 0, none⟩)), (4, .pointer (some ⟨γ3 1, 0, none⟩)), (17, .int .i64 ((n : Nat))), (19, .pointer (some ⟨γ3 0, 1, none⟩))]) (fun _ => [bx (γ3 1) (#[.slice none 0 0, .slice none 0 0]) 25, bx (γ3 0) (#[.slice p n cap, .slice q m capv]) 25, bx (γ1 2) (#[.slice none 0 0, .slice none 0 0]) 25, bx (γ1 1) (#[.int .i64 k]) 3, bx (γ1 0) (#[.slice p n cap, .slice q m capv]) 25]) ?_ (fun hmx2 => ?_)
   ·
    rintro _ _
    refine any_fork [3, 5, 9] (by kernel_rfl) (by simp) (each_cons _ rfl ?_ (each_cons _ rfl ?_ (each_cons _ rfl ?_ (each_nil))))
    ·
     refine ops_make (T := 32) (ks := 4) (by_ := 32) (n := n) rfl (by kernel_rfl) (by kernel_rfl) (by kernel_rfl) (by kernel_rfl) (by kernel_rfl) (by omega) (by have hmx : maxLen = 9223372036854775807 := rfl; omega) (fun g75 c75 hc75 => ?_)
     refine od_ ?_
     exact wk (hmx6 (c75, g75) hc75) [1, 2, 4, 18, 19] [[_], [_], [_], [_], [_], [_]] [0, 1, 2, 3, 4, 5] rfl rfl
    ·
     refine qo0 1 [(5, .go (owns 1 1 1))] [1, 2, 4, 17] [(20, .slice q m capv)] ?_
     refine od_ ?_
     refine tk (m := 5) [6] [] [1, 2, 4, 17] [(21, .int .i64 ((m : Nat)))] ([]) #[true, true, true, false, true, true, true, false, false, false, false] al0 ?_
     exact wk (hmx8 () trivial) [1, 2, 4, 17, 21] [[_], [_], [_], [_], [_]] [0, 1, 2, 3, 4] rfl rfl
    ·
     refine mo0 1 [] [1, 2, 4, 17, 19] (fun γ195 => [(7, .pointer (some ⟨γ195 0, 0, none⟩))]) (fun γ195 L => bx (γ195 0) (#[.slice none 0 0, .slice none 0 0]) 25 :: L) (fun γ195 => ?_)
     refine od_ ?_
     exact wk (hmx4 γ195 trivial) [1, 2, 4, 7, 17, 19] [[_], [_], [_], [_], [_], [_]] [0, 1, 2, 3, 4, 5] rfl rfl
   refine any_cutX (V := (Nat → Nat)) (fun γ195 => True) 8 #[true, false, false, false, true, false, false, false, false, true, false] (fun γ195 => [(1, .func (.func 55) #[] #[.pointer (some ⟨γ1 1, 0, none⟩)]), (2, .pointer (some ⟨γ3 0, 0, none⟩)), (4, .pointer (some ⟨γ3 1, 0, none⟩)), (7, .pointer (some ⟨γ195 0, 0, none⟩)), (15, .pointer (some ⟨γ3 0, 0, none⟩)), (19, .pointer (some ⟨γ3 0, 1, none⟩))]) (fun γ195 => [bx (γ195 0) (#[.slice none 0 0, .slice none 0 0]) 25, bx (γ3 1) (#[.slice none 0 0, .slice none 0 0]) 25, bx (γ3 0) (#[.slice p n cap, .slice q m capv]) 25, bx (γ1 2) (#[.slice none 0 0, .slice none 0 0]) 25, bx (γ1 1) (#[.int .i64 k]) 3, bx (γ1 0) (#[.slice p n cap, .slice q m capv]) 25]) ?_ (fun hmx1 => ?_)
   ·
    rintro γ195 _
    refine any_fork [1, 5] (by kernel_rfl) (by simp) (each_cons _ rfl ?_ (each_cons _ rfl ?_ (each_nil)))
    ·
     refine qo0 1 [(1, .go (owns 2 0 1))] [1, 2, 4, 7, 19] [(16, .slice p n cap)] ?_
     refine od_ ?_
     refine tk (m := 6) [2] [] [1, 2, 4, 7, 19] [(17, .int .i64 ((n : Nat)))] ([]) #[true, true, true, false, true, false, false, false, false, true, false] al0 ?_
     exact wk (hmx4 γ195 trivial) [1, 2, 4, 7, 17, 19] [[_], [_], [_], [_], [_], [_]] [0, 1, 2, 3, 4, 5] rfl rfl
    ·
     refine qo0 1 [(5, .go (owns 2 1 1))] [1, 2, 4, 7, 15] [(20, .slice q m capv)] ?_
     refine od_ ?_
     refine tk (m := 6) [6] [] [1, 2, 4, 7, 15] [(21, .int .i64 ((m : Nat)))] ([]) #[true, false, false, false, true, true, true, false, false, true, false] al0 ?_
     exact wk (hmx5 γ195 trivial) [1, 2, 4, 7, 15, 21] [[_], [_], [_], [_], [_], [_]] [0, 1, 2, 3, 4, 5] rfl rfl
   refine any_fork [1, 5, 9] (by kernel_rfl) (by simp) (each_cons _ rfl ?_ (each_cons _ rfl ?_ (each_cons _ rfl ?_ (each_nil))))
   ·
    refine qo0 1 [(1, .go (owns 1 0 1))] [1, 2, 4, 19] [(16, .slice p n cap)] ?_
    refine od_ ?_
    refine tk (m := 7) [2] [] [1, 2, 4, 19] [(17, .int .i64 ((n : Nat)))] ([]) #[true, true, true, false, true, false, false, false, false, false, false] al0 ?_
    exact wk (hmx2 () trivial) [1, 2, 4, 17, 19] [[_], [_], [_], [_], [_]] [0, 1, 2, 3, 4] rfl rfl
   ·
    refine qo0 1 [(5, .go (owns 1 1 1))] [1, 2, 4, 15] [(20, .slice q m capv)] ?_
    refine od_ ?_
    refine tk (m := 7) [6] [] [1, 2, 4, 15] [(21, .int .i64 ((m : Nat)))] ([]) #[true, false, false, false, true, true, true, false, false, false, false] al0 ?_
    exact wk (hmx3 () trivial) [1, 2, 4, 15, 21] [[_], [_], [_], [_], [_]] [0, 1, 2, 3, 4] rfl rfl
   ·
    refine mo0 1 [] [1, 2, 4, 15, 19] (fun γ195 => [(7, .pointer (some ⟨γ195 0, 0, none⟩))]) (fun γ195 L => bx (γ195 0) (#[.slice none 0 0, .slice none 0 0]) 25 :: L) (fun γ195 => ?_)
    refine od_ ?_
    exact wk (hmx1 γ195 trivial) [1, 2, 4, 7, 15, 19] [[_], [_], [_], [_], [_], [_]] [0, 1, 2, 3, 4, 5] rfl rfl
  rintro ⟨c155, c75, g155, g75, γ195⟩ ⟨hc155, hc75⟩
  refine any_nil (by kernel_rfl) ?_
  refine ds_ (sq_ (ao_ (qo0 4 [(1, .go (owns 0 0 1)), (3, .go (owns 4 0 1))] [1, 2, 4, 7] [(25, .slice (some ⟨g75, 0, none⟩) n n), (27, .slice p n cap)] (ops_copy 2 rfl (by kernel_rfl) (by kernel_rfl) (g := g75) (of := 0) (dn := n) (dc := n) (m := n) (cnt := n) (c := c75) (yv := (.slice p n cap)) (ds.flatMap Enc.enc) (by kernel_rfl) (by kernel_rfl) (T := 32) (ks := 4) (by_ := 32) (by kernel_rfl) (T' := 32) (by kernel_rfl) len_slice (by omega) (fun w hw => by have := first_sv (P := Try.prog) (w := w) (p := p) (m := n) (cap := cap) (cnt := n) (hds.kept hw.below) (by omega); rw [List.take_of_length_le (by omega)] at this; exact this) (by first | (rw [flat_len, Nat.zero_add, hc75, ← hn]; exact Nat.le_refl _) | (rw [flat_len, Nat.zero_add, hc75, ← hn])) (flat_one ds) ?_))))
  have hOw303 := OwnS.filled (l := ds) (n := n) hc75 hn (by have hmx : maxLen = 9223372036854775807 := rfl; omega)
  have hO303 := SlO.ofOwn (T := 32) (g := g75) hOw303 hn
  refine on_ (ds_ (sq_ (ao_ (qo0 4 [(1, .go (owns 0 1 1)), (3, .go (owns 4 1 1))] [1, 4, 7] [(30, .slice (some ⟨g155, 0, none⟩) m m), (32, .slice q m capv)] (ops_copy 1 rfl (by kernel_rfl) (by kernel_rfl) (g := g155) (of := 0) (dn := m) (dc := m) (m := m) (cnt := m) (c := c155) (yv := (.slice q m capv)) (vs.flatMap Enc.enc) (by kernel_rfl) (by kernel_rfl) (T := 43) (ks := 4) (by_ := 24) (by kernel_rfl) (T' := 43) (by kernel_rfl) len_slice (by omega) (fun w hw => by have := first_sv (P := Try.prog) (w := w) (p := q) (m := m) (cap := capv) (cnt := m) (hvs.kept hw.below) (by omega); rw [List.take_of_length_le (by omega)] at this; exact this) (by first | (rw [flat_len, Nat.zero_add, hc155, ← hm]; exact Nat.le_refl _) | (rw [flat_len, Nat.zero_add, hc155, ← hm])) (flat_one vs) ?_)))))
  have hOw306 := OwnS.filled (l := vs) (n := m) hc155 hm (by have hmx : maxLen = 9223372036854775807 := rfl; omega)
  have hO306 := SlO.ofOwn (T := 43) (g := g155) hOw306 hm
  refine on_ (ds_ (sq_ (sq_ (ao_ (qo0 1 [] [4, 7] [(34, .func (.func 55) #[] #[.pointer (some ⟨γ1 1, 0, none⟩)])] (ops_inline (g := 55) (args := #[.pointer (some ⟨γ195 0, 0, none⟩), .pointer (some ⟨γ1 1, 0, none⟩)]) (by kernel_rfl) (by kernel_rfl) (by kernel_rfl) (fun args w => Try.call55 args w) Try.func55 rfl Try.ntmps55 rfl (sq_ (qa0 [] [0, 1] [] (ds_ (sq_ ?_))))))))))
  refine at_calm rfl (by kernel_rfl) (by kernel_rfl) ?_
  refine cm 5 [(3, .go (owns 0 1 1)), (4, .go (owns 6 0 1))] [0] [(10, .slice (some ⟨g155, 0, none⟩) m m), (11, .int .i64 k)] ([]) (by kernel_rfl) rfl al0 ?_
  rcases hg311 : getK Vcp.id vs k with _ | y311
  ·
   have hpl311 := (pos_cut (k := k) (guests_iff.1 q5).vr).2.2
   refine cK (.tuple #[.int .i64 ((posK Vcp.id vs k : Nat)), .bool false]) Try.call56 (fun w hw => by have := placev_d (some ⟨g155, 0, none⟩) m m vs k w (hO306.atN (A := [_]) hw) hm (by omega) (guests_iff.1 q5).vr; rw [hasK_none hg311] at this; exact this) ?_
   refine cm 5 [] [0] [(4, .int .i64 ((posK Vcp.id vs k : Nat))), (5, .bool false)] ([]) (by kernel_rfl) rfl al0 ?_
   refine calm_nil' ?_
   refine ds_ (sq_ (sq_ (qa0 [] [0, 4] [(16, .bool true)] (ds_ (t_ (sq_ (qa0 [] [] [(3, .int .i64 4)] (ds_ (bk ([]) (.int .i64 4) (qo0 1 [] [4, 7] [(8, .int .i64 4)] (on_ (ds_ (sq_ (qa0 [] [4, 7, 8] [(37, .bool true)] (ds_ (t_ (sq_ (qa0 [(2, .go (owns 3 0 2))] [4] [(5, .int .i64 4)] (ds_ (bk (owns 3 0 2) (.tuple #[.agg #[.slice none 0 0, .slice none 0 0], .int .i64 4]) (qo0 4 [(5, .go (owns 5 0 2))] [4] [(5, .int .i64 4)] (on_ (ds_ (rt (owns 5 0 2) (.tuple #[.agg #[.slice none 0 0, .slice none 0 0], .int .i64 4]) ?_))))))))))))))))))))))))
   exact fun w' hw => by rw [dropV_none q5 hg311]; exact ⟨none, 0, 0, [], none, 0, 0, [], rfl, SlO.nil, SlO.nil, hw.below, hw.sub (List.nil_sublist _)⟩
  ·
   have hp_y311 := pos_getK (guests_iff.1 q5).vr hg311
   have hl_y311 := (List.getElem?_eq_some_iff.1 hp_y311).1
   refine cK (.tuple #[.int .i64 ((posK Vcp.id vs k : Nat)), .bool true]) Try.call56 (fun w hw => by have := placev_d (some ⟨g155, 0, none⟩) m m vs k w (hO306.atN (A := [_]) hw) hm (by omega) (guests_iff.1 q5).vr; rw [hasK_some hg311] at this; exact this) ?_
   refine cm 5 [] [0] [(4, .int .i64 ((posK Vcp.id vs k : Nat))), (5, .bool true)] ([]) (by kernel_rfl) rfl al0 ?_
   refine calm_nil' ?_
   refine ds_ (sq_ (sq_ (qa0 [] [0, 4] [(16, .bool false)] (ds_ (f_ (at_skip (ds_ (sq_ (ao_ (qo 8 [(4, .go (owns 0 1 1)), (7, .fit)] [] [(17, .pointer (some ⟨γ195 0, 0, none⟩)), (21, .slice (some ⟨g155, 0, none⟩) m m), (22, .int .i64 ((posK Vcp.id vs k : Nat))), (24, .int .i64 ((posK Vcp.id vs k + 1 : Nat)))] ([Fit .i64 ((posK Vcp.id vs k + 1 : Nat))]) (al1 (fit64 (by omega) (by omega))) (Ops.pick [[bx (γ195 0) (#[.slice (some ⟨g75, 0, none⟩) n n, .slice (some ⟨g155, 0, none⟩) m m]) 25], [bx g155 ((sets c155 0 (vs.flatMap Enc.enc))) 43], [bx g75 ((sets c75 0 (ds.flatMap Enc.enc))) 32], [bx (γ3 1) (#[.slice none 0 0, .slice none 0 0]) 25], [bx (γ3 0) (#[.slice p n cap, .slice q m capv]) 25], [bx (γ1 2) (#[.slice none 0 0, .slice none 0 0]) 25], [bx (γ1 1) (#[.int .i64 k]) 3], [bx (γ1 0) (#[.slice p n cap, .slice q m capv]) 25]] [1, 0, 2, 3, 4, 5, 6, 7] [] ([bx g155 ((sets c155 0 (vs.flatMap Enc.enc))) 43, bx (γ195 0) (#[.slice (some ⟨g75, 0, none⟩) n n, .slice (some ⟨g155, 0, none⟩) m m]) 25, bx g75 ((sets c75 0 (ds.flatMap Enc.enc))) 32, bx (γ3 1) (#[.slice none 0 0, .slice none 0 0]) 25, bx (γ3 0) (#[.slice p n cap, .slice q m capv]) 25, bx (γ1 2) (#[.slice none 0 0, .slice none 0 0]) 25, bx (γ1 1) (#[.int .i64 k]) 3, bx (γ1 0) (#[.slice p n cap, .slice q m capv]) 25]) (by kernel_rfl) rfl rfl (cP (fun v L' => ∃ q_ c_ Y_, v = .slice q_ ((posK Vcp.id vs k) + (m - (posK Vcp.id vs k + 1))) c_ ∧ L' = [bx (γ195 0) (#[.slice (some ⟨g75, 0, none⟩) n n, .slice (some ⟨g155, 0, none⟩) m m]) 25, bx g75 ((sets c75 0 (ds.flatMap Enc.enc))) 32, bx (γ3 1) (#[.slice none 0 0, .slice none 0 0]) 25, bx (γ3 0) (#[.slice p n cap, .slice q m capv]) 25, bx (γ1 2) (#[.slice none 0 0, .slice none 0 0]) 25, bx (γ1 1) (#[.int .i64 k]) 3, bx (γ1 0) (#[.slice p n cap, .slice q m capv]) 25] ++ (Y_ ++ []) ∧ SlO 43 Y_ q_ ((posK Vcp.id vs k) + (m - (posK Vcp.id vs k + 1))) c_ (vs.take (posK Vcp.id vs k) ++ vs.drop (posK Vcp.id vs k + 1))) Try.call57 (fun w hw => (deleteV_d _ ([bx (γ195 0) (#[.slice (some ⟨g75, 0, none⟩) n n, .slice (some ⟨g155, 0, none⟩) m m]) 25, bx g75 ((sets c75 0 (ds.flatMap Enc.enc))) 32, bx (γ3 1) (#[.slice none 0 0, .slice none 0 0]) 25, bx (γ3 0) (#[.slice p n cap, .slice q m capv]) 25, bx (γ1 2) (#[.slice none 0 0, .slice none 0 0]) 25, bx (γ1 1) (#[.int .i64 k]) 3, bx (γ1 0) (#[.slice p n cap, .slice q m capv]) 25] ++ []) [bx g155 ((sets c155 0 (vs.flatMap Enc.enc))) 43] (some ⟨g155, 0, none⟩) m m vs (posK Vcp.id vs k) (posK Vcp.id vs k + 1) w hw hO306 (by omega) (by omega) (by omega)).mono fun e w' ⟨q_, c_, Y_, he, hO, hY⟩ => ⟨_, _, he, ⟨q_, c_, Y_, rfl, rfl, hO⟩, hY.push⟩) ?_))))))))))))
   rintro v322 L322 ⟨q322, cq322, Y322, rfl, rfl, hO322⟩
   refine mo0 3 [(11, .go (owns 0 1 1))] [] (fun _ => []) (fun _ L => (L.set 0 (bx (γ195 0) (#[.slice (some ⟨g75, 0, none⟩) n n, .slice q322 ((posK Vcp.id vs k) + (m - (posK Vcp.id vs k + 1))) cq322]) 25))) (fun _ => on_ (ds_ (sq_ (qa0 [] [] [(3, .int .i64 0)] (ds_ (bk ([]) (.int .i64 0) (qo0 1 [] [4, 7] [(8, .int .i64 0)] (on_ (ds_ (sq_ (qa0 [] [4, 7, 8] [(37, .bool false)] (ds_ (f_ (at_skip (ds_ (sq_ (ma0 [(0, .go (owns 0 0 2)), (1, .go (owns 2 0 2))] [4] (fun _ => [(5, .int .i64 0)]) (fun _ L => (L.set 2 (bx (γ3 1) (#[.slice (some ⟨g75, 0, none⟩) n n, .slice q322 ((posK Vcp.id vs k) + (m - (posK Vcp.id vs k + 1))) cq322]) 25))) (fun _ => ds_ (bk (owns 2 0 2) (.tuple #[.agg #[.slice (some ⟨g75, 0, none⟩) n n, .slice q322 ((posK Vcp.id vs k) + (m - (posK Vcp.id vs k + 1))) cq322], .int .i64 0]) (mo0 4 [(5, .go (owns 4 0 2))] [4] (fun _ => [(5, .int .i64 0)]) (fun _ L => (L.set 4 (bx (γ1 2) (#[.slice (some ⟨g75, 0, none⟩) n n, .slice q322 ((posK Vcp.id vs k) + (m - (posK Vcp.id vs k + 1))) cq322]) 25))) (fun _ => on_ (ds_ (rt (owns 4 0 2) (.tuple #[.agg #[.slice (some ⟨g75, 0, none⟩) n n, .slice q322 ((posK Vcp.id vs k) + (m - (posK Vcp.id vs k + 1))) cq322], .int .i64 0]) ?_)))))))))))))))))))))))
   exact fun w' hw => by rw [dropV_ok q5 hg311]; exact ⟨_, _, _, _, _, _, _, _, rfl, hO303, hO322, hw.below, two_tails (Hs.pick [[bx (γ195 0) (#[.slice (some ⟨g75, 0, none⟩) n n, .slice q322 ((posK Vcp.id vs k) + (m - (posK Vcp.id vs k + 1))) cq322]) 25], [bx g75 ((sets c75 0 (ds.flatMap Enc.enc))) 32], [bx (γ3 1) (#[.slice (some ⟨g75, 0, none⟩) n n, .slice q322 ((posK Vcp.id vs k) + (m - (posK Vcp.id vs k + 1))) cq322]) 25], [bx (γ3 0) (#[.slice p n cap, .slice q m capv]) 25], [bx (γ1 2) (#[.slice (some ⟨g75, 0, none⟩) n n, .slice q322 ((posK Vcp.id vs k) + (m - (posK Vcp.id vs k + 1))) cq322]) 25], [bx (γ1 1) (#[.int .i64 k]) 3], [bx (γ1 0) (#[.slice p n cap, .slice q m capv]) 25], Y322] [1, 7] [0, 2, 3, 4, 5, 6] (by kernel_rfl) hw)⟩
end Go.Proofs.Ytnoefldpkfpglaa
