/- Texts of this proof, one behind the other. -/
import Derived.Test.YtdbamgbgnpadjaaGreatZc
import Derived.Test.YtdbamgbgnpadjaaGreatZd
import Derived.Test.YtdbamgbgnpadjaaGreatZa
/-! Alarms: Pass. -/
namespace Go.Proofs.YtdbamgbgnpadjaaGreat
open Go Go.RowKit
theorem three_tails {w0 w : World} {Y X Z : List Ob} (h : Hs w0 (Y ++ (X ++ (Z ++ []))) w) : Hs w0 (Y ++ (X ++ Z)) w := by rwa [List.append_nil] at h

set_option maxRecDepth 100000 in
theorem apass_t (now : Int) (p : Option Addr) (n cap : Nat) (ts : List Tim) (pa : Option Addr) (na ca : Nat) (rs : List Alm) (to : Int) (w : World)
 (hts : Sv w p ts) (hn : n = ts.length) (hb : n ≤ 1000)
 (hrs : Sv w pa rs) (hna : na = rs.length) (hba : na ≤ 1000)
 : Calls Tryz.prog 12 #[.agg #[.int .i64 now, .slice p n cap, .slice pa na ca], .int .i64 to] w fun e w' => ∃ q m c Y q2 m2 c2 X q3 m3 c3 Z, e = .returned (.tuple #[.agg #[.int .i64 (passA now ts rs to).1, .slice q m c, .slice q2 m2 c2], .slice q3 m3 c3, .int .i64 (passA now ts rs to).2.2.2]) ∧ SlO 42 Y q m c (passA now ts rs to).2.1 ∧ SlO 32 X q2 m2 c2 (passA now ts rs to).2.2.1 ∧ SlO 50 Z q3 m3 c3 (passR now ts rs to) ∧ Below w.heap.size w w' ∧ Hs w (Y ++ (X ++ Z)) w' := by
 refine enter (Hs.start w) Tryz.func12 rfl Tryz.ntmps12 rfl (sq_ (ma0 [] [] (fun γ1 => [(2, .pointer (some ⟨γ1 0, 0, none⟩)), (3, .pointer (some ⟨γ1 1, 0, none⟩)), (4, .pointer (some ⟨γ1 2, 0, none⟩))]) (fun γ1 L => bx (γ1 2) (#[.int .i64 0, .slice none 0 0, .slice none 0 0]) 27 :: bx (γ1 1) (#[.int .i64 to]) 2 :: bx (γ1 0) (#[.int .i64 now, .slice p n cap, .slice pa na ca]) 27 :: L) (fun γ1 => ds_ (sq_ (ma0 [] [2, 3, 4] (fun γ2 => [(7, .pointer (some ⟨γ2 0, 0, none⟩))]) (fun γ2 L => bx (γ2 0) (#[.slice none 0 0]) 35 :: L) (fun γ2 => ds_ (sq_ (ao_ (qo0 2 [(0, .go (owns 3 0 3))] [4, 7] [(11, .agg #[.int .i64 now, .slice p n cap, .slice pa na ca]), (12, .func (.func 32) #[] #[.pointer (some ⟨γ1 1, 0, none⟩), .pointer (some ⟨γ2 0, 0, none⟩)])] (ops_inline (g := 25) (args := #[.agg #[.int .i64 now, .slice p n cap, .slice pa na ca], .int .i64 1, .func (.func 32) #[] #[.pointer (some ⟨γ1 1, 0, none⟩), .pointer (some ⟨γ2 0, 0, none⟩)]]) (by kernel_rfl) (by kernel_rfl) (by kernel_rfl) (fun args w => Tryz.call25 args w) Tryz.func25 rfl Tryz.ntmps25 rfl (sq_ (ma0 [] [1, 2] (fun γ4 => [(3, .pointer (some ⟨γ4 0, 0, none⟩)), (6, .pointer (some ⟨γ4 1, 0, none⟩))]) (fun γ4 L => bx (γ4 1) (#[.int .i64 0, .slice none 0 0, .slice none 0 0]) 27 :: bx (γ4 0) (#[.int .i64 now, .slice p n cap, .slice pa na ca]) 27 :: L) (fun γ4 => ds_ (sq_ (sq_ (ao_ (qo0 1 [(0, .go (owns 1 0 3))] [1, 2, 3, 6] [(11, .agg #[.int .i64 now, .slice p n cap, .slice pa na ca])] ?_)))))))))))))))))
 rcases q6 : alB now ts rs with _ | _
 ·
  refine cD (.int .i64 280) (fun args w => Tryz.call36 args w) (fun w hw => by have := acheck_t now p n cap ts pa na ca rs w (hts.kept hw.below) hn (by omega) (hrs.kept hw.below) hna (by omega); rw [q6] at this; exact this) (qo0 1 [] [1, 2, 3, 6] [(8, .int .i64 280)] (on_ (ds_ (sq_ (qa0 [] [1, 2, 3, 6, 8] [(14, .bool true)] (ds_ (t_ (sq_ (qa0 [(2, .go (owns 0 0 3))] [6] [(7, .int .i64 280)] (ds_ (bk (owns 0 0 3) (.tuple #[.agg #[.int .i64 0, .slice none 0 0, .slice none 0 0], .int .i64 280]) (mo0 6 [(7, .go (owns 0 0 3))] [4, 7] (fun γ10 => [(8, .pointer (some ⟨γ10 0, 0, none⟩)), (9, .int .i64 280)]) (fun γ10 L => bx (γ10 0) (#[.int .i64 0, .slice none 0 0, .slice none 0 0]) 27 :: L) (fun γ10 => on_ (ds_ (sq_ ?_)))))))))))))))
  refine at_any (by kernel_rfl) ?_
  refine tk (m := 5) [2] [] [4, 7, 8] [(18, .int .i64 280)] ([]) #[false, false, true, false, false, false] al0 ?_
  refine any_cutX (V := Unit) (fun _ => True) 0 #[true, true, true, true, true, true] (fun _ => [(4, .pointer (some ⟨γ1 2, 0, none⟩)), (5, .slice none 0 0), (6, .int .i64 280)]) (fun _ => [bx (γ10 0) (#[.int .i64 0, .slice none 0 0, .slice none 0 0]) 27, bx (γ4 1) (#[.int .i64 0, .slice none 0 0, .slice none 0 0]) 27, bx (γ4 0) (#[.int .i64 now, .slice p n cap, .slice pa na ca]) 27, bx (γ2 0) (#[.slice none 0 0]) 35, bx (γ1 2) (#[.int .i64 0, .slice none 0 0, .slice none 0 0]) 27, bx (γ1 1) (#[.int .i64 to]) 2, bx (γ1 0) (#[.int .i64 now, .slice p n cap, .slice pa na ca]) 27]) ?_ (fun hmx5 => ?_)
  rotate_left
  ·
   refine any_cutX (V := Unit) (fun _ => True) 3 #[true, false, true, true, false, false] (fun _ => [(4, .pointer (some ⟨γ1 2, 0, none⟩)), (7, .pointer (some ⟨γ2 0, 0, none⟩)), (18, .int .i64 280)]) (fun _ => [bx (γ10 0) (#[.int .i64 0, .slice none 0 0, .slice none 0 0]) 27, bx (γ4 1) (#[.int .i64 0, .slice none 0 0, .slice none 0 0]) 27, bx (γ4 0) (#[.int .i64 now, .slice p n cap, .slice pa na ca]) 27, bx (γ2 0) (#[.slice none 0 0]) 35, bx (γ1 2) (#[.int .i64 0, .slice none 0 0, .slice none 0 0]) 27, bx (γ1 1) (#[.int .i64 to]) 2, bx (γ1 0) (#[.int .i64 now, .slice p n cap, .slice pa na ca]) 27]) ?_ (fun hmx4 => ?_)
   ·
    rintro _ _
    refine a1 1 rfl ?_
    refine qo0 1 [(1, .go (owns 3 0 1))] [4, 18] [(17, .slice none 0 0)] ?_
    refine od_ ?_
    refine tk (m := 0) [4, 5] [] [4] [(5, .slice none 0 0), (6, .int .i64 280)] ([]) #[true, true, true, true, true, true] al0 ?_
    exact wk (hmx5 () trivial) [4, 5, 6] [[_], [_], [_], [_], [_], [_], [_]] [0, 1, 2, 3, 4, 5, 6] rfl rfl
   refine any_cutX (V := Unit) (fun _ => True) 3 #[true, true, true, false, false, false] (fun _ => [(4, .pointer (some ⟨γ1 2, 0, none⟩)), (16, .agg #[.int .i64 0, .slice none 0 0, .slice none 0 0]), (17, .slice none 0 0), (18, .int .i64 280)]) (fun _ => [bx (γ10 0) (#[.int .i64 0, .slice none 0 0, .slice none 0 0]) 27, bx (γ4 1) (#[.int .i64 0, .slice none 0 0, .slice none 0 0]) 27, bx (γ4 0) (#[.int .i64 now, .slice p n cap, .slice pa na ca]) 27, bx (γ2 0) (#[.slice none 0 0]) 35, bx (γ1 2) (#[.int .i64 0, .slice none 0 0, .slice none 0 0]) 27, bx (γ1 1) (#[.int .i64 to]) 2, bx (γ1 0) (#[.int .i64 now, .slice p n cap, .slice pa na ca]) 27]) ?_ (fun hmx3 => ?_)
   ·
    rintro _ _
    refine a1 3 rfl ?_
    refine qo0 1 [(3, .go (owns 4 0 3))] [4, 17, 18] [] ?_
    refine od_ ?_
    refine tk (m := 0) [4, 5] [] [4] [(5, .slice none 0 0), (6, .int .i64 280)] ([]) #[true, true, true, true, true, true] al0 ?_
    exact wk (hmx5 () trivial) [4, 5, 6] [[_], [_], [_], [_], [_], [_], [_]] [0, 1, 2, 3, 4, 5, 6] rfl rfl
   refine any_cutX (V := Unit) (fun _ => True) 4 #[false, true, true, false, false, false] (fun _ => [(4, .pointer (some ⟨γ1 2, 0, none⟩)), (8, .pointer (some ⟨γ10 0, 0, none⟩)), (17, .slice none 0 0), (18, .int .i64 280)]) (fun _ => [bx (γ10 0) (#[.int .i64 0, .slice none 0 0, .slice none 0 0]) 27, bx (γ4 1) (#[.int .i64 0, .slice none 0 0, .slice none 0 0]) 27, bx (γ4 0) (#[.int .i64 now, .slice p n cap, .slice pa na ca]) 27, bx (γ2 0) (#[.slice none 0 0]) 35, bx (γ1 2) (#[.int .i64 0, .slice none 0 0, .slice none 0 0]) 27, bx (γ1 1) (#[.int .i64 to]) 2, bx (γ1 0) (#[.int .i64 now, .slice p n cap, .slice pa na ca]) 27]) ?_ (fun hmx2 => ?_)
   ·
    rintro _ _
    refine a1 0 rfl ?_
    refine qo0 1 [(0, .go (owns 0 0 3))] [4, 17, 18] [(16, .agg #[.int .i64 0, .slice none 0 0, .slice none 0 0])] ?_
    refine od_ ?_
    exact wk (hmx3 () trivial) [4, 16, 17, 18] [[_], [_], [_], [_], [_], [_], [_]] [0, 1, 2, 3, 4, 5, 6] rfl rfl
   refine any_cutX (V := Unit) (fun _ => True) 4 #[true, false, true, false, false, false] (fun _ => [(4, .pointer (some ⟨γ1 2, 0, none⟩)), (7, .pointer (some ⟨γ2 0, 0, none⟩)), (16, .agg #[.int .i64 0, .slice none 0 0, .slice none 0 0]), (18, .int .i64 280)]) (fun _ => [bx (γ10 0) (#[.int .i64 0, .slice none 0 0, .slice none 0 0]) 27, bx (γ4 1) (#[.int .i64 0, .slice none 0 0, .slice none 0 0]) 27, bx (γ4 0) (#[.int .i64 now, .slice p n cap, .slice pa na ca]) 27, bx (γ2 0) (#[.slice none 0 0]) 35, bx (γ1 2) (#[.int .i64 0, .slice none 0 0, .slice none 0 0]) 27, bx (γ1 1) (#[.int .i64 to]) 2, bx (γ1 0) (#[.int .i64 now, .slice p n cap, .slice pa na ca]) 27]) ?_ (fun hmx1 => ?_)
   ·
    rintro _ _
    refine any_fork [1, 3] (by kernel_rfl) (by simp) (each_cons _ rfl ?_ (each_cons _ rfl ?_ (each_nil)))
    ·
     refine qo0 1 [(1, .go (owns 3 0 1))] [4, 16, 18] [(17, .slice none 0 0)] ?_
     refine od_ ?_
     exact wk (hmx3 () trivial) [4, 16, 17, 18] [[_], [_], [_], [_], [_], [_], [_]] [0, 1, 2, 3, 4, 5, 6] rfl rfl
    ·
     refine qo0 1 [(3, .go (owns 4 0 3))] [4, 7, 18] [] ?_
     refine od_ ?_
     exact wk (hmx4 () trivial) [4, 7, 18] [[_], [_], [_], [_], [_], [_], [_]] [0, 1, 2, 3, 4, 5, 6] rfl rfl
   refine any_fork [0, 1] (by kernel_rfl) (by simp) (each_cons _ rfl ?_ (each_cons _ rfl ?_ (each_nil)))
   ·
    refine qo0 1 [(0, .go (owns 0 0 3))] [4, 7, 18] [(16, .agg #[.int .i64 0, .slice none 0 0, .slice none 0 0])] ?_
    refine od_ ?_
    exact wk (hmx1 () trivial) [4, 7, 16, 18] [[_], [_], [_], [_], [_], [_], [_]] [0, 1, 2, 3, 4, 5, 6] rfl rfl
   ·
    refine qo0 1 [(1, .go (owns 3 0 1))] [4, 8, 18] [(17, .slice none 0 0)] ?_
    refine od_ ?_
    exact wk (hmx2 () trivial) [4, 8, 17, 18] [[_], [_], [_], [_], [_], [_], [_]] [0, 1, 2, 3, 4, 5, 6] rfl rfl
  rintro _ _
  refine any_nil (by kernel_rfl) ?_
  refine ds_ (rt (owns 4 0 3) (.tuple #[.agg #[.int .i64 0, .slice none 0 0, .slice none 0 0], .slice none 0 0, .int .i64 280]) ?_)
  exact fun w' hw => by rw [passA_bad q6, passR_bad q6]; exact ⟨none, 0, 0, [], none, 0, 0, [], none, 0, 0, [], rfl, SlO.nil, SlO.nil, SlO.nil, hw.below, hw.sub (List.nil_sublist _)⟩
 ·
  refine cD (.int .i64 0) (fun args w => Tryz.call36 args w) (fun w hw => by have := acheck_t now p n cap ts pa na ca rs w (hts.kept hw.below) hn (by omega) (hrs.kept hw.below) hna (by omega); rw [q6] at this; exact this) (qo0 1 [] [1, 2, 3, 6] [(8, .int .i64 0)] (on_ (ds_ (sq_ (qa0 [] [1, 2, 3, 6, 8] [(14, .bool false)] (ds_ (f_ (at_skip (ds_ (sq_ (sq_ (ao_ (qo0 1 [] [2, 3, 6] [(17, .int .i64 1)] (cD (.bool true) (fun args w => Tryz.call56 args w) (fun w hw => by have := vc_t 1 w; rw [(show vcB 1 = true from by decide)] at this; exact this) (qo0 1 [] [2, 3, 6] [(19, .bool false)] (on_ (ds_ (f_ (at_skip (ds_ (sq_ ?_)))))))))))))))))))))
  have hlr := (al_iff.1 q6).rl
  have hlt := (wheel_iff.1 (al_iff.1 q6).wh).len
  refine at_any (by kernel_rfl) ?_
  refine tk (m := 6) [0, 2] [] [2, 3, 6] [(21, .pointer (some ⟨γ4 0, 0, none⟩)), (23, .pointer (some ⟨γ4 0, 2, none⟩))] ([]) #[true, false, true, false, false, false, false, false] al0 ?_
  refine any_cutX (V := (List Ob) × (Nat) × (Option Addr) × (Nat → Nat)) (fun ⟨Y263, cq263, q263, γ303⟩ => SlO 32 Y263 q263 na cq263 rs) 0 #[true, true, true, true, true, true, true, true] (fun ⟨Y263, cq263, q263, γ303⟩ => [(2, .func (.func 32) #[] #[.pointer (some ⟨γ1 1, 0, none⟩), .pointer (some ⟨γ2 0, 0, none⟩)]), (3, .pointer (some ⟨γ4 0, 0, none⟩)), (6, .pointer (some ⟨γ4 1, 0, none⟩)), (9, .pointer (some ⟨γ303 0, 0, none⟩))]) (fun ⟨Y263, cq263, q263, γ303⟩ => bx (γ303 0) (#[.int .i64 now, .slice p n cap, .slice q263 na cq263]) 27 :: bx (γ4 1) (#[.int .i64 0, .slice none 0 0, .slice none 0 0]) 27 :: bx (γ4 0) (#[.int .i64 now, .slice p n cap, .slice pa na ca]) 27 :: bx (γ2 0) (#[.slice none 0 0]) 35 :: bx (γ1 2) (#[.int .i64 0, .slice none 0 0, .slice none 0 0]) 27 :: bx (γ1 1) (#[.int .i64 to]) 2 :: bx (γ1 0) (#[.int .i64 now, .slice p n cap, .slice pa na ca]) 27 :: (Y263 ++ [])) ?_ (fun hmx12 => ?_)
  rotate_left
  ·
   refine any_cutX (V := (List Ob) × (Nat) × (Option Addr) × (Nat → Nat)) (fun ⟨Y263, cq263, q263, γ303⟩ => SlO 32 Y263 q263 na cq263 rs) 1 #[true, true, true, true, true, true, true, false] (fun ⟨Y263, cq263, q263, γ303⟩ => [(2, .func (.func 32) #[] #[.pointer (some ⟨γ1 1, 0, none⟩), .pointer (some ⟨γ2 0, 0, none⟩)]), (3, .pointer (some ⟨γ4 0, 0, none⟩)), (6, .pointer (some ⟨γ4 1, 0, none⟩)), (9, .pointer (some ⟨γ303 0, 0, none⟩)), (26, .agg #[.int .i64 now, .slice p n cap, .slice q263 na cq263])]) (fun ⟨Y263, cq263, q263, γ303⟩ => bx (γ303 0) (#[.int .i64 0, .slice none 0 0, .slice none 0 0]) 27 :: bx (γ4 1) (#[.int .i64 0, .slice none 0 0, .slice none 0 0]) 27 :: bx (γ4 0) (#[.int .i64 now, .slice p n cap, .slice pa na ca]) 27 :: bx (γ2 0) (#[.slice none 0 0]) 35 :: bx (γ1 2) (#[.int .i64 0, .slice none 0 0, .slice none 0 0]) 27 :: bx (γ1 1) (#[.int .i64 to]) 2 :: bx (γ1 0) (#[.int .i64 now, .slice p n cap, .slice pa na ca]) 27 :: (Y263 ++ [])) ?_ (fun hmx11 => ?_)
   ·
    rintro ⟨Y263, cq263, q263, γ303⟩ hO263
    refine a1 7 rfl ?_
    refine mo0 1 [(7, .go (owns 0 0 3))] [2, 3, 6, 9] (fun _ => []) (fun _ L => (L.set 0 (bx (γ303 0) (#[.int .i64 now, .slice p n cap, .slice q263 na cq263]) 27))) (fun _ => ?_)
    refine od_ ?_
    exact wk (hmx12 (Y263, cq263, q263, γ303) hO263) [2, 3, 6, 9] [[_], [_], [_], [_], [_], [_], [_], _] [0, 1, 2, 3, 4, 5, 6, 7] rfl rfl
   refine any_cutX (V := (List Ob) × (Nat) × (Option Addr)) (fun ⟨Y263, cq263, q263⟩ => SlO 32 Y263 q263 na cq263 rs) 2 #[true, true, true, true, true, true, false, false] (fun ⟨Y263, cq263, q263⟩ => [(2, .func (.func 32) #[] #[.pointer (some ⟨γ1 1, 0, none⟩), .pointer (some ⟨γ2 0, 0, none⟩)]), (3, .pointer (some ⟨γ4 0, 0, none⟩)), (6, .pointer (some ⟨γ4 1, 0, none⟩)), (26, .agg #[.int .i64 now, .slice p n cap, .slice q263 na cq263])]) (fun ⟨Y263, cq263, q263⟩ => bx (γ4 1) (#[.int .i64 0, .slice none 0 0, .slice none 0 0]) 27 :: bx (γ4 0) (#[.int .i64 now, .slice p n cap, .slice pa na ca]) 27 :: bx (γ2 0) (#[.slice none 0 0]) 35 :: bx (γ1 2) (#[.int .i64 0, .slice none 0 0, .slice none 0 0]) 27 :: bx (γ1 1) (#[.int .i64 to]) 2 :: bx (γ1 0) (#[.int .i64 now, .slice p n cap, .slice pa na ca]) 27 :: (Y263 ++ [])) ?_ (fun hmx10 => ?_)
   ·
    rintro ⟨Y263, cq263, q263⟩ hO263
    refine a1 6 rfl ?_
    refine mo0 1 [] [2, 3, 6, 26] (fun γ303 => [(9, .pointer (some ⟨γ303 0, 0, none⟩))]) (fun γ303 L => bx (γ303 0) (#[.int .i64 0, .slice none 0 0, .slice none 0 0]) 27 :: L) (fun γ303 => ?_)
    refine od_ ?_
    exact wk (hmx11 (Y263, cq263, q263, γ303) hO263) [2, 3, 6, 9, 26] [[_], [_], [_], [_], [_], [_], [_], _] [0, 1, 2, 3, 4, 5, 6, 7] rfl rfl
   refine any_cutX (V := (List Ob) × (Nat) × (Option Addr) × (Nat → Nat)) (fun ⟨Y263, cq263, q263, γ303⟩ => SlO 32 Y263 q263 na cq263 rs) 3 #[true, false, true, true, true, false, true, false] (fun ⟨Y263, cq263, q263, γ303⟩ => [(2, .func (.func 32) #[] #[.pointer (some ⟨γ1 1, 0, none⟩), .pointer (some ⟨γ2 0, 0, none⟩)]), (3, .pointer (some ⟨γ4 0, 0, none⟩)), (6, .pointer (some ⟨γ4 1, 0, none⟩)), (9, .pointer (some ⟨γ303 0, 0, none⟩)), (21, .pointer (some ⟨γ4 0, 0, none⟩)), (25, .slice q263 na cq263)]) (fun ⟨Y263, cq263, q263, γ303⟩ => bx (γ303 0) (#[.int .i64 0, .slice none 0 0, .slice none 0 0]) 27 :: bx (γ4 1) (#[.int .i64 0, .slice none 0 0, .slice none 0 0]) 27 :: bx (γ4 0) (#[.int .i64 now, .slice p n cap, .slice pa na ca]) 27 :: bx (γ2 0) (#[.slice none 0 0]) 35 :: bx (γ1 2) (#[.int .i64 0, .slice none 0 0, .slice none 0 0]) 27 :: bx (γ1 1) (#[.int .i64 to]) 2 :: bx (γ1 0) (#[.int .i64 now, .slice p n cap, .slice pa na ca]) 27 :: (Y263 ++ [])) ?_ (fun hmx9 => ?_)
   ·
    rintro ⟨Y263, cq263, q263, γ303⟩ hO263
    refine a1 1 rfl ?_
    refine qo0 1 [(1, .go (owns 2 0 2))] [2, 3, 6, 9, 25] [(22, .agg #[.int .i64 now, .slice p n cap])] ?_
    refine od_ ?_
    refine tk (m := 1) [5] [] [2, 3, 6, 9] [(26, .agg #[.int .i64 now, .slice p n cap, .slice q263 na cq263])] ([]) #[true, true, true, true, true, true, true, false] al0 ?_
    exact wk (hmx11 (Y263, cq263, q263, γ303) hO263) [2, 3, 6, 9, 26] [[_], [_], [_], [_], [_], [_], [_], _] [0, 1, 2, 3, 4, 5, 6, 7] rfl rfl
   refine any_cutX (V := (Nat → Nat)) (fun γ303 => True) 3 #[true, true, true, true, false, false, true, false] (fun γ303 => [(2, .func (.func 32) #[] #[.pointer (some ⟨γ1 1, 0, none⟩), .pointer (some ⟨γ2 0, 0, none⟩)]), (3, .pointer (some ⟨γ4 0, 0, none⟩)), (6, .pointer (some ⟨γ4 1, 0, none⟩)), (9, .pointer (some ⟨γ303 0, 0, none⟩)), (22, .agg #[.int .i64 now, .slice p n cap]), (24, .slice pa na ca)]) (fun γ303 => [bx (γ303 0) (#[.int .i64 0, .slice none 0 0, .slice none 0 0]) 27, bx (γ4 1) (#[.int .i64 0, .slice none 0 0, .slice none 0 0]) 27, bx (γ4 0) (#[.int .i64 now, .slice p n cap, .slice pa na ca]) 27, bx (γ2 0) (#[.slice none 0 0]) 35, bx (γ1 2) (#[.int .i64 0, .slice none 0 0, .slice none 0 0]) 27, bx (γ1 1) (#[.int .i64 to]) 2, bx (γ1 0) (#[.int .i64 now, .slice p n cap, .slice pa na ca]) 27]) ?_ (fun hmx8 => ?_)
   ·
    rintro γ303 _
    refine a1 4 rfl ?_
    refine cP (fun v L' => ∃ q_ c_ Y_, v = .slice q_ na c_ ∧ L' = List.take 7 ([bx (γ303 0) (#[.int .i64 0, .slice none 0 0, .slice none 0 0]) 27, bx (γ4 1) (#[.int .i64 0, .slice none 0 0, .slice none 0 0]) 27, bx (γ4 0) (#[.int .i64 now, .slice p n cap, .slice pa na ca]) 27, bx (γ2 0) (#[.slice none 0 0]) 35, bx (γ1 2) (#[.int .i64 0, .slice none 0 0, .slice none 0 0]) 27, bx (γ1 1) (#[.int .i64 to]) 2, bx (γ1 0) (#[.int .i64 now, .slice p n cap, .slice pa na ca]) 27]) ++ (Y_ ++ List.drop 7 ([bx (γ303 0) (#[.int .i64 0, .slice none 0 0, .slice none 0 0]) 27, bx (γ4 1) (#[.int .i64 0, .slice none 0 0, .slice none 0 0]) 27, bx (γ4 0) (#[.int .i64 now, .slice p n cap, .slice pa na ca]) 27, bx (γ2 0) (#[.slice none 0 0]) 35, bx (γ1 2) (#[.int .i64 0, .slice none 0 0, .slice none 0 0]) 27, bx (γ1 1) (#[.int .i64 to]) 2, bx (γ1 0) (#[.int .i64 now, .slice p n cap, .slice pa na ca]) 27])) ∧ SlO 32 Y_ q_ na c_ rs) (fun args w => Tryz.call57 args w) (fun w hw => (aclone_t pa na ca rs w (hrs.kept hw.below) hna (by omega)).mono fun e w' ⟨q_, c_, Y_, he, hO, hb, hY⟩ => ⟨_, _, he, ⟨q_, c_, Y_, rfl, rfl, hO⟩, hw.join hb hY 7⟩) ?_
    rintro v263 L263 ⟨q263, cq263, Y263, rfl, rfl, hO263⟩
    refine od_ ?_
    refine tk (m := 1) [5] [] [2, 3, 6, 9] [(26, .agg #[.int .i64 now, .slice p n cap, .slice q263 na cq263])] ([]) #[true, true, true, true, true, true, true, false] al0 ?_
    exact wk (hmx11 (Y263, cq263, q263, γ303) hO263) [2, 3, 6, 9, 26] [[_], [_], [_], [_], [_], [_], [_], _] [0, 1, 2, 3, 4, 5, 6, 7] rfl rfl
   refine any_cutX (V := (Nat → Nat)) (fun γ303 => True) 4 #[true, false, true, true, false, false, true, false] (fun γ303 => [(2, .func (.func 32) #[] #[.pointer (some ⟨γ1 1, 0, none⟩), .pointer (some ⟨γ2 0, 0, none⟩)]), (3, .pointer (some ⟨γ4 0, 0, none⟩)), (6, .pointer (some ⟨γ4 1, 0, none⟩)), (9, .pointer (some ⟨γ303 0, 0, none⟩)), (21, .pointer (some ⟨γ4 0, 0, none⟩)), (24, .slice pa na ca)]) (fun γ303 => [bx (γ303 0) (#[.int .i64 0, .slice none 0 0, .slice none 0 0]) 27, bx (γ4 1) (#[.int .i64 0, .slice none 0 0, .slice none 0 0]) 27, bx (γ4 0) (#[.int .i64 now, .slice p n cap, .slice pa na ca]) 27, bx (γ2 0) (#[.slice none 0 0]) 35, bx (γ1 2) (#[.int .i64 0, .slice none 0 0, .slice none 0 0]) 27, bx (γ1 1) (#[.int .i64 to]) 2, bx (γ1 0) (#[.int .i64 now, .slice p n cap, .slice pa na ca]) 27]) ?_ (fun hmx7 => ?_)
   ·
    rintro γ303 _
    refine any_fork [1, 4] (by kernel_rfl) (by simp) (each_cons _ rfl ?_ (each_cons _ rfl ?_ (each_nil)))
    ·
     refine qo0 1 [(1, .go (owns 2 0 2))] [2, 3, 6, 9, 24] [(22, .agg #[.int .i64 now, .slice p n cap])] ?_
     refine od_ ?_
     exact wk (hmx8 γ303 trivial) [2, 3, 6, 9, 22, 24] [[_], [_], [_], [_], [_], [_], [_]] [0, 1, 2, 3, 4, 5, 6] rfl rfl
    ·
     refine cP (fun v L' => ∃ q_ c_ Y_, v = .slice q_ na c_ ∧ L' = List.take 7 ([bx (γ303 0) (#[.int .i64 0, .slice none 0 0, .slice none 0 0]) 27, bx (γ4 1) (#[.int .i64 0, .slice none 0 0, .slice none 0 0]) 27, bx (γ4 0) (#[.int .i64 now, .slice p n cap, .slice pa na ca]) 27, bx (γ2 0) (#[.slice none 0 0]) 35, bx (γ1 2) (#[.int .i64 0, .slice none 0 0, .slice none 0 0]) 27, bx (γ1 1) (#[.int .i64 to]) 2, bx (γ1 0) (#[.int .i64 now, .slice p n cap, .slice pa na ca]) 27]) ++ (Y_ ++ List.drop 7 ([bx (γ303 0) (#[.int .i64 0, .slice none 0 0, .slice none 0 0]) 27, bx (γ4 1) (#[.int .i64 0, .slice none 0 0, .slice none 0 0]) 27, bx (γ4 0) (#[.int .i64 now, .slice p n cap, .slice pa na ca]) 27, bx (γ2 0) (#[.slice none 0 0]) 35, bx (γ1 2) (#[.int .i64 0, .slice none 0 0, .slice none 0 0]) 27, bx (γ1 1) (#[.int .i64 to]) 2, bx (γ1 0) (#[.int .i64 now, .slice p n cap, .slice pa na ca]) 27])) ∧ SlO 32 Y_ q_ na c_ rs) (fun args w => Tryz.call57 args w) (fun w hw => (aclone_t pa na ca rs w (hrs.kept hw.below) hna (by omega)).mono fun e w' ⟨q_, c_, Y_, he, hO, hb, hY⟩ => ⟨_, _, he, ⟨q_, c_, Y_, rfl, rfl, hO⟩, hw.join hb hY 7⟩) ?_
     rintro v263 L263 ⟨q263, cq263, Y263, rfl, rfl, hO263⟩
     refine od_ ?_
     exact wk (hmx9 (Y263, cq263, q263, γ303) hO263) [2, 3, 6, 9, 21, 25] [[_], [_], [_], [_], [_], [_], [_], _] [0, 1, 2, 3, 4, 5, 6, 7] rfl rfl
   refine any_cutX (V := (List Ob) × (Nat) × (Option Addr)) (fun ⟨Y263, cq263, q263⟩ => SlO 32 Y263 q263 na cq263 rs) 4 #[true, false, true, true, true, false, false, false] (fun ⟨Y263, cq263, q263⟩ => [(2, .func (.func 32) #[] #[.pointer (some ⟨γ1 1, 0, none⟩), .pointer (some ⟨γ2 0, 0, none⟩)]), (3, .pointer (some ⟨γ4 0, 0, none⟩)), (6, .pointer (some ⟨γ4 1, 0, none⟩)), (21, .pointer (some ⟨γ4 0, 0, none⟩)), (25, .slice q263 na cq263)]) (fun ⟨Y263, cq263, q263⟩ => bx (γ4 1) (#[.int .i64 0, .slice none 0 0, .slice none 0 0]) 27 :: bx (γ4 0) (#[.int .i64 now, .slice p n cap, .slice pa na ca]) 27 :: bx (γ2 0) (#[.slice none 0 0]) 35 :: bx (γ1 2) (#[.int .i64 0, .slice none 0 0, .slice none 0 0]) 27 :: bx (γ1 1) (#[.int .i64 to]) 2 :: bx (γ1 0) (#[.int .i64 now, .slice p n cap, .slice pa na ca]) 27 :: (Y263 ++ [])) ?_ (fun hmx6 => ?_)
   ·
    rintro ⟨Y263, cq263, q263⟩ hO263
    refine any_fork [1, 6] (by kernel_rfl) (by simp) (each_cons _ rfl ?_ (each_cons _ rfl ?_ (each_nil)))
    ·
     refine qo0 1 [(1, .go (owns 1 0 2))] [2, 3, 6, 25] [(22, .agg #[.int .i64 now, .slice p n cap])] ?_
     refine od_ ?_
     refine tk (m := 2) [5] [] [2, 3, 6] [(26, .agg #[.int .i64 now, .slice p n cap, .slice q263 na cq263])] ([]) #[true, true, true, true, true, true, false, false] al0 ?_
     exact wk (hmx10 (Y263, cq263, q263) hO263) [2, 3, 6, 26] [[_], [_], [_], [_], [_], [_], _] [0, 1, 2, 3, 4, 5, 6] rfl rfl
    ·
     refine mo0 1 [] [2, 3, 6, 21, 25] (fun γ303 => [(9, .pointer (some ⟨γ303 0, 0, none⟩))]) (fun γ303 L => bx (γ303 0) (#[.int .i64 0, .slice none 0 0, .slice none 0 0]) 27 :: L) (fun γ303 => ?_)
     refine od_ ?_
     exact wk (hmx9 (Y263, cq263, q263, γ303) hO263) [2, 3, 6, 9, 21, 25] [[_], [_], [_], [_], [_], [_], [_], _] [0, 1, 2, 3, 4, 5, 6, 7] rfl rfl
   refine any_cutX (V := (Nat → Nat)) (fun γ303 => True) 4 #[true, true, true, false, false, false, true, false] (fun γ303 => [(2, .func (.func 32) #[] #[.pointer (some ⟨γ1 1, 0, none⟩), .pointer (some ⟨γ2 0, 0, none⟩)]), (3, .pointer (some ⟨γ4 0, 0, none⟩)), (6, .pointer (some ⟨γ4 1, 0, none⟩)), (9, .pointer (some ⟨γ303 0, 0, none⟩)), (22, .agg #[.int .i64 now, .slice p n cap]), (23, .pointer (some ⟨γ4 0, 2, none⟩))]) (fun γ303 => [bx (γ303 0) (#[.int .i64 0, .slice none 0 0, .slice none 0 0]) 27, bx (γ4 1) (#[.int .i64 0, .slice none 0 0, .slice none 0 0]) 27, bx (γ4 0) (#[.int .i64 now, .slice p n cap, .slice pa na ca]) 27, bx (γ2 0) (#[.slice none 0 0]) 35, bx (γ1 2) (#[.int .i64 0, .slice none 0 0, .slice none 0 0]) 27, bx (γ1 1) (#[.int .i64 to]) 2, bx (γ1 0) (#[.int .i64 now, .slice p n cap, .slice pa na ca]) 27]) ?_ (fun hmx5 => ?_)
   ·
    rintro γ303 _
    refine a1 3 rfl ?_
    refine qo0 1 [(3, .go (owns 2 2 1))] [2, 3, 6, 9, 22] [(24, .slice pa na ca)] ?_
    refine od_ ?_
    exact wk (hmx8 γ303 trivial) [2, 3, 6, 9, 22, 24] [[_], [_], [_], [_], [_], [_], [_]] [0, 1, 2, 3, 4, 5, 6] rfl rfl
   refine any_cutX (V := Unit) (fun _ => True) 4 #[true, true, true, true, false, false, false, false] (fun _ => [(2, .func (.func 32) #[] #[.pointer (some ⟨γ1 1, 0, none⟩), .pointer (some ⟨γ2 0, 0, none⟩)]), (3, .pointer (some ⟨γ4 0, 0, none⟩)), (6, .pointer (some ⟨γ4 1, 0, none⟩)), (22, .agg #[.int .i64 now, .slice p n cap]), (24, .slice pa na ca)]) (fun _ => [bx (γ4 1) (#[.int .i64 0, .slice none 0 0, .slice none 0 0]) 27, bx (γ4 0) (#[.int .i64 now, .slice p n cap, .slice pa na ca]) 27, bx (γ2 0) (#[.slice none 0 0]) 35, bx (γ1 2) (#[.int .i64 0, .slice none 0 0, .slice none 0 0]) 27, bx (γ1 1) (#[.int .i64 to]) 2, bx (γ1 0) (#[.int .i64 now, .slice p n cap, .slice pa na ca]) 27]) ?_ (fun hmx4 => ?_)
   ·
    rintro _ _
    refine any_fork [4, 6] (by kernel_rfl) (by simp) (each_cons _ rfl ?_ (each_cons _ rfl ?_ (each_nil)))
    ·
     refine cP (fun v L' => ∃ q_ c_ Y_, v = .slice q_ na c_ ∧ L' = List.take 6 ([bx (γ4 1) (#[.int .i64 0, .slice none 0 0, .slice none 0 0]) 27, bx (γ4 0) (#[.int .i64 now, .slice p n cap, .slice pa na ca]) 27, bx (γ2 0) (#[.slice none 0 0]) 35, bx (γ1 2) (#[.int .i64 0, .slice none 0 0, .slice none 0 0]) 27, bx (γ1 1) (#[.int .i64 to]) 2, bx (γ1 0) (#[.int .i64 now, .slice p n cap, .slice pa na ca]) 27]) ++ (Y_ ++ List.drop 6 ([bx (γ4 1) (#[.int .i64 0, .slice none 0 0, .slice none 0 0]) 27, bx (γ4 0) (#[.int .i64 now, .slice p n cap, .slice pa na ca]) 27, bx (γ2 0) (#[.slice none 0 0]) 35, bx (γ1 2) (#[.int .i64 0, .slice none 0 0, .slice none 0 0]) 27, bx (γ1 1) (#[.int .i64 to]) 2, bx (γ1 0) (#[.int .i64 now, .slice p n cap, .slice pa na ca]) 27])) ∧ SlO 32 Y_ q_ na c_ rs) (fun args w => Tryz.call57 args w) (fun w hw => (aclone_t pa na ca rs w (hrs.kept hw.below) hna (by omega)).mono fun e w' ⟨q_, c_, Y_, he, hO, hb, hY⟩ => ⟨_, _, he, ⟨q_, c_, Y_, rfl, rfl, hO⟩, hw.join hb hY 6⟩) ?_
     rintro v263 L263 ⟨q263, cq263, Y263, rfl, rfl, hO263⟩
     refine od_ ?_
     refine tk (m := 2) [5] [] [2, 3, 6] [(26, .agg #[.int .i64 now, .slice p n cap, .slice q263 na cq263])] ([]) #[true, true, true, true, true, true, false, false] al0 ?_
     exact wk (hmx10 (Y263, cq263, q263) hO263) [2, 3, 6, 26] [[_], [_], [_], [_], [_], [_], _] [0, 1, 2, 3, 4, 5, 6] rfl rfl
    ·
     refine mo0 1 [] [2, 3, 6, 22, 24] (fun γ303 => [(9, .pointer (some ⟨γ303 0, 0, none⟩))]) (fun γ303 L => bx (γ303 0) (#[.int .i64 0, .slice none 0 0, .slice none 0 0]) 27 :: L) (fun γ303 => ?_)
     refine od_ ?_
     exact wk (hmx8 γ303 trivial) [2, 3, 6, 9, 22, 24] [[_], [_], [_], [_], [_], [_], [_]] [0, 1, 2, 3, 4, 5, 6] rfl rfl
   refine any_cutX (V := (Nat → Nat)) (fun γ303 => True) 5 #[true, false, true, false, false, false, true, false] (fun γ303 => [(2, .func (.func 32) #[] #[.pointer (some ⟨γ1 1, 0, none⟩), .pointer (some ⟨γ2 0, 0, none⟩)]), (3, .pointer (some ⟨γ4 0, 0, none⟩)), (6, .pointer (some ⟨γ4 1, 0, none⟩)), (9, .pointer (some ⟨γ303 0, 0, none⟩)), (21, .pointer (some ⟨γ4 0, 0, none⟩)), (23, .pointer (some ⟨γ4 0, 2, none⟩))]) (fun γ303 => [bx (γ303 0) (#[.int .i64 0, .slice none 0 0, .slice none 0 0]) 27, bx (γ4 1) (#[.int .i64 0, .slice none 0 0, .slice none 0 0]) 27, bx (γ4 0) (#[.int .i64 now, .slice p n cap, .slice pa na ca]) 27, bx (γ2 0) (#[.slice none 0 0]) 35, bx (γ1 2) (#[.int .i64 0, .slice none 0 0, .slice none 0 0]) 27, bx (γ1 1) (#[.int .i64 to]) 2, bx (γ1 0) (#[.int .i64 now, .slice p n cap, .slice pa na ca]) 27]) ?_ (fun hmx3 => ?_)
   ·
    rintro γ303 _
    refine any_fork [1, 3] (by kernel_rfl) (by simp) (each_cons _ rfl ?_ (each_cons _ rfl ?_ (each_nil)))
    ·
     refine qo0 1 [(1, .go (owns 2 0 2))] [2, 3, 6, 9, 23] [(22, .agg #[.int .i64 now, .slice p n cap])] ?_
     refine od_ ?_
     exact wk (hmx5 γ303 trivial) [2, 3, 6, 9, 22, 23] [[_], [_], [_], [_], [_], [_], [_]] [0, 1, 2, 3, 4, 5, 6] rfl rfl
    ·
     refine qo0 1 [(3, .go (owns 2 2 1))] [2, 3, 6, 9, 21] [(24, .slice pa na ca)] ?_
     refine od_ ?_
     exact wk (hmx7 γ303 trivial) [2, 3, 6, 9, 21, 24] [[_], [_], [_], [_], [_], [_], [_]] [0, 1, 2, 3, 4, 5, 6] rfl rfl
   refine any_cutX (V := Unit) (fun _ => True) 5 #[true, false, true, true, false, false, false, false] (fun _ => [(2, .func (.func 32) #[] #[.pointer (some ⟨γ1 1, 0, none⟩), .pointer (some ⟨γ2 0, 0, none⟩)]), (3, .pointer (some ⟨γ4 0, 0, none⟩)), (6, .pointer (some ⟨γ4 1, 0, none⟩)), (21, .pointer (some ⟨γ4 0, 0, none⟩)), (24, .slice pa na ca)]) (fun _ => [bx (γ4 1) (#[.int .i64 0, .slice none 0 0, .slice none 0 0]) 27, bx (γ4 0) (#[.int .i64 now, .slice p n cap, .slice pa na ca]) 27, bx (γ2 0) (#[.slice none 0 0]) 35, bx (γ1 2) (#[.int .i64 0, .slice none 0 0, .slice none 0 0]) 27, bx (γ1 1) (#[.int .i64 to]) 2, bx (γ1 0) (#[.int .i64 now, .slice p n cap, .slice pa na ca]) 27]) ?_ (fun hmx2 => ?_)
   ·
    rintro _ _
    refine any_fork [1, 4, 6] (by kernel_rfl) (by simp) (each_cons _ rfl ?_ (each_cons _ rfl ?_ (each_cons _ rfl ?_ (each_nil))))
    ·
     refine qo0 1 [(1, .go (owns 1 0 2))] [2, 3, 6, 24] [(22, .agg #[.int .i64 now, .slice p n cap])] ?_
     refine od_ ?_
     exact wk (hmx4 () trivial) [2, 3, 6, 22, 24] [[_], [_], [_], [_], [_], [_]] [0, 1, 2, 3, 4, 5] rfl rfl
    ·
     refine cP (fun v L' => ∃ q_ c_ Y_, v = .slice q_ na c_ ∧ L' = List.take 6 ([bx (γ4 1) (#[.int .i64 0, .slice none 0 0, .slice none 0 0]) 27, bx (γ4 0) (#[.int .i64 now, .slice p n cap, .slice pa na ca]) 27, bx (γ2 0) (#[.slice none 0 0]) 35, bx (γ1 2) (#[.int .i64 0, .slice none 0 0, .slice none 0 0]) 27, bx (γ1 1) (#[.int .i64 to]) 2, bx (γ1 0) (#[.int .i64 now, .slice p n cap, .slice pa na ca]) 27]) ++ (Y_ ++ List.drop 6 ([bx (γ4 1) (#[.int .i64 0, .slice none 0 0, .slice none 0 0]) 27, bx (γ4 0) (#[.int .i64 now, .slice p n cap, .slice pa na ca]) 27, bx (γ2 0) (#[.slice none 0 0]) 35, bx (γ1 2) (#[.int .i64 0, .slice none 0 0, .slice none 0 0]) 27, bx (γ1 1) (#[.int .i64 to]) 2, bx (γ1 0) (#[.int .i64 now, .slice p n cap, .slice pa na ca]) 27])) ∧ SlO 32 Y_ q_ na c_ rs) (fun args w => Tryz.call57 args w) (fun w hw => (aclone_t pa na ca rs w (hrs.kept hw.below) hna (by omega)).mono fun e w' ⟨q_, c_, Y_, he, hO, hb, hY⟩ => ⟨_, _, he, ⟨q_, c_, Y_, rfl, rfl, hO⟩, hw.join hb hY 6⟩) ?_
     rintro v263 L263 ⟨q263, cq263, Y263, rfl, rfl, hO263⟩
     refine od_ ?_
     exact wk (hmx6 (Y263, cq263, q263) hO263) [2, 3, 6, 21, 25] [[_], [_], [_], [_], [_], [_], _] [0, 1, 2, 3, 4, 5, 6] rfl rfl
    ·
     refine mo0 1 [] [2, 3, 6, 21, 24] (fun γ303 => [(9, .pointer (some ⟨γ303 0, 0, none⟩))]) (fun γ303 L => bx (γ303 0) (#[.int .i64 0, .slice none 0 0, .slice none 0 0]) 27 :: L) (fun γ303 => ?_)
     refine od_ ?_
     exact wk (hmx7 γ303 trivial) [2, 3, 6, 9, 21, 24] [[_], [_], [_], [_], [_], [_], [_]] [0, 1, 2, 3, 4, 5, 6] rfl rfl
   refine any_cutX (V := Unit) (fun _ => True) 5 #[true, true, true, false, false, false, false, false] (fun _ => [(2, .func (.func 32) #[] #[.pointer (some ⟨γ1 1, 0, none⟩), .pointer (some ⟨γ2 0, 0, none⟩)]), (3, .pointer (some ⟨γ4 0, 0, none⟩)), (6, .pointer (some ⟨γ4 1, 0, none⟩)), (22, .agg #[.int .i64 now, .slice p n cap]), (23, .pointer (some ⟨γ4 0, 2, none⟩))]) (fun _ => [bx (γ4 1) (#[.int .i64 0, .slice none 0 0, .slice none 0 0]) 27, bx (γ4 0) (#[.int .i64 now, .slice p n cap, .slice pa na ca]) 27, bx (γ2 0) (#[.slice none 0 0]) 35, bx (γ1 2) (#[.int .i64 0, .slice none 0 0, .slice none 0 0]) 27, bx (γ1 1) (#[.int .i64 to]) 2, bx (γ1 0) (#[.int .i64 now, .slice p n cap, .slice pa na ca]) 27]) ?_ (fun hmx1 => ?_)
   ·
    rintro _ _
    refine any_fork [3, 6] (by kernel_rfl) (by simp) (each_cons _ rfl ?_ (each_cons _ rfl ?_ (each_nil)))
    ·
     refine qo0 1 [(3, .go (owns 1 2 1))] [2, 3, 6, 22] [(24, .slice pa na ca)] ?_
     refine od_ ?_
     exact wk (hmx4 () trivial) [2, 3, 6, 22, 24] [[_], [_], [_], [_], [_], [_]] [0, 1, 2, 3, 4, 5] rfl rfl
    ·
     refine mo0 1 [] [2, 3, 6, 22, 23] (fun γ303 => [(9, .pointer (some ⟨γ303 0, 0, none⟩))]) (fun γ303 L => bx (γ303 0) (#[.int .i64 0, .slice none 0 0, .slice none 0 0]) 27 :: L) (fun γ303 => ?_)
     refine od_ ?_
     exact wk (hmx5 γ303 trivial) [2, 3, 6, 9, 22, 23] [[_], [_], [_], [_], [_], [_], [_]] [0, 1, 2, 3, 4, 5, 6] rfl rfl
   refine any_fork [1, 3, 6] (by kernel_rfl) (by simp) (each_cons _ rfl ?_ (each_cons _ rfl ?_ (each_cons _ rfl ?_ (each_nil))))
   ·
    refine qo0 1 [(1, .go (owns 1 0 2))] [2, 3, 6, 23] [(22, .agg #[.int .i64 now, .slice p n cap])] ?_
    refine od_ ?_
    exact wk (hmx1 () trivial) [2, 3, 6, 22, 23] [[_], [_], [_], [_], [_], [_]] [0, 1, 2, 3, 4, 5] rfl rfl
   ·
    refine qo0 1 [(3, .go (owns 1 2 1))] [2, 3, 6, 21] [(24, .slice pa na ca)] ?_
    refine od_ ?_
    exact wk (hmx2 () trivial) [2, 3, 6, 21, 24] [[_], [_], [_], [_], [_], [_]] [0, 1, 2, 3, 4, 5] rfl rfl
   ·
    refine mo0 1 [] [2, 3, 6, 21, 23] (fun γ303 => [(9, .pointer (some ⟨γ303 0, 0, none⟩))]) (fun γ303 L => bx (γ303 0) (#[.int .i64 0, .slice none 0 0, .slice none 0 0]) 27 :: L) (fun γ303 => ?_)
    refine od_ ?_
    exact wk (hmx3 γ303 trivial) [2, 3, 6, 9, 21, 23] [[_], [_], [_], [_], [_], [_], [_]] [0, 1, 2, 3, 4, 5, 6] rfl rfl
  rintro ⟨Y263, cq263, q263, γ303⟩ hO263
  refine any_nil (by kernel_rfl) ?_
  refine ds_ (sq_ (ao_ (qo0 3 [(2, .go (owns 2 1 1))] [2, 6, 9] [(29, .slice p n cap)] (cP (fun v L' => ∃ q_ c_ Y_, v = .slice q_ n c_ ∧ L' = List.take 7 (bx (γ303 0) (#[.int .i64 now, .slice p n cap, .slice q263 na cq263]) 27 :: bx (γ4 1) (#[.int .i64 0, .slice none 0 0, .slice none 0 0]) 27 :: bx (γ4 0) (#[.int .i64 now, .slice p n cap, .slice pa na ca]) 27 :: bx (γ2 0) (#[.slice none 0 0]) 35 :: bx (γ1 2) (#[.int .i64 0, .slice none 0 0, .slice none 0 0]) 27 :: bx (γ1 1) (#[.int .i64 to]) 2 :: bx (γ1 0) (#[.int .i64 now, .slice p n cap, .slice pa na ca]) 27 :: (Y263 ++ [])) ++ (Y_ ++ List.drop 7 (bx (γ303 0) (#[.int .i64 now, .slice p n cap, .slice q263 na cq263]) 27 :: bx (γ4 1) (#[.int .i64 0, .slice none 0 0, .slice none 0 0]) 27 :: bx (γ4 0) (#[.int .i64 now, .slice p n cap, .slice pa na ca]) 27 :: bx (γ2 0) (#[.slice none 0 0]) 35 :: bx (γ1 2) (#[.int .i64 0, .slice none 0 0, .slice none 0 0]) 27 :: bx (γ1 1) (#[.int .i64 to]) 2 :: bx (γ1 0) (#[.int .i64 now, .slice p n cap, .slice pa na ca]) 27 :: (Y263 ++ []))) ∧ SlO 42 Y_ q_ n c_ ts) (fun args w => Tryz.call58 args w) (fun w hw => (clone_t p n cap ts w (hts.kept hw.below) hn (by omega)).mono fun e w' ⟨q_, c_, Y_, he, hO, hb, hY⟩ => ⟨_, _, he, ⟨q_, c_, Y_, rfl, rfl, hO⟩, hw.join hb hY 7⟩) ?_))))
  rintro v389 L389 ⟨q389, cq389, Y389, rfl, rfl, hO389⟩
  refine mo0 3 [(6, .go (owns 0 1 1))] [2, 6, 9] (fun _ => []) (fun _ L => (L.set 0 (bx (γ303 0) (#[.int .i64 now, .slice q389 n cq389, .slice q263 na cq263]) 27))) (fun _ => on_ (ds_ (sq_ (sq_ (ao_ (qo0 1 [] [6, 9] [(33, .func (.func 32) #[] #[.pointer (some ⟨γ1 1, 0, none⟩), .pointer (some ⟨γ2 0, 0, none⟩)])] (ops_inline (g := 32) (args := #[.pointer (some ⟨γ303 0, 0, none⟩), .pointer (some ⟨γ1 1, 0, none⟩), .pointer (some ⟨γ2 0, 0, none⟩)]) (by kernel_rfl) (by kernel_rfl) (by kernel_rfl) (fun args w => Tryz.call32 args w) Tryz.func32 rfl Tryz.ntmps32 rfl (sq_ (qa0 [] [0, 1, 2] [] (ds_ (sq_ ?_)))))))))))
  rcases q393 : decide (now ≤ to ∧ to ≤ 1125899906842624) with _ | _
  ·
   refine at_any (by kernel_rfl) ?_
   refine tk (m := 11) [0, 1, 2] [] [0, 1, 2] [(11, .pointer (some ⟨γ303 0, 0, none⟩))] ([]) #[true, true, true, false, false, false, false, false, false, false, false, false, false, false] al0 ?_
   refine any_cutX (V := (List Ob) × (List Ob) × (Nat) × (Nat) × (Nat) × (Nat) × (Option Addr) × (Option Addr) × (Nat → Nat)) (fun ⟨Y497, Yx497, c497, d497, k497, m497, p497, q497, γ597⟩ => SlO 42 Y497 q497 m497 c497 ([] : List Tim) ∧ SlO 42 Yx497 p497 k497 d497 ([] : List Tim)) 0 #[true, true, true, true, true, true, true, true, true, true, true, true, true, true] (fun ⟨Y497, Yx497, c497, d497, k497, m497, p497, q497, γ597⟩ => [(0, .pointer (some ⟨γ303 0, 0, none⟩)), (2, .pointer (some ⟨γ2 0, 0, none⟩)), (5, .pointer (some ⟨γ597 0, 0, none⟩)), (6, .slice p497 k497 d497), (7, .int .i64 2)]) (fun ⟨Y497, Yx497, c497, d497, k497, m497, p497, q497, γ597⟩ => bx (γ597 0) (#[.int .i64 0, .slice q497 m497 c497]) 24 :: bx (γ303 0) (#[.int .i64 now, .slice q389 n cq389, .slice q263 na cq263]) 27 :: bx (γ4 1) (#[.int .i64 0, .slice none 0 0, .slice none 0 0]) 27 :: bx (γ4 0) (#[.int .i64 now, .slice p n cap, .slice pa na ca]) 27 :: bx (γ2 0) (#[.slice none 0 0]) 35 :: bx (γ1 2) (#[.int .i64 0, .slice none 0 0, .slice none 0 0]) 27 :: bx (γ1 1) (#[.int .i64 to]) 2 :: bx (γ1 0) (#[.int .i64 now, .slice p n cap, .slice pa na ca]) 27 :: (Y497 ++ (Yx497 ++ (Y389 ++ (Y263 ++ []))))) ?_ (fun hmx10 => ?_)
   rotate_left
   ·
    refine any_cutX (V := (List Ob) × (List Ob) × (Nat) × (Nat) × (Nat) × (Nat) × (Option Addr) × (Option Addr) × (Nat → Nat)) (fun ⟨Y497, Yx497, c497, d497, k497, m497, p497, q497, γ597⟩ => SlO 42 Y497 q497 m497 c497 ([] : List Tim) ∧ SlO 42 Yx497 p497 k497 d497 ([] : List Tim)) 3 #[true, true, true, true, true, true, true, true, true, true, true, false, false, false] (fun ⟨Y497, Yx497, c497, d497, k497, m497, p497, q497, γ597⟩ => [(0, .pointer (some ⟨γ303 0, 0, none⟩)), (2, .pointer (some ⟨γ2 0, 0, none⟩)), (5, .pointer (some ⟨γ597 0, 0, none⟩)), (15, .agg #[.int .i64 0, .slice q497 m497 c497]), (16, .slice p497 k497 d497), (17, .int .i64 2)]) (fun ⟨Y497, Yx497, c497, d497, k497, m497, p497, q497, γ597⟩ => bx (γ597 0) (#[.int .i64 0, .slice none 0 0]) 24 :: bx (γ303 0) (#[.int .i64 now, .slice q389 n cq389, .slice q263 na cq263]) 27 :: bx (γ4 1) (#[.int .i64 0, .slice none 0 0, .slice none 0 0]) 27 :: bx (γ4 0) (#[.int .i64 now, .slice p n cap, .slice pa na ca]) 27 :: bx (γ2 0) (#[.slice none 0 0]) 35 :: bx (γ1 2) (#[.int .i64 0, .slice none 0 0, .slice none 0 0]) 27 :: bx (γ1 1) (#[.int .i64 to]) 2 :: bx (γ1 0) (#[.int .i64 now, .slice p n cap, .slice pa na ca]) 27 :: (Y497 ++ (Yx497 ++ (Y389 ++ (Y263 ++ []))))) ?_ (fun hmx9 => ?_)
    ·
     rintro ⟨Y497, Yx497, c497, d497, k497, m497, p497, q497, γ597⟩ ⟨hO497, hP497⟩
     refine a1 11 rfl ?_
     refine mo0 1 [(11, .go (owns 0 0 2))] [0, 2, 5, 16, 17] (fun _ => []) (fun _ L => (L.set 0 (bx (γ597 0) (#[.int .i64 0, .slice q497 m497 c497]) 24))) (fun _ => ?_)
     refine od_ ?_
     refine tk (m := 0) [12, 13] [] [0, 2, 5] [(6, .slice p497 k497 d497), (7, .int .i64 2)] ([]) #[true, true, true, true, true, true, true, true, true, true, true, true, true, true] al0 ?_
     exact wk (hmx10 (Y497, Yx497, c497, d497, k497, m497, p497, q497, γ597) ⟨hO497, hP497⟩) [0, 2, 5, 6, 7] [[_], [_], [_], [_], [_], [_], [_], [_], _, _, _, _] [0, 1, 2, 3, 4, 5, 6, 7, 8, 9, 10, 11] rfl rfl
    refine any_cutX (V := (List Ob) × (List Ob) × (Nat) × (Nat) × (Nat) × (Nat) × (Option Addr) × (Option Addr)) (fun ⟨Y497, Yx497, c497, d497, k497, m497, p497, q497⟩ => SlO 42 Y497 q497 m497 c497 ([] : List Tim) ∧ SlO 42 Yx497 p497 k497 d497 ([] : List Tim)) 4 #[true, true, true, true, true, true, true, true, true, true, false, false, false, false] (fun ⟨Y497, Yx497, c497, d497, k497, m497, p497, q497⟩ => [(0, .pointer (some ⟨γ303 0, 0, none⟩)), (2, .pointer (some ⟨γ2 0, 0, none⟩)), (15, .agg #[.int .i64 0, .slice q497 m497 c497]), (16, .slice p497 k497 d497), (17, .int .i64 2)]) (fun ⟨Y497, Yx497, c497, d497, k497, m497, p497, q497⟩ => bx (γ303 0) (#[.int .i64 now, .slice q389 n cq389, .slice q263 na cq263]) 27 :: bx (γ4 1) (#[.int .i64 0, .slice none 0 0, .slice none 0 0]) 27 :: bx (γ4 0) (#[.int .i64 now, .slice p n cap, .slice pa na ca]) 27 :: bx (γ2 0) (#[.slice none 0 0]) 35 :: bx (γ1 2) (#[.int .i64 0, .slice none 0 0, .slice none 0 0]) 27 :: bx (γ1 1) (#[.int .i64 to]) 2 :: bx (γ1 0) (#[.int .i64 now, .slice p n cap, .slice pa na ca]) 27 :: (Y497 ++ (Yx497 ++ (Y389 ++ (Y263 ++ []))))) ?_ (fun hmx8 => ?_)
    ·
     rintro ⟨Y497, Yx497, c497, d497, k497, m497, p497, q497⟩ ⟨hO497, hP497⟩
     refine a1 10 rfl ?_
     refine mo0 1 [] [0, 2, 15, 16, 17] (fun γ597 => [(5, .pointer (some ⟨γ597 0, 0, none⟩))]) (fun γ597 L => bx (γ597 0) (#[.int .i64 0, .slice none 0 0]) 24 :: L) (fun γ597 => ?_)
     refine od_ ?_
     exact wk (hmx9 (Y497, Yx497, c497, d497, k497, m497, p497, q497, γ597) ⟨hO497, hP497⟩) [0, 2, 5, 15, 16, 17] [[_], [_], [_], [_], [_], [_], [_], [_], _, _, _, _] [0, 1, 2, 3, 4, 5, 6, 7, 8, 9, 10, 11] rfl rfl
    refine any_cutX (V := (Nat → Nat)) (fun γ597 => True) 8 #[true, true, true, true, true, false, false, false, false, false, true, false, false, false] (fun γ597 => [(0, .pointer (some ⟨γ303 0, 0, none⟩)), (2, .pointer (some ⟨γ2 0, 0, none⟩)), (5, .pointer (some ⟨γ597 0, 0, none⟩)), (12, .agg #[.int .i64 now, .slice q389 n cq389]), (13, .int .i64 to)]) (fun γ597 => bx (γ597 0) (#[.int .i64 0, .slice none 0 0]) 24 :: bx (γ303 0) (#[.int .i64 now, .slice q389 n cq389, .slice q263 na cq263]) 27 :: bx (γ4 1) (#[.int .i64 0, .slice none 0 0, .slice none 0 0]) 27 :: bx (γ4 0) (#[.int .i64 now, .slice p n cap, .slice pa na ca]) 27 :: bx (γ2 0) (#[.slice none 0 0]) 35 :: bx (γ1 2) (#[.int .i64 0, .slice none 0 0, .slice none 0 0]) 27 :: bx (γ1 1) (#[.int .i64 to]) 2 :: bx (γ1 0) (#[.int .i64 now, .slice p n cap, .slice pa na ca]) 27 :: (Y389 ++ (Y263 ++ []))) ?_ (fun hmx7 => ?_)
    ·
     rintro γ597 _
     refine a1 5 rfl ?_
     refine cP (fun v L' => ∃ q_ m_ c_ Y_ q2_ m2_ c2_ X_, v = .tuple #[.agg #[.int .i64 0, .slice q_ m_ c_], .slice q2_ m2_ c2_, .int .i64 2] ∧ L' = List.take 8 (bx (γ597 0) (#[.int .i64 0, .slice none 0 0]) 24 :: bx (γ303 0) (#[.int .i64 now, .slice q389 n cq389, .slice q263 na cq263]) 27 :: bx (γ4 1) (#[.int .i64 0, .slice none 0 0, .slice none 0 0]) 27 :: bx (γ4 0) (#[.int .i64 now, .slice p n cap, .slice pa na ca]) 27 :: bx (γ2 0) (#[.slice none 0 0]) 35 :: bx (γ1 2) (#[.int .i64 0, .slice none 0 0, .slice none 0 0]) 27 :: bx (γ1 1) (#[.int .i64 to]) 2 :: bx (γ1 0) (#[.int .i64 now, .slice p n cap, .slice pa na ca]) 27 :: (Y389 ++ (Y263 ++ []))) ++ (Y_ ++ (X_ ++ List.drop 8 (bx (γ597 0) (#[.int .i64 0, .slice none 0 0]) 24 :: bx (γ303 0) (#[.int .i64 now, .slice q389 n cq389, .slice q263 na cq263]) 27 :: bx (γ4 1) (#[.int .i64 0, .slice none 0 0, .slice none 0 0]) 27 :: bx (γ4 0) (#[.int .i64 now, .slice p n cap, .slice pa na ca]) 27 :: bx (γ2 0) (#[.slice none 0 0]) 35 :: bx (γ1 2) (#[.int .i64 0, .slice none 0 0, .slice none 0 0]) 27 :: bx (γ1 1) (#[.int .i64 to]) 2 :: bx (γ1 0) (#[.int .i64 now, .slice p n cap, .slice pa na ca]) 27 :: (Y389 ++ (Y263 ++ []))))) ∧ SlO 42 Y_ q_ m_ c_ ([] : List Tim) ∧ SlO 42 X_ q2_ m2_ c2_ ([] : List Tim)) (fun args w => Tryz.call33 args w) (fun w hw => by have := pass_t now q389 n cq389 ts to w (hO389.atN (A := [_, _, _, _, _, _, _, _]) hw) hO389.len (by omega); rw [passW_n (al_iff.1 q6).wh (of_decide_eq_false q393), passD_n (al_iff.1 q6).wh (of_decide_eq_false q393)] at this; exact this.mono fun e w' ⟨q_, m_, c_, Y_, q2_, m2_, c2_, X_, he, h1, h2, hb, hY⟩ => ⟨_, _, he, ⟨q_, m_, c_, Y_, q2_, m2_, c2_, X_, rfl, rfl, h1, h2⟩, hw.joinT hb hY 8⟩) ?_
     rintro v497 L497 ⟨q497, m497, c497, Y497, p497, k497, d497, Yx497, rfl, rfl, hO497, hP497⟩
     have hm497 := hO497.len
     have hn497 := hP497.len
     simp only [List.length_cons, List.length_nil] at hm497
     simp only [List.length_cons, List.length_nil] at hn497
     refine od_ ?_
     refine tk (m := 3) [6, 7, 8, 9] [] [0, 2, 5] [(15, .agg #[.int .i64 0, .slice q497 m497 c497]), (16, .slice p497 k497 d497), (17, .int .i64 2)] ([]) #[true, true, true, true, true, true, true, true, true, true, true, false, false, false] al0 ?_
     exact wk (hmx9 (Y497, Yx497, c497, d497, k497, m497, p497, q497, γ597) ⟨hO497, hP497⟩) [0, 2, 5, 15, 16, 17] [[_], [_], [_], [_], [_], [_], [_], [_], _, _, _, _] [0, 1, 2, 3, 4, 5, 6, 7, 8, 9, 10, 11] rfl rfl
    refine any_cutX (V := (Nat → Nat)) (fun γ597 => True) 9 #[true, true, true, false, true, false, false, false, false, false, true, false, false, false] (fun γ597 => [(0, .pointer (some ⟨γ303 0, 0, none⟩)), (2, .pointer (some ⟨γ2 0, 0, none⟩)), (5, .pointer (some ⟨γ597 0, 0, none⟩)), (11, .pointer (some ⟨γ303 0, 0, none⟩)), (13, .int .i64 to)]) (fun γ597 => bx (γ597 0) (#[.int .i64 0, .slice none 0 0]) 24 :: bx (γ303 0) (#[.int .i64 now, .slice q389 n cq389, .slice q263 na cq263]) 27 :: bx (γ4 1) (#[.int .i64 0, .slice none 0 0, .slice none 0 0]) 27 :: bx (γ4 0) (#[.int .i64 now, .slice p n cap, .slice pa na ca]) 27 :: bx (γ2 0) (#[.slice none 0 0]) 35 :: bx (γ1 2) (#[.int .i64 0, .slice none 0 0, .slice none 0 0]) 27 :: bx (γ1 1) (#[.int .i64 to]) 2 :: bx (γ1 0) (#[.int .i64 now, .slice p n cap, .slice pa na ca]) 27 :: (Y389 ++ (Y263 ++ []))) ?_ (fun hmx6 => ?_)
    ·
     rintro γ597 _
     refine a1 3 rfl ?_
     refine qo0 1 [(3, .go (owns 1 0 2))] [0, 2, 5, 13] [(12, .agg #[.int .i64 now, .slice q389 n cq389])] ?_
     refine od_ ?_
     exact wk (hmx7 γ597 trivial) [0, 2, 5, 12, 13] [[_], [_], [_], [_], [_], [_], [_], [_], _, _] [0, 1, 2, 3, 4, 5, 6, 7, 8, 9] rfl rfl
    refine any_cutX (V := (Nat → Nat)) (fun γ597 => True) 9 #[true, true, true, true, false, false, false, false, false, false, true, false, false, false] (fun γ597 => [(0, .pointer (some ⟨γ303 0, 0, none⟩)), (1, .pointer (some ⟨γ1 1, 0, none⟩)), (2, .pointer (some ⟨γ2 0, 0, none⟩)), (5, .pointer (some ⟨γ597 0, 0, none⟩)), (12, .agg #[.int .i64 now, .slice q389 n cq389])]) (fun γ597 => bx (γ597 0) (#[.int .i64 0, .slice none 0 0]) 24 :: bx (γ303 0) (#[.int .i64 now, .slice q389 n cq389, .slice q263 na cq263]) 27 :: bx (γ4 1) (#[.int .i64 0, .slice none 0 0, .slice none 0 0]) 27 :: bx (γ4 0) (#[.int .i64 now, .slice p n cap, .slice pa na ca]) 27 :: bx (γ2 0) (#[.slice none 0 0]) 35 :: bx (γ1 2) (#[.int .i64 0, .slice none 0 0, .slice none 0 0]) 27 :: bx (γ1 1) (#[.int .i64 to]) 2 :: bx (γ1 0) (#[.int .i64 now, .slice p n cap, .slice pa na ca]) 27 :: (Y389 ++ (Y263 ++ []))) ?_ (fun hmx5 => ?_)
    ·
     rintro γ597 _
     refine a1 4 rfl ?_
     refine qo0 1 [(4, .go (owns 6 0 1))] [0, 2, 5, 12] [(13, .int .i64 to)] ?_
     refine od_ ?_
     exact wk (hmx7 γ597 trivial) [0, 2, 5, 12, 13] [[_], [_], [_], [_], [_], [_], [_], [_], _, _] [0, 1, 2, 3, 4, 5, 6, 7, 8, 9] rfl rfl
    refine any_cutX (V := Unit) (fun _ => True) 9 #[true, true, true, true, true, false, false, false, false, false, false, false, false, false] (fun _ => [(0, .pointer (some ⟨γ303 0, 0, none⟩)), (2, .pointer (some ⟨γ2 0, 0, none⟩)), (12, .agg #[.int .i64 now, .slice q389 n cq389]), (13, .int .i64 to)]) (fun _ => bx (γ303 0) (#[.int .i64 now, .slice q389 n cq389, .slice q263 na cq263]) 27 :: bx (γ4 1) (#[.int .i64 0, .slice none 0 0, .slice none 0 0]) 27 :: bx (γ4 0) (#[.int .i64 now, .slice p n cap, .slice pa na ca]) 27 :: bx (γ2 0) (#[.slice none 0 0]) 35 :: bx (γ1 2) (#[.int .i64 0, .slice none 0 0, .slice none 0 0]) 27 :: bx (γ1 1) (#[.int .i64 to]) 2 :: bx (γ1 0) (#[.int .i64 now, .slice p n cap, .slice pa na ca]) 27 :: (Y389 ++ (Y263 ++ []))) ?_ (fun hmx4 => ?_)
    ·
     rintro _ _
     refine any_fork [5, 10] (by kernel_rfl) (by simp) (each_cons _ rfl ?_ (each_cons _ rfl ?_ (each_nil)))
     ·
      refine cP (fun v L' => ∃ q_ m_ c_ Y_ q2_ m2_ c2_ X_, v = .tuple #[.agg #[.int .i64 0, .slice q_ m_ c_], .slice q2_ m2_ c2_, .int .i64 2] ∧ L' = List.take 7 (bx (γ303 0) (#[.int .i64 now, .slice q389 n cq389, .slice q263 na cq263]) 27 :: bx (γ4 1) (#[.int .i64 0, .slice none 0 0, .slice none 0 0]) 27 :: bx (γ4 0) (#[.int .i64 now, .slice p n cap, .slice pa na ca]) 27 :: bx (γ2 0) (#[.slice none 0 0]) 35 :: bx (γ1 2) (#[.int .i64 0, .slice none 0 0, .slice none 0 0]) 27 :: bx (γ1 1) (#[.int .i64 to]) 2 :: bx (γ1 0) (#[.int .i64 now, .slice p n cap, .slice pa na ca]) 27 :: (Y389 ++ (Y263 ++ []))) ++ (Y_ ++ (X_ ++ List.drop 7 (bx (γ303 0) (#[.int .i64 now, .slice q389 n cq389, .slice q263 na cq263]) 27 :: bx (γ4 1) (#[.int .i64 0, .slice none 0 0, .slice none 0 0]) 27 :: bx (γ4 0) (#[.int .i64 now, .slice p n cap, .slice pa na ca]) 27 :: bx (γ2 0) (#[.slice none 0 0]) 35 :: bx (γ1 2) (#[.int .i64 0, .slice none 0 0, .slice none 0 0]) 27 :: bx (γ1 1) (#[.int .i64 to]) 2 :: bx (γ1 0) (#[.int .i64 now, .slice p n cap, .slice pa na ca]) 27 :: (Y389 ++ (Y263 ++ []))))) ∧ SlO 42 Y_ q_ m_ c_ ([] : List Tim) ∧ SlO 42 X_ q2_ m2_ c2_ ([] : List Tim)) (fun args w => Tryz.call33 args w) (fun w hw => by have := pass_t now q389 n cq389 ts to w (hO389.atN (A := [_, _, _, _, _, _, _]) hw) hO389.len (by omega); rw [passW_n (al_iff.1 q6).wh (of_decide_eq_false q393), passD_n (al_iff.1 q6).wh (of_decide_eq_false q393)] at this; exact this.mono fun e w' ⟨q_, m_, c_, Y_, q2_, m2_, c2_, X_, he, h1, h2, hb, hY⟩ => ⟨_, _, he, ⟨q_, m_, c_, Y_, q2_, m2_, c2_, X_, rfl, rfl, h1, h2⟩, hw.joinT hb hY 7⟩) ?_
      rintro v497 L497 ⟨q497, m497, c497, Y497, p497, k497, d497, Yx497, rfl, rfl, hO497, hP497⟩
      have hm497 := hO497.len
      have hn497 := hP497.len
      simp only [List.length_cons, List.length_nil] at hm497
      simp only [List.length_cons, List.length_nil] at hn497
      refine od_ ?_
      refine tk (m := 4) [6, 7, 8, 9] [] [0, 2] [(15, .agg #[.int .i64 0, .slice q497 m497 c497]), (16, .slice p497 k497 d497), (17, .int .i64 2)] ([]) #[true, true, true, true, true, true, true, true, true, true, false, false, false, false] al0 ?_
      exact wk (hmx8 (Y497, Yx497, c497, d497, k497, m497, p497, q497) ⟨hO497, hP497⟩) [0, 2, 15, 16, 17] [[_], [_], [_], [_], [_], [_], [_], _, _, _, _] [0, 1, 2, 3, 4, 5, 6, 7, 8, 9, 10] rfl rfl
     ·
      refine mo0 1 [] [0, 2, 12, 13] (fun γ597 => [(5, .pointer (some ⟨γ597 0, 0, none⟩))]) (fun γ597 L => bx (γ597 0) (#[.int .i64 0, .slice none 0 0]) 24 :: L) (fun γ597 => ?_)
      refine od_ ?_
      exact wk (hmx7 γ597 trivial) [0, 2, 5, 12, 13] [[_], [_], [_], [_], [_], [_], [_], [_], _, _] [0, 1, 2, 3, 4, 5, 6, 7, 8, 9] rfl rfl
    refine any_cutX (V := (Nat → Nat)) (fun γ597 => True) 10 #[true, true, true, false, false, false, false, false, false, false, true, false, false, false] (fun γ597 => [(0, .pointer (some ⟨γ303 0, 0, none⟩)), (1, .pointer (some ⟨γ1 1, 0, none⟩)), (2, .pointer (some ⟨γ2 0, 0, none⟩)), (5, .pointer (some ⟨γ597 0, 0, none⟩)), (11, .pointer (some ⟨γ303 0, 0, none⟩))]) (fun γ597 => bx (γ597 0) (#[.int .i64 0, .slice none 0 0]) 24 :: bx (γ303 0) (#[.int .i64 now, .slice q389 n cq389, .slice q263 na cq263]) 27 :: bx (γ4 1) (#[.int .i64 0, .slice none 0 0, .slice none 0 0]) 27 :: bx (γ4 0) (#[.int .i64 now, .slice p n cap, .slice pa na ca]) 27 :: bx (γ2 0) (#[.slice none 0 0]) 35 :: bx (γ1 2) (#[.int .i64 0, .slice none 0 0, .slice none 0 0]) 27 :: bx (γ1 1) (#[.int .i64 to]) 2 :: bx (γ1 0) (#[.int .i64 now, .slice p n cap, .slice pa na ca]) 27 :: (Y389 ++ (Y263 ++ []))) ?_ (fun hmx3 => ?_)
    ·
     rintro γ597 _
     refine any_fork [3, 4] (by kernel_rfl) (by simp) (each_cons _ rfl ?_ (each_cons _ rfl ?_ (each_nil)))
     ·
      refine qo0 1 [(3, .go (owns 1 0 2))] [0, 1, 2, 5] [(12, .agg #[.int .i64 now, .slice q389 n cq389])] ?_
      refine od_ ?_
      exact wk (hmx5 γ597 trivial) [0, 1, 2, 5, 12] [[_], [_], [_], [_], [_], [_], [_], [_], _, _] [0, 1, 2, 3, 4, 5, 6, 7, 8, 9] rfl rfl
     ·
      refine qo0 1 [(4, .go (owns 6 0 1))] [0, 2, 5, 11] [(13, .int .i64 to)] ?_
      refine od_ ?_
      exact wk (hmx6 γ597 trivial) [0, 2, 5, 11, 13] [[_], [_], [_], [_], [_], [_], [_], [_], _, _] [0, 1, 2, 3, 4, 5, 6, 7, 8, 9] rfl rfl
    refine any_cutX (V := Unit) (fun _ => True) 10 #[true, true, true, false, true, false, false, false, false, false, false, false, false, false] (fun _ => [(0, .pointer (some ⟨γ303 0, 0, none⟩)), (2, .pointer (some ⟨γ2 0, 0, none⟩)), (11, .pointer (some ⟨γ303 0, 0, none⟩)), (13, .int .i64 to)]) (fun _ => bx (γ303 0) (#[.int .i64 now, .slice q389 n cq389, .slice q263 na cq263]) 27 :: bx (γ4 1) (#[.int .i64 0, .slice none 0 0, .slice none 0 0]) 27 :: bx (γ4 0) (#[.int .i64 now, .slice p n cap, .slice pa na ca]) 27 :: bx (γ2 0) (#[.slice none 0 0]) 35 :: bx (γ1 2) (#[.int .i64 0, .slice none 0 0, .slice none 0 0]) 27 :: bx (γ1 1) (#[.int .i64 to]) 2 :: bx (γ1 0) (#[.int .i64 now, .slice p n cap, .slice pa na ca]) 27 :: (Y389 ++ (Y263 ++ []))) ?_ (fun hmx2 => ?_)
    ·
     rintro _ _
     refine any_fork [3, 10] (by kernel_rfl) (by simp) (each_cons _ rfl ?_ (each_cons _ rfl ?_ (each_nil)))
     ·
      refine qo0 1 [(3, .go (owns 0 0 2))] [0, 2, 13] [(12, .agg #[.int .i64 now, .slice q389 n cq389])] ?_
      refine od_ ?_
      exact wk (hmx4 () trivial) [0, 2, 12, 13] [[_], [_], [_], [_], [_], [_], [_], _, _] [0, 1, 2, 3, 4, 5, 6, 7, 8] rfl rfl
     ·
      refine mo0 1 [] [0, 2, 11, 13] (fun γ597 => [(5, .pointer (some ⟨γ597 0, 0, none⟩))]) (fun γ597 L => bx (γ597 0) (#[.int .i64 0, .slice none 0 0]) 24 :: L) (fun γ597 => ?_)
      refine od_ ?_
      exact wk (hmx6 γ597 trivial) [0, 2, 5, 11, 13] [[_], [_], [_], [_], [_], [_], [_], [_], _, _] [0, 1, 2, 3, 4, 5, 6, 7, 8, 9] rfl rfl
    refine any_cutX (V := Unit) (fun _ => True) 10 #[true, true, true, true, false, false, false, false, false, false, false, false, false, false] (fun _ => [(0, .pointer (some ⟨γ303 0, 0, none⟩)), (1, .pointer (some ⟨γ1 1, 0, none⟩)), (2, .pointer (some ⟨γ2 0, 0, none⟩)), (12, .agg #[.int .i64 now, .slice q389 n cq389])]) (fun _ => bx (γ303 0) (#[.int .i64 now, .slice q389 n cq389, .slice q263 na cq263]) 27 :: bx (γ4 1) (#[.int .i64 0, .slice none 0 0, .slice none 0 0]) 27 :: bx (γ4 0) (#[.int .i64 now, .slice p n cap, .slice pa na ca]) 27 :: bx (γ2 0) (#[.slice none 0 0]) 35 :: bx (γ1 2) (#[.int .i64 0, .slice none 0 0, .slice none 0 0]) 27 :: bx (γ1 1) (#[.int .i64 to]) 2 :: bx (γ1 0) (#[.int .i64 now, .slice p n cap, .slice pa na ca]) 27 :: (Y389 ++ (Y263 ++ []))) ?_ (fun hmx1 => ?_)
    ·
     rintro _ _
     refine any_fork [4, 10] (by kernel_rfl) (by simp) (each_cons _ rfl ?_ (each_cons _ rfl ?_ (each_nil)))
     ·
      refine qo0 1 [(4, .go (owns 5 0 1))] [0, 2, 12] [(13, .int .i64 to)] ?_
      refine od_ ?_
      exact wk (hmx4 () trivial) [0, 2, 12, 13] [[_], [_], [_], [_], [_], [_], [_], _, _] [0, 1, 2, 3, 4, 5, 6, 7, 8] rfl rfl
     ·
      refine mo0 1 [] [0, 1, 2, 12] (fun γ597 => [(5, .pointer (some ⟨γ597 0, 0, none⟩))]) (fun γ597 L => bx (γ597 0) (#[.int .i64 0, .slice none 0 0]) 24 :: L) (fun γ597 => ?_)
      refine od_ ?_
      exact wk (hmx5 γ597 trivial) [0, 1, 2, 5, 12] [[_], [_], [_], [_], [_], [_], [_], [_], _, _] [0, 1, 2, 3, 4, 5, 6, 7, 8, 9] rfl rfl
    refine any_fork [3, 4, 10] (by kernel_rfl) (by simp) (each_cons _ rfl ?_ (each_cons _ rfl ?_ (each_cons _ rfl ?_ (each_nil))))
    ·
     refine qo0 1 [(3, .go (owns 0 0 2))] [0, 1, 2] [(12, .agg #[.int .i64 now, .slice q389 n cq389])] ?_
     refine od_ ?_
     exact wk (hmx1 () trivial) [0, 1, 2, 12] [[_], [_], [_], [_], [_], [_], [_], _, _] [0, 1, 2, 3, 4, 5, 6, 7, 8] rfl rfl
    ·
     refine qo0 1 [(4, .go (owns 5 0 1))] [0, 2, 11] [(13, .int .i64 to)] ?_
     refine od_ ?_
     exact wk (hmx2 () trivial) [0, 2, 11, 13] [[_], [_], [_], [_], [_], [_], [_], _, _] [0, 1, 2, 3, 4, 5, 6, 7, 8] rfl rfl
    ·
     refine mo0 1 [] [0, 1, 2, 11] (fun γ597 => [(5, .pointer (some ⟨γ597 0, 0, none⟩))]) (fun γ597 L => bx (γ597 0) (#[.int .i64 0, .slice none 0 0]) 24 :: L) (fun γ597 => ?_)
     refine od_ ?_
     exact wk (hmx3 γ597 trivial) [0, 1, 2, 5, 11] [[_], [_], [_], [_], [_], [_], [_], [_], _, _] [0, 1, 2, 3, 4, 5, 6, 7, 8, 9] rfl rfl
   rintro ⟨Y497, Yx497, c497, d497, k497, m497, p497, q497, γ597⟩ ⟨hO497, hP497⟩
   refine any_nil (by kernel_rfl) ?_
   refine ds_ (sq_ (sq_ (qa0 [] [0, 2, 5, 6, 7] [(19, .bool true)] (ds_ (t_ (sq_ (qa0 [] [] [(4, .int .i64 2)] (ds_ (bk ([]) (.int .i64 2) (qo0 1 [] [6, 9] [(10, .int .i64 2)] (on_ (ds_ (sq_ (qa0 [] [6, 9, 10] [(36, .bool true)] (ds_ (t_ (sq_ (qa0 [(2, .go (owns 2 0 3))] [6] [(7, .int .i64 2)] (ds_ (bk (owns 2 0 3) (.tuple #[.agg #[.int .i64 0, .slice none 0 0, .slice none 0 0], .int .i64 2]) (mo0 6 [(7, .go (owns 0 0 3))] [4, 7] (fun γ727 => [(8, .pointer (some ⟨γ727 0, 0, none⟩)), (9, .int .i64 2)]) (fun γ727 L => bx (γ727 0) (#[.int .i64 0, .slice none 0 0, .slice none 0 0]) 27 :: L) (fun γ727 => on_ (ds_ (sq_ ?_))))))))))))))))))))))))
   refine at_any (by kernel_rfl) ?_
   refine tk (m := 5) [2] [] [4, 7, 8] [(18, .int .i64 2)] ([]) #[false, false, true, false, false, false] al0 ?_
   refine any_cutX (V := Unit) (fun _ => True) 0 #[true, true, true, true, true, true] (fun _ => [(4, .pointer (some ⟨γ1 2, 0, none⟩)), (5, .slice none 0 0), (6, .int .i64 2)]) (fun _ => bx (γ727 0) (#[.int .i64 0, .slice none 0 0, .slice none 0 0]) 27 :: bx (γ597 0) (#[.int .i64 0, .slice q497 m497 c497]) 24 :: bx (γ303 0) (#[.int .i64 now, .slice q389 n cq389, .slice q263 na cq263]) 27 :: bx (γ4 1) (#[.int .i64 0, .slice none 0 0, .slice none 0 0]) 27 :: bx (γ4 0) (#[.int .i64 now, .slice p n cap, .slice pa na ca]) 27 :: bx (γ2 0) (#[.slice none 0 0]) 35 :: bx (γ1 2) (#[.int .i64 0, .slice none 0 0, .slice none 0 0]) 27 :: bx (γ1 1) (#[.int .i64 to]) 2 :: bx (γ1 0) (#[.int .i64 now, .slice p n cap, .slice pa na ca]) 27 :: (Y497 ++ (Yx497 ++ (Y389 ++ (Y263 ++ []))))) ?_ (fun hmx5 => ?_)
   rotate_left
   ·
    refine any_cutX (V := Unit) (fun _ => True) 3 #[true, false, true, true, false, false] (fun _ => [(4, .pointer (some ⟨γ1 2, 0, none⟩)), (7, .pointer (some ⟨γ2 0, 0, none⟩)), (18, .int .i64 2)]) (fun _ => bx (γ727 0) (#[.int .i64 0, .slice none 0 0, .slice none 0 0]) 27 :: bx (γ597 0) (#[.int .i64 0, .slice q497 m497 c497]) 24 :: bx (γ303 0) (#[.int .i64 now, .slice q389 n cq389, .slice q263 na cq263]) 27 :: bx (γ4 1) (#[.int .i64 0, .slice none 0 0, .slice none 0 0]) 27 :: bx (γ4 0) (#[.int .i64 now, .slice p n cap, .slice pa na ca]) 27 :: bx (γ2 0) (#[.slice none 0 0]) 35 :: bx (γ1 2) (#[.int .i64 0, .slice none 0 0, .slice none 0 0]) 27 :: bx (γ1 1) (#[.int .i64 to]) 2 :: bx (γ1 0) (#[.int .i64 now, .slice p n cap, .slice pa na ca]) 27 :: (Y497 ++ (Yx497 ++ (Y389 ++ (Y263 ++ []))))) ?_ (fun hmx4 => ?_)
    ·
     rintro _ _
     refine a1 1 rfl ?_
     refine qo0 1 [(1, .go (owns 5 0 1))] [4, 18] [(17, .slice none 0 0)] ?_
     refine od_ ?_
     refine tk (m := 0) [4, 5] [] [4] [(5, .slice none 0 0), (6, .int .i64 2)] ([]) #[true, true, true, true, true, true] al0 ?_
     exact wk (hmx5 () trivial) [4, 5, 6] [[_], [_], [_], [_], [_], [_], [_], [_], [_], _, _, _, _] [0, 1, 2, 3, 4, 5, 6, 7, 8, 9, 10, 11, 12] rfl rfl
    refine any_cutX (V := Unit) (fun _ => True) 3 #[true, true, true, false, false, false] (fun _ => [(4, .pointer (some ⟨γ1 2, 0, none⟩)), (16, .agg #[.int .i64 0, .slice none 0 0, .slice none 0 0]), (17, .slice none 0 0), (18, .int .i64 2)]) (fun _ => bx (γ727 0) (#[.int .i64 0, .slice none 0 0, .slice none 0 0]) 27 :: bx (γ597 0) (#[.int .i64 0, .slice q497 m497 c497]) 24 :: bx (γ303 0) (#[.int .i64 now, .slice q389 n cq389, .slice q263 na cq263]) 27 :: bx (γ4 1) (#[.int .i64 0, .slice none 0 0, .slice none 0 0]) 27 :: bx (γ4 0) (#[.int .i64 now, .slice p n cap, .slice pa na ca]) 27 :: bx (γ2 0) (#[.slice none 0 0]) 35 :: bx (γ1 2) (#[.int .i64 0, .slice none 0 0, .slice none 0 0]) 27 :: bx (γ1 1) (#[.int .i64 to]) 2 :: bx (γ1 0) (#[.int .i64 now, .slice p n cap, .slice pa na ca]) 27 :: (Y497 ++ (Yx497 ++ (Y389 ++ (Y263 ++ []))))) ?_ (fun hmx3 => ?_)
    ·
     rintro _ _
     refine a1 3 rfl ?_
     refine qo0 1 [(3, .go (owns 6 0 3))] [4, 17, 18] [] ?_
     refine od_ ?_
     refine tk (m := 0) [4, 5] [] [4] [(5, .slice none 0 0), (6, .int .i64 2)] ([]) #[true, true, true, true, true, true] al0 ?_
     exact wk (hmx5 () trivial) [4, 5, 6] [[_], [_], [_], [_], [_], [_], [_], [_], [_], _, _, _, _] [0, 1, 2, 3, 4, 5, 6, 7, 8, 9, 10, 11, 12] rfl rfl
    refine any_cutX (V := Unit) (fun _ => True) 4 #[false, true, true, false, false, false] (fun _ => [(4, .pointer (some ⟨γ1 2, 0, none⟩)), (8, .pointer (some ⟨γ727 0, 0, none⟩)), (17, .slice none 0 0), (18, .int .i64 2)]) (fun _ => bx (γ727 0) (#[.int .i64 0, .slice none 0 0, .slice none 0 0]) 27 :: bx (γ597 0) (#[.int .i64 0, .slice q497 m497 c497]) 24 :: bx (γ303 0) (#[.int .i64 now, .slice q389 n cq389, .slice q263 na cq263]) 27 :: bx (γ4 1) (#[.int .i64 0, .slice none 0 0, .slice none 0 0]) 27 :: bx (γ4 0) (#[.int .i64 now, .slice p n cap, .slice pa na ca]) 27 :: bx (γ2 0) (#[.slice none 0 0]) 35 :: bx (γ1 2) (#[.int .i64 0, .slice none 0 0, .slice none 0 0]) 27 :: bx (γ1 1) (#[.int .i64 to]) 2 :: bx (γ1 0) (#[.int .i64 now, .slice p n cap, .slice pa na ca]) 27 :: (Y497 ++ (Yx497 ++ (Y389 ++ (Y263 ++ []))))) ?_ (fun hmx2 => ?_)
    ·
     rintro _ _
     refine a1 0 rfl ?_
     refine qo0 1 [(0, .go (owns 0 0 3))] [4, 17, 18] [(16, .agg #[.int .i64 0, .slice none 0 0, .slice none 0 0])] ?_
     refine od_ ?_
     exact wk (hmx3 () trivial) [4, 16, 17, 18] [[_], [_], [_], [_], [_], [_], [_], [_], [_], _, _, _, _] [0, 1, 2, 3, 4, 5, 6, 7, 8, 9, 10, 11, 12] rfl rfl
    refine any_cutX (V := Unit) (fun _ => True) 4 #[true, false, true, false, false, false] (fun _ => [(4, .pointer (some ⟨γ1 2, 0, none⟩)), (7, .pointer (some ⟨γ2 0, 0, none⟩)), (16, .agg #[.int .i64 0, .slice none 0 0, .slice none 0 0]), (18, .int .i64 2)]) (fun _ => bx (γ727 0) (#[.int .i64 0, .slice none 0 0, .slice none 0 0]) 27 :: bx (γ597 0) (#[.int .i64 0, .slice q497 m497 c497]) 24 :: bx (γ303 0) (#[.int .i64 now, .slice q389 n cq389, .slice q263 na cq263]) 27 :: bx (γ4 1) (#[.int .i64 0, .slice none 0 0, .slice none 0 0]) 27 :: bx (γ4 0) (#[.int .i64 now, .slice p n cap, .slice pa na ca]) 27 :: bx (γ2 0) (#[.slice none 0 0]) 35 :: bx (γ1 2) (#[.int .i64 0, .slice none 0 0, .slice none 0 0]) 27 :: bx (γ1 1) (#[.int .i64 to]) 2 :: bx (γ1 0) (#[.int .i64 now, .slice p n cap, .slice pa na ca]) 27 :: (Y497 ++ (Yx497 ++ (Y389 ++ (Y263 ++ []))))) ?_ (fun hmx1 => ?_)
    ·
     rintro _ _
     refine any_fork [1, 3] (by kernel_rfl) (by simp) (each_cons _ rfl ?_ (each_cons _ rfl ?_ (each_nil)))
     ·
      refine qo0 1 [(1, .go (owns 5 0 1))] [4, 16, 18] [(17, .slice none 0 0)] ?_
      refine od_ ?_
      exact wk (hmx3 () trivial) [4, 16, 17, 18] [[_], [_], [_], [_], [_], [_], [_], [_], [_], _, _, _, _] [0, 1, 2, 3, 4, 5, 6, 7, 8, 9, 10, 11, 12] rfl rfl
     ·
      refine qo0 1 [(3, .go (owns 6 0 3))] [4, 7, 18] [] ?_
      refine od_ ?_
      exact wk (hmx4 () trivial) [4, 7, 18] [[_], [_], [_], [_], [_], [_], [_], [_], [_], _, _, _, _] [0, 1, 2, 3, 4, 5, 6, 7, 8, 9, 10, 11, 12] rfl rfl
    refine any_fork [0, 1] (by kernel_rfl) (by simp) (each_cons _ rfl ?_ (each_cons _ rfl ?_ (each_nil)))
    ·
     refine qo0 1 [(0, .go (owns 0 0 3))] [4, 7, 18] [(16, .agg #[.int .i64 0, .slice none 0 0, .slice none 0 0])] ?_
     refine od_ ?_
     exact wk (hmx1 () trivial) [4, 7, 16, 18] [[_], [_], [_], [_], [_], [_], [_], [_], [_], _, _, _, _] [0, 1, 2, 3, 4, 5, 6, 7, 8, 9, 10, 11, 12] rfl rfl
    ·
     refine qo0 1 [(1, .go (owns 5 0 1))] [4, 8, 18] [(17, .slice none 0 0)] ?_
     refine od_ ?_
     exact wk (hmx2 () trivial) [4, 8, 17, 18] [[_], [_], [_], [_], [_], [_], [_], [_], [_], _, _, _, _] [0, 1, 2, 3, 4, 5, 6, 7, 8, 9, 10, 11, 12] rfl rfl
   rintro _ _
   refine any_nil (by kernel_rfl) ?_
   refine ds_ (rt (owns 6 0 3) (.tuple #[.agg #[.int .i64 0, .slice none 0 0, .slice none 0 0], .slice none 0 0, .int .i64 2]) ?_)
   exact fun w' hw => by rw [passA_arg q6 (of_decide_eq_false q393), passR_arg (of_decide_eq_false q393)]; exact ⟨none, 0, 0, [], none, 0, 0, [], none, 0, 0, [], rfl, SlO.nil, SlO.nil, SlO.nil, hw.below, hw.sub (List.nil_sublist _)⟩
  ·
   refine at_any (by kernel_rfl) ?_
   refine tk (m := 11) [0, 1, 2] [] [0, 1, 2] [(11, .pointer (some ⟨γ303 0, 0, none⟩))] ([]) #[true, true, true, false, false, false, false, false, false, false, false, false, false, false] al0 ?_
   refine any_cutX (V := (List Ob) × (List Ob) × (Nat) × (Nat) × (Nat) × (Nat) × (Option Addr) × (Option Addr) × (Nat → Nat)) (fun ⟨Y996, Yx996, c996, d996, k996, m996, p996, q996, γ1096⟩ => SlO 42 Y996 q996 m996 c996 (leL ts to) ∧ SlO 42 Yx996 p996 k996 d996 (sortT (duL ts to))) 0 #[true, true, true, true, true, true, true, true, true, true, true, true, true, true] (fun ⟨Y996, Yx996, c996, d996, k996, m996, p996, q996, γ1096⟩ => [(0, .pointer (some ⟨γ303 0, 0, none⟩)), (2, .pointer (some ⟨γ2 0, 0, none⟩)), (5, .pointer (some ⟨γ1096 0, 0, none⟩)), (6, .slice p996 k996 d996), (7, .int .i64 0)]) (fun ⟨Y996, Yx996, c996, d996, k996, m996, p996, q996, γ1096⟩ => bx (γ1096 0) (#[.int .i64 to, .slice q996 m996 c996]) 24 :: bx (γ303 0) (#[.int .i64 now, .slice q389 n cq389, .slice q263 na cq263]) 27 :: bx (γ4 1) (#[.int .i64 0, .slice none 0 0, .slice none 0 0]) 27 :: bx (γ4 0) (#[.int .i64 now, .slice p n cap, .slice pa na ca]) 27 :: bx (γ2 0) (#[.slice none 0 0]) 35 :: bx (γ1 2) (#[.int .i64 0, .slice none 0 0, .slice none 0 0]) 27 :: bx (γ1 1) (#[.int .i64 to]) 2 :: bx (γ1 0) (#[.int .i64 now, .slice p n cap, .slice pa na ca]) 27 :: (Y996 ++ (Yx996 ++ (Y389 ++ (Y263 ++ []))))) ?_ (fun hmx10 => ?_)
   rotate_left
   ·
    refine any_cutX (V := (List Ob) × (List Ob) × (Nat) × (Nat) × (Nat) × (Nat) × (Option Addr) × (Option Addr) × (Nat → Nat)) (fun ⟨Y996, Yx996, c996, d996, k996, m996, p996, q996, γ1096⟩ => SlO 42 Y996 q996 m996 c996 (leL ts to) ∧ SlO 42 Yx996 p996 k996 d996 (sortT (duL ts to))) 3 #[true, true, true, true, true, true, true, true, true, true, true, false, false, false] (fun ⟨Y996, Yx996, c996, d996, k996, m996, p996, q996, γ1096⟩ => [(0, .pointer (some ⟨γ303 0, 0, none⟩)), (2, .pointer (some ⟨γ2 0, 0, none⟩)), (5, .pointer (some ⟨γ1096 0, 0, none⟩)), (15, .agg #[.int .i64 to, .slice q996 m996 c996]), (16, .slice p996 k996 d996), (17, .int .i64 0)]) (fun ⟨Y996, Yx996, c996, d996, k996, m996, p996, q996, γ1096⟩ => bx (γ1096 0) (#[.int .i64 0, .slice none 0 0]) 24 :: bx (γ303 0) (#[.int .i64 now, .slice q389 n cq389, .slice q263 na cq263]) 27 :: bx (γ4 1) (#[.int .i64 0, .slice none 0 0, .slice none 0 0]) 27 :: bx (γ4 0) (#[.int .i64 now, .slice p n cap, .slice pa na ca]) 27 :: bx (γ2 0) (#[.slice none 0 0]) 35 :: bx (γ1 2) (#[.int .i64 0, .slice none 0 0, .slice none 0 0]) 27 :: bx (γ1 1) (#[.int .i64 to]) 2 :: bx (γ1 0) (#[.int .i64 now, .slice p n cap, .slice pa na ca]) 27 :: (Y996 ++ (Yx996 ++ (Y389 ++ (Y263 ++ []))))) ?_ (fun hmx9 => ?_)
    ·
     rintro ⟨Y996, Yx996, c996, d996, k996, m996, p996, q996, γ1096⟩ ⟨hO996, hP996⟩
     refine a1 11 rfl ?_
     refine mo0 1 [(11, .go (owns 0 0 2))] [0, 2, 5, 16, 17] (fun _ => []) (fun _ L => (L.set 0 (bx (γ1096 0) (#[.int .i64 to, .slice q996 m996 c996]) 24))) (fun _ => ?_)
     refine od_ ?_
     refine tk (m := 0) [12, 13] [] [0, 2, 5] [(6, .slice p996 k996 d996), (7, .int .i64 0)] ([]) #[true, true, true, true, true, true, true, true, true, true, true, true, true, true] al0 ?_
     exact wk (hmx10 (Y996, Yx996, c996, d996, k996, m996, p996, q996, γ1096) ⟨hO996, hP996⟩) [0, 2, 5, 6, 7] [[_], [_], [_], [_], [_], [_], [_], [_], _, _, _, _] [0, 1, 2, 3, 4, 5, 6, 7, 8, 9, 10, 11] rfl rfl
    refine any_cutX (V := (List Ob) × (List Ob) × (Nat) × (Nat) × (Nat) × (Nat) × (Option Addr) × (Option Addr)) (fun ⟨Y996, Yx996, c996, d996, k996, m996, p996, q996⟩ => SlO 42 Y996 q996 m996 c996 (leL ts to) ∧ SlO 42 Yx996 p996 k996 d996 (sortT (duL ts to))) 4 #[true, true, true, true, true, true, true, true, true, true, false, false, false, false] (fun ⟨Y996, Yx996, c996, d996, k996, m996, p996, q996⟩ => [(0, .pointer (some ⟨γ303 0, 0, none⟩)), (2, .pointer (some ⟨γ2 0, 0, none⟩)), (15, .agg #[.int .i64 to, .slice q996 m996 c996]), (16, .slice p996 k996 d996), (17, .int .i64 0)]) (fun ⟨Y996, Yx996, c996, d996, k996, m996, p996, q996⟩ => bx (γ303 0) (#[.int .i64 now, .slice q389 n cq389, .slice q263 na cq263]) 27 :: bx (γ4 1) (#[.int .i64 0, .slice none 0 0, .slice none 0 0]) 27 :: bx (γ4 0) (#[.int .i64 now, .slice p n cap, .slice pa na ca]) 27 :: bx (γ2 0) (#[.slice none 0 0]) 35 :: bx (γ1 2) (#[.int .i64 0, .slice none 0 0, .slice none 0 0]) 27 :: bx (γ1 1) (#[.int .i64 to]) 2 :: bx (γ1 0) (#[.int .i64 now, .slice p n cap, .slice pa na ca]) 27 :: (Y996 ++ (Yx996 ++ (Y389 ++ (Y263 ++ []))))) ?_ (fun hmx8 => ?_)
    ·
     rintro ⟨Y996, Yx996, c996, d996, k996, m996, p996, q996⟩ ⟨hO996, hP996⟩
     refine a1 10 rfl ?_
     refine mo0 1 [] [0, 2, 15, 16, 17] (fun γ1096 => [(5, .pointer (some ⟨γ1096 0, 0, none⟩))]) (fun γ1096 L => bx (γ1096 0) (#[.int .i64 0, .slice none 0 0]) 24 :: L) (fun γ1096 => ?_)
     refine od_ ?_
     exact wk (hmx9 (Y996, Yx996, c996, d996, k996, m996, p996, q996, γ1096) ⟨hO996, hP996⟩) [0, 2, 5, 15, 16, 17] [[_], [_], [_], [_], [_], [_], [_], [_], _, _, _, _] [0, 1, 2, 3, 4, 5, 6, 7, 8, 9, 10, 11] rfl rfl
    refine any_cutX (V := (Nat → Nat)) (fun γ1096 => True) 8 #[true, true, true, true, true, false, false, false, false, false, true, false, false, false] (fun γ1096 => [(0, .pointer (some ⟨γ303 0, 0, none⟩)), (2, .pointer (some ⟨γ2 0, 0, none⟩)), (5, .pointer (some ⟨γ1096 0, 0, none⟩)), (12, .agg #[.int .i64 now, .slice q389 n cq389]), (13, .int .i64 to)]) (fun γ1096 => bx (γ1096 0) (#[.int .i64 0, .slice none 0 0]) 24 :: bx (γ303 0) (#[.int .i64 now, .slice q389 n cq389, .slice q263 na cq263]) 27 :: bx (γ4 1) (#[.int .i64 0, .slice none 0 0, .slice none 0 0]) 27 :: bx (γ4 0) (#[.int .i64 now, .slice p n cap, .slice pa na ca]) 27 :: bx (γ2 0) (#[.slice none 0 0]) 35 :: bx (γ1 2) (#[.int .i64 0, .slice none 0 0, .slice none 0 0]) 27 :: bx (γ1 1) (#[.int .i64 to]) 2 :: bx (γ1 0) (#[.int .i64 now, .slice p n cap, .slice pa na ca]) 27 :: (Y389 ++ (Y263 ++ []))) ?_ (fun hmx7 => ?_)
    ·
     rintro γ1096 _
     refine a1 5 rfl ?_
     refine cP (fun v L' => ∃ q_ m_ c_ Y_ q2_ m2_ c2_ X_, v = .tuple #[.agg #[.int .i64 to, .slice q_ m_ c_], .slice q2_ m2_ c2_, .int .i64 0] ∧ L' = List.take 8 (bx (γ1096 0) (#[.int .i64 0, .slice none 0 0]) 24 :: bx (γ303 0) (#[.int .i64 now, .slice q389 n cq389, .slice q263 na cq263]) 27 :: bx (γ4 1) (#[.int .i64 0, .slice none 0 0, .slice none 0 0]) 27 :: bx (γ4 0) (#[.int .i64 now, .slice p n cap, .slice pa na ca]) 27 :: bx (γ2 0) (#[.slice none 0 0]) 35 :: bx (γ1 2) (#[.int .i64 0, .slice none 0 0, .slice none 0 0]) 27 :: bx (γ1 1) (#[.int .i64 to]) 2 :: bx (γ1 0) (#[.int .i64 now, .slice p n cap, .slice pa na ca]) 27 :: (Y389 ++ (Y263 ++ []))) ++ (Y_ ++ (X_ ++ List.drop 8 (bx (γ1096 0) (#[.int .i64 0, .slice none 0 0]) 24 :: bx (γ303 0) (#[.int .i64 now, .slice q389 n cq389, .slice q263 na cq263]) 27 :: bx (γ4 1) (#[.int .i64 0, .slice none 0 0, .slice none 0 0]) 27 :: bx (γ4 0) (#[.int .i64 now, .slice p n cap, .slice pa na ca]) 27 :: bx (γ2 0) (#[.slice none 0 0]) 35 :: bx (γ1 2) (#[.int .i64 0, .slice none 0 0, .slice none 0 0]) 27 :: bx (γ1 1) (#[.int .i64 to]) 2 :: bx (γ1 0) (#[.int .i64 now, .slice p n cap, .slice pa na ca]) 27 :: (Y389 ++ (Y263 ++ []))))) ∧ SlO 42 Y_ q_ m_ c_ (leL ts to) ∧ SlO 42 X_ q2_ m2_ c2_ (sortT (duL ts to))) (fun args w => Tryz.call33 args w) (fun w hw => by have := pass_t now q389 n cq389 ts to w (hO389.atN (A := [_, _, _, _, _, _, _, _]) hw) hO389.len (by omega); rw [passW_y (al_iff.1 q6).wh (of_decide_eq_true q393), passD_y (al_iff.1 q6).wh (of_decide_eq_true q393)] at this; exact this.mono fun e w' ⟨q_, m_, c_, Y_, q2_, m2_, c2_, X_, he, h1, h2, hb, hY⟩ => ⟨_, _, he, ⟨q_, m_, c_, Y_, q2_, m2_, c2_, X_, rfl, rfl, h1, h2⟩, hw.joinT hb hY 8⟩) ?_
     rintro v996 L996 ⟨q996, m996, c996, Y996, p996, k996, d996, Yx996, rfl, rfl, hO996, hP996⟩
     have hm996 := hO996.len
     have hn996 := hP996.len
     refine od_ ?_
     refine tk (m := 3) [6, 7, 8, 9] [] [0, 2, 5] [(15, .agg #[.int .i64 to, .slice q996 m996 c996]), (16, .slice p996 k996 d996), (17, .int .i64 0)] ([]) #[true, true, true, true, true, true, true, true, true, true, true, false, false, false] al0 ?_
     exact wk (hmx9 (Y996, Yx996, c996, d996, k996, m996, p996, q996, γ1096) ⟨hO996, hP996⟩) [0, 2, 5, 15, 16, 17] [[_], [_], [_], [_], [_], [_], [_], [_], _, _, _, _] [0, 1, 2, 3, 4, 5, 6, 7, 8, 9, 10, 11] rfl rfl
    refine any_cutX (V := (Nat → Nat)) (fun γ1096 => True) 9 #[true, true, true, false, true, false, false, false, false, false, true, false, false, false] (fun γ1096 => [(0, .pointer (some ⟨γ303 0, 0, none⟩)), (2, .pointer (some ⟨γ2 0, 0, none⟩)), (5, .pointer (some ⟨γ1096 0, 0, none⟩)), (11, .pointer (some ⟨γ303 0, 0, none⟩)), (13, .int .i64 to)]) (fun γ1096 => bx (γ1096 0) (#[.int .i64 0, .slice none 0 0]) 24 :: bx (γ303 0) (#[.int .i64 now, .slice q389 n cq389, .slice q263 na cq263]) 27 :: bx (γ4 1) (#[.int .i64 0, .slice none 0 0, .slice none 0 0]) 27 :: bx (γ4 0) (#[.int .i64 now, .slice p n cap, .slice pa na ca]) 27 :: bx (γ2 0) (#[.slice none 0 0]) 35 :: bx (γ1 2) (#[.int .i64 0, .slice none 0 0, .slice none 0 0]) 27 :: bx (γ1 1) (#[.int .i64 to]) 2 :: bx (γ1 0) (#[.int .i64 now, .slice p n cap, .slice pa na ca]) 27 :: (Y389 ++ (Y263 ++ []))) ?_ (fun hmx6 => ?_)
    ·
     rintro γ1096 _
     refine a1 3 rfl ?_
     refine qo0 1 [(3, .go (owns 1 0 2))] [0, 2, 5, 13] [(12, .agg #[.int .i64 now, .slice q389 n cq389])] ?_
     refine od_ ?_
     exact wk (hmx7 γ1096 trivial) [0, 2, 5, 12, 13] [[_], [_], [_], [_], [_], [_], [_], [_], _, _] [0, 1, 2, 3, 4, 5, 6, 7, 8, 9] rfl rfl
    refine any_cutX (V := (Nat → Nat)) (fun γ1096 => True) 9 #[true, true, true, true, false, false, false, false, false, false, true, false, false, false] (fun γ1096 => [(0, .pointer (some ⟨γ303 0, 0, none⟩)), (1, .pointer (some ⟨γ1 1, 0, none⟩)), (2, .pointer (some ⟨γ2 0, 0, none⟩)), (5, .pointer (some ⟨γ1096 0, 0, none⟩)), (12, .agg #[.int .i64 now, .slice q389 n cq389])]) (fun γ1096 => bx (γ1096 0) (#[.int .i64 0, .slice none 0 0]) 24 :: bx (γ303 0) (#[.int .i64 now, .slice q389 n cq389, .slice q263 na cq263]) 27 :: bx (γ4 1) (#[.int .i64 0, .slice none 0 0, .slice none 0 0]) 27 :: bx (γ4 0) (#[.int .i64 now, .slice p n cap, .slice pa na ca]) 27 :: bx (γ2 0) (#[.slice none 0 0]) 35 :: bx (γ1 2) (#[.int .i64 0, .slice none 0 0, .slice none 0 0]) 27 :: bx (γ1 1) (#[.int .i64 to]) 2 :: bx (γ1 0) (#[.int .i64 now, .slice p n cap, .slice pa na ca]) 27 :: (Y389 ++ (Y263 ++ []))) ?_ (fun hmx5 => ?_)
    ·
     rintro γ1096 _
     refine a1 4 rfl ?_
     refine qo0 1 [(4, .go (owns 6 0 1))] [0, 2, 5, 12] [(13, .int .i64 to)] ?_
     refine od_ ?_
     exact wk (hmx7 γ1096 trivial) [0, 2, 5, 12, 13] [[_], [_], [_], [_], [_], [_], [_], [_], _, _] [0, 1, 2, 3, 4, 5, 6, 7, 8, 9] rfl rfl
    refine any_cutX (V := Unit) (fun _ => True) 9 #[true, true, true, true, true, false, false, false, false, false, false, false, false, false] (fun _ => [(0, .pointer (some ⟨γ303 0, 0, none⟩)), (2, .pointer (some ⟨γ2 0, 0, none⟩)), (12, .agg #[.int .i64 now, .slice q389 n cq389]), (13, .int .i64 to)]) (fun _ => bx (γ303 0) (#[.int .i64 now, .slice q389 n cq389, .slice q263 na cq263]) 27 :: bx (γ4 1) (#[.int .i64 0, .slice none 0 0, .slice none 0 0]) 27 :: bx (γ4 0) (#[.int .i64 now, .slice p n cap, .slice pa na ca]) 27 :: bx (γ2 0) (#[.slice none 0 0]) 35 :: bx (γ1 2) (#[.int .i64 0, .slice none 0 0, .slice none 0 0]) 27 :: bx (γ1 1) (#[.int .i64 to]) 2 :: bx (γ1 0) (#[.int .i64 now, .slice p n cap, .slice pa na ca]) 27 :: (Y389 ++ (Y263 ++ []))) ?_ (fun hmx4 => ?_)
    ·
     rintro _ _
     refine any_fork [5, 10] (by kernel_rfl) (by simp) (each_cons _ rfl ?_ (each_cons _ rfl ?_ (each_nil)))
     ·
      refine cP (fun v L' => ∃ q_ m_ c_ Y_ q2_ m2_ c2_ X_, v = .tuple #[.agg #[.int .i64 to, .slice q_ m_ c_], .slice q2_ m2_ c2_, .int .i64 0] ∧ L' = List.take 7 (bx (γ303 0) (#[.int .i64 now, .slice q389 n cq389, .slice q263 na cq263]) 27 :: bx (γ4 1) (#[.int .i64 0, .slice none 0 0, .slice none 0 0]) 27 :: bx (γ4 0) (#[.int .i64 now, .slice p n cap, .slice pa na ca]) 27 :: bx (γ2 0) (#[.slice none 0 0]) 35 :: bx (γ1 2) (#[.int .i64 0, .slice none 0 0, .slice none 0 0]) 27 :: bx (γ1 1) (#[.int .i64 to]) 2 :: bx (γ1 0) (#[.int .i64 now, .slice p n cap, .slice pa na ca]) 27 :: (Y389 ++ (Y263 ++ []))) ++ (Y_ ++ (X_ ++ List.drop 7 (bx (γ303 0) (#[.int .i64 now, .slice q389 n cq389, .slice q263 na cq263]) 27 :: bx (γ4 1) (#[.int .i64 0, .slice none 0 0, .slice none 0 0]) 27 :: bx (γ4 0) (#[.int .i64 now, .slice p n cap, .slice pa na ca]) 27 :: bx (γ2 0) (#[.slice none 0 0]) 35 :: bx (γ1 2) (#[.int .i64 0, .slice none 0 0, .slice none 0 0]) 27 :: bx (γ1 1) (#[.int .i64 to]) 2 :: bx (γ1 0) (#[.int .i64 now, .slice p n cap, .slice pa na ca]) 27 :: (Y389 ++ (Y263 ++ []))))) ∧ SlO 42 Y_ q_ m_ c_ (leL ts to) ∧ SlO 42 X_ q2_ m2_ c2_ (sortT (duL ts to))) (fun args w => Tryz.call33 args w) (fun w hw => by have := pass_t now q389 n cq389 ts to w (hO389.atN (A := [_, _, _, _, _, _, _]) hw) hO389.len (by omega); rw [passW_y (al_iff.1 q6).wh (of_decide_eq_true q393), passD_y (al_iff.1 q6).wh (of_decide_eq_true q393)] at this; exact this.mono fun e w' ⟨q_, m_, c_, Y_, q2_, m2_, c2_, X_, he, h1, h2, hb, hY⟩ => ⟨_, _, he, ⟨q_, m_, c_, Y_, q2_, m2_, c2_, X_, rfl, rfl, h1, h2⟩, hw.joinT hb hY 7⟩) ?_
      rintro v996 L996 ⟨q996, m996, c996, Y996, p996, k996, d996, Yx996, rfl, rfl, hO996, hP996⟩
      have hm996 := hO996.len
      have hn996 := hP996.len
      refine od_ ?_
      refine tk (m := 4) [6, 7, 8, 9] [] [0, 2] [(15, .agg #[.int .i64 to, .slice q996 m996 c996]), (16, .slice p996 k996 d996), (17, .int .i64 0)] ([]) #[true, true, true, true, true, true, true, true, true, true, false, false, false, false] al0 ?_
      exact wk (hmx8 (Y996, Yx996, c996, d996, k996, m996, p996, q996) ⟨hO996, hP996⟩) [0, 2, 15, 16, 17] [[_], [_], [_], [_], [_], [_], [_], _, _, _, _] [0, 1, 2, 3, 4, 5, 6, 7, 8, 9, 10] rfl rfl
     ·
      refine mo0 1 [] [0, 2, 12, 13] (fun γ1096 => [(5, .pointer (some ⟨γ1096 0, 0, none⟩))]) (fun γ1096 L => bx (γ1096 0) (#[.int .i64 0, .slice none 0 0]) 24 :: L) (fun γ1096 => ?_)
      refine od_ ?_
      exact wk (hmx7 γ1096 trivial) [0, 2, 5, 12, 13] [[_], [_], [_], [_], [_], [_], [_], [_], _, _] [0, 1, 2, 3, 4, 5, 6, 7, 8, 9] rfl rfl
    refine any_cutX (V := (Nat → Nat)) (fun γ1096 => True) 10 #[true, true, true, false, false, false, false, false, false, false, true, false, false, false] (fun γ1096 => [(0, .pointer (some ⟨γ303 0, 0, none⟩)), (1, .pointer (some ⟨γ1 1, 0, none⟩)), (2, .pointer (some ⟨γ2 0, 0, none⟩)), (5, .pointer (some ⟨γ1096 0, 0, none⟩)), (11, .pointer (some ⟨γ303 0, 0, none⟩))]) (fun γ1096 => bx (γ1096 0) (#[.int .i64 0, .slice none 0 0]) 24 :: bx (γ303 0) (#[.int .i64 now, .slice q389 n cq389, .slice q263 na cq263]) 27 :: bx (γ4 1) (#[.int .i64 0, .slice none 0 0, .slice none 0 0]) 27 :: bx (γ4 0) (#[.int .i64 now, .slice p n cap, .slice pa na ca]) 27 :: bx (γ2 0) (#[.slice none 0 0]) 35 :: bx (γ1 2) (#[.int .i64 0, .slice none 0 0, .slice none 0 0]) 27 :: bx (γ1 1) (#[.int .i64 to]) 2 :: bx (γ1 0) (#[.int .i64 now, .slice p n cap, .slice pa na ca]) 27 :: (Y389 ++ (Y263 ++ []))) ?_ (fun hmx3 => ?_)
    ·
     rintro γ1096 _
     refine any_fork [3, 4] (by kernel_rfl) (by simp) (each_cons _ rfl ?_ (each_cons _ rfl ?_ (each_nil)))
     ·
      refine qo0 1 [(3, .go (owns 1 0 2))] [0, 1, 2, 5] [(12, .agg #[.int .i64 now, .slice q389 n cq389])] ?_
      refine od_ ?_
      exact wk (hmx5 γ1096 trivial) [0, 1, 2, 5, 12] [[_], [_], [_], [_], [_], [_], [_], [_], _, _] [0, 1, 2, 3, 4, 5, 6, 7, 8, 9] rfl rfl
     ·
      refine qo0 1 [(4, .go (owns 6 0 1))] [0, 2, 5, 11] [(13, .int .i64 to)] ?_
      refine od_ ?_
      exact wk (hmx6 γ1096 trivial) [0, 2, 5, 11, 13] [[_], [_], [_], [_], [_], [_], [_], [_], _, _] [0, 1, 2, 3, 4, 5, 6, 7, 8, 9] rfl rfl
    refine any_cutX (V := Unit) (fun _ => True) 10 #[true, true, true, false, true, false, false, false, false, false, false, false, false, false] (fun _ => [(0, .pointer (some ⟨γ303 0, 0, none⟩)), (2, .pointer (some ⟨γ2 0, 0, none⟩)), (11, .pointer (some ⟨γ303 0, 0, none⟩)), (13, .int .i64 to)]) (fun _ => bx (γ303 0) (#[.int .i64 now, .slice q389 n cq389, .slice q263 na cq263]) 27 :: bx (γ4 1) (#[.int .i64 0, .slice none 0 0, .slice none 0 0]) 27 :: bx (γ4 0) (#[.int .i64 now, .slice p n cap, .slice pa na ca]) 27 :: bx (γ2 0) (#[.slice none 0 0]) 35 :: bx (γ1 2) (#[.int .i64 0, .slice none 0 0, .slice none 0 0]) 27 :: bx (γ1 1) (#[.int .i64 to]) 2 :: bx (γ1 0) (#[.int .i64 now, .slice p n cap, .slice pa na ca]) 27 :: (Y389 ++ (Y263 ++ []))) ?_ (fun hmx2 => ?_)
    ·
     rintro _ _
     refine any_fork [3, 10] (by kernel_rfl) (by simp) (each_cons _ rfl ?_ (each_cons _ rfl ?_ (each_nil)))
     ·
      refine qo0 1 [(3, .go (owns 0 0 2))] [0, 2, 13] [(12, .agg #[.int .i64 now, .slice q389 n cq389])] ?_
      refine od_ ?_
      exact wk (hmx4 () trivial) [0, 2, 12, 13] [[_], [_], [_], [_], [_], [_], [_], _, _] [0, 1, 2, 3, 4, 5, 6, 7, 8] rfl rfl
     ·
      refine mo0 1 [] [0, 2, 11, 13] (fun γ1096 => [(5, .pointer (some ⟨γ1096 0, 0, none⟩))]) (fun γ1096 L => bx (γ1096 0) (#[.int .i64 0, .slice none 0 0]) 24 :: L) (fun γ1096 => ?_)
      refine od_ ?_
      exact wk (hmx6 γ1096 trivial) [0, 2, 5, 11, 13] [[_], [_], [_], [_], [_], [_], [_], [_], _, _] [0, 1, 2, 3, 4, 5, 6, 7, 8, 9] rfl rfl
    refine any_cutX (V := Unit) (fun _ => True) 10 #[true, true, true, true, false, false, false, false, false, false, false, false, false, false] (fun _ => [(0, .pointer (some ⟨γ303 0, 0, none⟩)), (1, .pointer (some ⟨γ1 1, 0, none⟩)), (2, .pointer (some ⟨γ2 0, 0, none⟩)), (12, .agg #[.int .i64 now, .slice q389 n cq389])]) (fun _ => bx (γ303 0) (#[.int .i64 now, .slice q389 n cq389, .slice q263 na cq263]) 27 :: bx (γ4 1) (#[.int .i64 0, .slice none 0 0, .slice none 0 0]) 27 :: bx (γ4 0) (#[.int .i64 now, .slice p n cap, .slice pa na ca]) 27 :: bx (γ2 0) (#[.slice none 0 0]) 35 :: bx (γ1 2) (#[.int .i64 0, .slice none 0 0, .slice none 0 0]) 27 :: bx (γ1 1) (#[.int .i64 to]) 2 :: bx (γ1 0) (#[.int .i64 now, .slice p n cap, .slice pa na ca]) 27 :: (Y389 ++ (Y263 ++ []))) ?_ (fun hmx1 => ?_)
    ·
     rintro _ _
     refine any_fork [4, 10] (by kernel_rfl) (by simp) (each_cons _ rfl ?_ (each_cons _ rfl ?_ (each_nil)))
     ·
      refine qo0 1 [(4, .go (owns 5 0 1))] [0, 2, 12] [(13, .int .i64 to)] ?_
      refine od_ ?_
      exact wk (hmx4 () trivial) [0, 2, 12, 13] [[_], [_], [_], [_], [_], [_], [_], _, _] [0, 1, 2, 3, 4, 5, 6, 7, 8] rfl rfl
     ·
      refine mo0 1 [] [0, 1, 2, 12] (fun γ1096 => [(5, .pointer (some ⟨γ1096 0, 0, none⟩))]) (fun γ1096 L => bx (γ1096 0) (#[.int .i64 0, .slice none 0 0]) 24 :: L) (fun γ1096 => ?_)
      refine od_ ?_
      exact wk (hmx5 γ1096 trivial) [0, 1, 2, 5, 12] [[_], [_], [_], [_], [_], [_], [_], [_], _, _] [0, 1, 2, 3, 4, 5, 6, 7, 8, 9] rfl rfl
    refine any_fork [3, 4, 10] (by kernel_rfl) (by simp) (each_cons _ rfl ?_ (each_cons _ rfl ?_ (each_cons _ rfl ?_ (each_nil))))
    ·
     refine qo0 1 [(3, .go (owns 0 0 2))] [0, 1, 2] [(12, .agg #[.int .i64 now, .slice q389 n cq389])] ?_
     refine od_ ?_
     exact wk (hmx1 () trivial) [0, 1, 2, 12] [[_], [_], [_], [_], [_], [_], [_], _, _] [0, 1, 2, 3, 4, 5, 6, 7, 8] rfl rfl
    ·
     refine qo0 1 [(4, .go (owns 5 0 1))] [0, 2, 11] [(13, .int .i64 to)] ?_
     refine od_ ?_
     exact wk (hmx2 () trivial) [0, 2, 11, 13] [[_], [_], [_], [_], [_], [_], [_], _, _] [0, 1, 2, 3, 4, 5, 6, 7, 8] rfl rfl
    ·
     refine mo0 1 [] [0, 1, 2, 11] (fun γ1096 => [(5, .pointer (some ⟨γ1096 0, 0, none⟩))]) (fun γ1096 L => bx (γ1096 0) (#[.int .i64 0, .slice none 0 0]) 24 :: L) (fun γ1096 => ?_)
     refine od_ ?_
     exact wk (hmx3 γ1096 trivial) [0, 1, 2, 5, 11] [[_], [_], [_], [_], [_], [_], [_], [_], _, _] [0, 1, 2, 3, 4, 5, 6, 7, 8, 9] rfl rfl
   rintro ⟨Y996, Yx996, c996, d996, k996, m996, p996, q996, γ1096⟩ ⟨hO996, hP996⟩
   refine any_nil (by kernel_rfl) ?_
   refine ds_ (sq_ (sq_ (qa0 [] [0, 2, 5, 6, 7] [(19, .bool false)] (ds_ (f_ (at_skip (ds_ (sq_ (ma0 [(1, .go (owns 0 0 2)), (4, .go (owns 1 0 2))] [0, 2, 6] (fun _ => []) (fun _ L => (L.set 1 (bx (γ303 0) (#[.int .i64 to, .slice q996 m996 c996, .slice q263 na cq263]) 27))) (fun _ => ds_ (sq_ (ao_ (qo0 2 [] [2] [(25, .pointer (some ⟨γ303 0, 0, none⟩)), (26, .slice p996 k996 d996)] (ops_inline (g := 35) (args := #[.pointer (some ⟨γ303 0, 0, none⟩), .slice p996 k996 d996]) (by kernel_rfl) (by kernel_rfl) (by kernel_rfl) (fun args w => Tryz.call35 args w) Tryz.func35 rfl Tryz.ntmps35 rfl (sq_ (ma0 [] [] (fun γ1224 => [(2, .pointer (some ⟨γ1224 0, 0, none⟩)), (3, .pointer (some ⟨γ1224 1, 0, none⟩))]) (fun γ1224 L => bx (γ1224 1) (#[.slice p996 k996 d996]) 22 :: bx (γ1224 0) (#[.pointer (some ⟨γ303 0, 0, none⟩)]) 58 :: L) (fun γ1224 => ds_ (sq_ (qa0 [] [] [(4, .func (.func 66) #[] #[.pointer (some ⟨γ1224 1, 0, none⟩), .pointer (some ⟨γ1224 0, 0, none⟩)])] (ds_ (bk ([]) (.func (.func 66) #[] #[.pointer (some ⟨γ1224 1, 0, none⟩), .pointer (some ⟨γ1224 0, 0, none⟩)]) (ops_inlineM (g := 34) (args := #[.func (.func 66) #[] #[.pointer (some ⟨γ1224 1, 0, none⟩), .pointer (some ⟨γ1224 0, 0, none⟩)]]) (by kernel_rfl) (by kernel_rfl) (by kernel_rfl) (fun args w => Tryz.call34 args w) Tryz.func34 rfl Tryz.ntmps34 rfl (sq_ (qa0 [] [0] [] (ds_ (sq_ (ma0 [] [0] (fun γ1228 => [(3, .pointer (some ⟨γ1228 0, 0, none⟩))]) (fun γ1228 L => bx (γ1228 0) (#[.slice none 0 0]) 35 :: L) (fun γ1228 => ds_ (sq_ (sq_ (qa0 [] [3] [(5, .func (.func 66) #[] #[.pointer (some ⟨γ1224 1, 0, none⟩), .pointer (some ⟨γ1224 0, 0, none⟩)])] (ds_ (at_block (at_range (gf := 66) (lb := #[.pointer (some ⟨γ1224 1, 0, none⟩), .pointer (some ⟨γ1224 0, 0, none⟩)]) (by kernel_rfl) (fun args w => Tryz.call66 args w) Tryz.func66 rfl Tryz.ntmps66 (by kernel_rfl) (fun γ1230 r1230 hr1230 => sq_ (qa0 [(0, .go (owns 3 0 1))] [0, 2] [(13, .slice p996 k996 d996), (14, .int .i64 ((k996 : Nat))), (15, .int .i64 0)] (ds_ (at_block (At.pick [[(γ1230 1, .loop r1230)], [(γ1230 0, .deferred (some []))], [bx (γ1228 0) (#[.slice none 0 0]) 35], [bx (γ1224 1) (#[.slice p996 k996 d996]) 22], [bx (γ1224 0) (#[.pointer (some ⟨γ303 0, 0, none⟩)]) 58], [bx (γ1096 0) (#[.int .i64 to, .slice q996 m996 c996]) 24], [bx (γ303 0) (#[.int .i64 to, .slice q996 m996 c996, .slice q263 na cq263]) 27], [bx (γ4 1) (#[.int .i64 0, .slice none 0 0, .slice none 0 0]) 27], [bx (γ4 0) (#[.int .i64 now, .slice p n cap, .slice pa na ca]) 27], [bx (γ2 0) (#[.slice none 0 0]) 35], [bx (γ1 2) (#[.int .i64 0, .slice none 0 0, .slice none 0 0]) 27], [bx (γ1 1) (#[.int .i64 to]) 2], [bx (γ1 0) (#[.int .i64 now, .slice p n cap, .slice pa na ca]) 27], Y996, Yx996, Y389, Y263] [0, 1, 2, 3, 4, 5, 6, 7, 8, 9, 10, 11, 12, 13, 16, 14] [15] ((γ1230 1, .loop r1230) :: (γ1230 0, .deferred (some [])) :: bx (γ1228 0) (#[.slice none 0 0]) 35 :: bx (γ1224 1) (#[.slice p996 k996 d996]) 22 :: bx (γ1224 0) (#[.pointer (some ⟨γ303 0, 0, none⟩)]) 58 :: bx (γ1096 0) (#[.int .i64 to, .slice q996 m996 c996]) 24 :: bx (γ303 0) (#[.int .i64 to, .slice q996 m996 c996, .slice q263 na cq263]) 27 :: bx (γ4 1) (#[.int .i64 0, .slice none 0 0, .slice none 0 0]) 27 :: bx (γ4 0) (#[.int .i64 now, .slice p n cap, .slice pa na ca]) 27 :: bx (γ2 0) (#[.slice none 0 0]) 35 :: bx (γ1 2) (#[.int .i64 0, .slice none 0 0, .slice none 0 0]) 27 :: bx (γ1 1) (#[.int .i64 to]) 2 :: bx (γ1 0) (#[.int .i64 now, .slice p n cap, .slice pa na ca]) 27 :: (Y996 ++ (Y263 ++ (Yx996 ++ [])))) (by kernel_rfl) rfl rfl ?_)))))))))))))))))))))))))))))))))))))))
   have hgA := al_iff.1 q6
   have hsp := of_decide_eq_true q393
   have hn0 := hgA.gw.n0
   have hkD := hP996.len
   have hkF := fired_len (to := to) hgA.gw
   refine at_loop (α := Nat × List Ob × Option Addr × Nat × Nat × List Ob × Option Addr × Nat × Nat × List Ob × Option Addr × Nat × Nat) [0, 2, 13, 14, 15] (fun ⟨j, Yt, pt, nt, ct, Yr, pr, nr, cr, Yo, po, no, co⟩ => [(0, .func (.yield (γ1230 1)) #[] #[]), (2, .pointer (some ⟨γ1224 0, 0, none⟩)), (13, .slice p996 k996 d996), (14, .int .i64 ((k996 : Nat))), (15, .int .i64 ((j : Nat)))]) (fun ⟨j, Yt, pt, nt, ct, Yr, pr, nr, cr, Yo, po, no, co⟩ => (γ1230 1, .loop r1230) :: (γ1230 0, .deferred (some [])) :: bx (γ1228 0) (#[.slice po no co]) 35 :: bx (γ1224 1) (#[.slice p996 k996 d996]) 22 :: bx (γ1224 0) (#[.pointer (some ⟨γ303 0, 0, none⟩)]) 58 :: bx (γ1096 0) (#[.int .i64 to, .slice q996 m996 c996]) 24 :: bx (γ303 0) (#[.int .i64 to, .slice pt nt ct, .slice pr nr cr]) 27 :: bx (γ4 1) (#[.int .i64 0, .slice none 0 0, .slice none 0 0]) 27 :: bx (γ4 0) (#[.int .i64 now, .slice p n cap, .slice pa na ca]) 27 :: bx (γ2 0) (#[.slice none 0 0]) 35 :: bx (γ1 2) (#[.int .i64 0, .slice none 0 0, .slice none 0 0]) 27 :: bx (γ1 1) (#[.int .i64 to]) 2 :: bx (γ1 0) (#[.int .i64 now, .slice p n cap, .slice pa na ca]) 27 :: (Yt ++ (Yr ++ (Yo ++ (Yx996 ++ []))))) (fun ⟨j, Yt, pt, nt, ct, Yr, pr, nr, cr, Yo, po, no, co⟩ => j ≤ k996 ∧ RInv to ts rs j ∧ SlO 42 Yt pt nt ct (rgT to ts rs j) ∧ SlO 32 Yr pr nr cr (rgR to ts rs j) ∧ SlO 50 Yo po no co (rgO to ts rs j)) (fun ⟨j, Yt, pt, nt, ct, Yr, pr, nr, cr, Yo, po, no, co⟩ => k996 - j) (0, Y996, q996, m996, c996, Y263, q263, na, cq263, [], none, 0, 0) (by kernel_rfl) rfl ⟨Nat.zero_le _, rinv_zero hgA hsp.1 hsp.2, hO996, hO263, SlO.nil⟩ ?_
   rintro ⟨j, Yt, pt, nt, ct, Yr, pr, nr, cr, Yo, po, no, co⟩
   rintro ⟨hj, hI, hT, hR, hQ⟩
   have hlw : (rgT to ts rs j).length ≤ 32 := (wheel_iff.1 hI.wh').len
   have hlr : (rgR to ts rs j).length ≤ 16 := rows_len hI.rr' hI.al'
   have hlo : (rgO to ts rs j).length ≤ j := hI.ol
   have hnt := hT.len
   have hnr := hR.len
   have hno := hQ.len
   refine sq_ ?_
   by_cases q1233 : ((j : Nat) : Int) < ((k996 : Nat) : Int)
   ·
    refine qa [(0, .yes)] [0, 2, 13, 14, 15] [(16, .bool true)] ([((j : Nat) : Int) < ((k996 : Nat) : Int)]) (al1 q1233) (ds_ (sq_ (t_ (at_skip (ds_ (sq_ (at_block (sq_ (At.pick [[(γ1230 1, .loop r1230)], [(γ1230 0, .deferred (some []))], [bx (γ1228 0) (#[.slice po no co]) 35], [bx (γ1224 1) (#[.slice p996 k996 d996]) 22], [bx (γ1224 0) (#[.pointer (some ⟨γ303 0, 0, none⟩)]) 58], [bx (γ1096 0) (#[.int .i64 to, .slice q996 m996 c996]) 24], [bx (γ303 0) (#[.int .i64 to, .slice pt nt ct, .slice pr nr cr]) 27], [bx (γ4 1) (#[.int .i64 0, .slice none 0 0, .slice none 0 0]) 27], [bx (γ4 0) (#[.int .i64 now, .slice p n cap, .slice pa na ca]) 27], [bx (γ2 0) (#[.slice none 0 0]) 35], [bx (γ1 2) (#[.int .i64 0, .slice none 0 0, .slice none 0 0]) 27], [bx (γ1 1) (#[.int .i64 to]) 2], [bx (γ1 0) (#[.int .i64 now, .slice p n cap, .slice pa na ca]) 27], Yt, Yr, Yo, Yx996] [0, 1, 2, 3, 4, 5, 6, 7, 8, 9, 10, 11, 12, 16, 13, 14, 15] [] ((γ1230 1, .loop r1230) :: (γ1230 0, .deferred (some [])) :: bx (γ1228 0) (#[.slice po no co]) 35 :: bx (γ1224 1) (#[.slice p996 k996 d996]) 22 :: bx (γ1224 0) (#[.pointer (some ⟨γ303 0, 0, none⟩)]) 58 :: bx (γ1096 0) (#[.int .i64 to, .slice q996 m996 c996]) 24 :: bx (γ303 0) (#[.int .i64 to, .slice pt nt ct, .slice pr nr cr]) 27 :: bx (γ4 1) (#[.int .i64 0, .slice none 0 0, .slice none 0 0]) 27 :: bx (γ4 0) (#[.int .i64 now, .slice p n cap, .slice pa na ca]) 27 :: bx (γ2 0) (#[.slice none 0 0]) 35 :: bx (γ1 2) (#[.int .i64 0, .slice none 0 0, .slice none 0 0]) 27 :: bx (γ1 1) (#[.int .i64 to]) 2 :: bx (γ1 0) (#[.int .i64 now, .slice p n cap, .slice pa na ca]) 27 :: (Yx996 ++ (Yt ++ (Yr ++ (Yo ++ []))))) (by kernel_rfl) rfl rfl ?_)))))))))
    have hln1236 := hP996.len
    obtain ⟨g1236, cs1236, rfl, rfl, hOw1236⟩ := hP996.rowOf (i := j) (by omega)
    obtain ⟨x1238, hx1238⟩ := get_some (l := (sortT (duL ts to))) (m := j) (by omega)
    refine ma [(0, .at g1236 0 j), (1, .go (ownps 13 (0 + j * 2) [.int .i64 x1238.id, .int .i64 x1238.due])), (3, .go (owns 0 0 2))] [0, 2, 13, 14, 15] (fun γ1239 => [(5, .pointer (some ⟨γ1239 0, 0, none⟩))]) (fun γ1239 L => bx (γ1239 0) (#[.int .i64 x1238.id, .int .i64 x1238.due]) 42 :: L) (fun γ1239 => [(some ⟨g1236, 0, none⟩ : Option Addr) = some ⟨g1236, 0, none⟩, ((j : Nat)) = ((j : Nat) : Int), j < k996] ++ (acellsP cs1236 (0 + j * 2) [.int .i64 x1238.id, .int .i64 x1238.due])) (fun γ1239 => (alA (al2 rfl (al2 rfl (al1 (by omega)))) (rda_pre ((hOw1236.rdx hP996.len hx1238)) _ rfl))) (fun γ1239 => ds_ (sq_ ?_))
    have hft := fired_tm hgA.gw (List.mem_of_getElem? hx1238)
    by_cases q1240 : (x1238.id : Int) < (16 : Int)
    ·
     have hft := fired_tm hgA.gw (List.mem_of_getElem? hx1238)
     refine ma [(1, .go (owns 0 0 1)), (2, .is [] (.int .i64 x1238.id)), (3, .fit), (5, .go (owns 0 1 1)), (8, .go (owns 0 0 4))] [0, 2, 5, 13, 14, 15] (fun γ1241 => [(6, .pointer (some ⟨γ1241 0, 0, none⟩))]) (fun γ1241 L => bx (γ1241 0) (#[.int .i64 (x1238.id + 1), .int .i64 0, .int .i64 x1238.due, .int .i64 0]) 50 :: L) (fun γ1241 => [Value.int .i64 (Int.tmod x1238.id 16) = .int .i64 x1238.id] ++ ([Fit .i64 (x1238.id + 1)])) (fun γ1241 => (alA (al1 (by rw [tm_lo (by omega) (by omega)])) (al1 (fit64 (by omega) (by omega))))) (fun γ1241 => ds_ (sq_ (sq_ (qa [(1, .go (owns 1 0 1)), (2, .yes)] [0, 2, 5, 6, 13, 14, 15] [(28, .bool true)] ([(x1238.id : Int) < (16 : Int)]) (al1 q1240) (ds_ (t_ (sq_ ?_)))))))
     obtain ⟨z1243, hz1243⟩ := hI.pn' x1238 (mem_at hx1238) q1240
     have hp_z1243 := pos_getK hI.rr' hz1243
     have hl_z1243 := (List.getElem?_eq_some_iff.1 hp_z1243).1
     have hz_z1243 := getK_mem hz1243
     have haz := hI.al' z1243 hz_z1243.1
     refine at_calm rfl (by kernel_rfl) (by kernel_rfl) ?_
     refine cm 6 [(0, .go (owns 6 0 1)), (3, .go (owns 8 2 1)), (5, .go (owns 0 0 1))] [0, 2, 5, 6, 13, 14, 15] [(33, .slice pr nr cr), (35, .int .i64 (x1238.id + 1))] ([]) (by kernel_rfl) rfl al0 ?_
     refine cK (.tuple #[.int .i64 ((posK Alm.vcpu ((rgR to ts rs j)) (x1238.id + 1) : Nat)), .bool true]) (fun args w => Tryz.call30 args w) (fun w hw => by have := atg_t pr nr cr ((rgR to ts rs j)) (x1238.id + 1) w (hR.atN (A := (_ :: _ :: _ :: _ :: _ :: _ :: _ :: _ :: _ :: _ :: _ :: _ :: _ :: _ :: _ :: _ :: Yt)) hw) hR.len (by omega) hI.rr' hI.al' (by omega) (by omega); rw [hasK_some hz1243] at this; exact this) ?_
     refine cm 5 [] [0, 2, 5, 6, 13, 14, 15] [(7, .int .i64 ((posK Alm.vcpu ((rgR to ts rs j)) (x1238.id + 1) : Nat)))] ([]) (by kernel_rfl) rfl al0 ?_
     refine calm_nil' ?_
     refine ds_ (sq_ (At.pick [[bx (γ1241 0) (#[.int .i64 (x1238.id + 1), .int .i64 0, .int .i64 x1238.due, .int .i64 0]) 50], [bx (γ1239 0) (#[.int .i64 x1238.id, .int .i64 x1238.due]) 42], [(γ1230 1, .loop r1230)], [(γ1230 0, .deferred (some []))], [bx (γ1228 0) (#[.slice po no co]) 35], [bx (γ1224 1) (#[.slice (some ⟨g1236, 0, none⟩) k996 d996]) 22], [bx (γ1224 0) (#[.pointer (some ⟨γ303 0, 0, none⟩)]) 58], [bx (γ1096 0) (#[.int .i64 to, .slice q996 m996 c996]) 24], [bx (γ303 0) (#[.int .i64 to, .slice pt nt ct, .slice pr nr cr]) 27], [bx (γ4 1) (#[.int .i64 0, .slice none 0 0, .slice none 0 0]) 27], [bx (γ4 0) (#[.int .i64 now, .slice p n cap, .slice pa na ca]) 27], [bx (γ2 0) (#[.slice none 0 0]) 35], [bx (γ1 2) (#[.int .i64 0, .slice none 0 0, .slice none 0 0]) 27], [bx (γ1 1) (#[.int .i64 to]) 2], [bx (γ1 0) (#[.int .i64 now, .slice p n cap, .slice pa na ca]) 27], [bx g1236 cs1236 42], Yt, Yr, Yo] [0, 1, 2, 3, 4, 5, 6, 7, 8, 9, 10, 11, 12, 13, 14, 15, 17, 16, 18] [] (bx (γ1241 0) (#[.int .i64 (x1238.id + 1), .int .i64 0, .int .i64 x1238.due, .int .i64 0]) 50 :: bx (γ1239 0) (#[.int .i64 x1238.id, .int .i64 x1238.due]) 42 :: (γ1230 1, .loop r1230) :: (γ1230 0, .deferred (some [])) :: bx (γ1228 0) (#[.slice po no co]) 35 :: bx (γ1224 1) (#[.slice (some ⟨g1236, 0, none⟩) k996 d996]) 22 :: bx (γ1224 0) (#[.pointer (some ⟨γ303 0, 0, none⟩)]) 58 :: bx (γ1096 0) (#[.int .i64 to, .slice q996 m996 c996]) 24 :: bx (γ303 0) (#[.int .i64 to, .slice pt nt ct, .slice pr nr cr]) 27 :: bx (γ4 1) (#[.int .i64 0, .slice none 0 0, .slice none 0 0]) 27 :: bx (γ4 0) (#[.int .i64 now, .slice p n cap, .slice pa na ca]) 27 :: bx (γ2 0) (#[.slice none 0 0]) 35 :: bx (γ1 2) (#[.int .i64 0, .slice none 0 0, .slice none 0 0]) 27 :: bx (γ1 1) (#[.int .i64 to]) 2 :: bx (γ1 0) (#[.int .i64 now, .slice p n cap, .slice pa na ca]) 27 :: bx g1236 cs1236 42 :: (Yr ++ (Yt ++ (Yo ++ [])))) (by kernel_rfl) rfl rfl ?_))
     have hln1247 := hR.len
     obtain ⟨g1247, cs1247, rfl, rfl, hOw1247⟩ := hR.rowOf (i := posK Alm.vcpu ((rgR to ts rs j)) (x1238.id + 1)) (by omega)
     refine ma [(0, .go (owns 6 0 1)), (3, .go (owns 8 2 1)), (5, .at g1247 0 (posK Alm.vcpu ((rgR to ts rs j)) (x1238.id + 1))), (6, .go (ownps 16 (0 + (posK Alm.vcpu ((rgR to ts rs j)) (x1238.id + 1)) * 3) [.int .i64 z1243.vcpu, .int .i64 z1243.port, .int .i64 z1243.every])), (8, .go (owns 0 0 3))] [0, 2, 5, 6, 13, 14, 15] (fun γ1248 => [(9, .pointer (some ⟨γ1248 0, 0, none⟩))]) (fun γ1248 L => bx (γ1248 0) (#[.int .i64 z1243.vcpu, .int .i64 z1243.port, .int .i64 z1243.every]) 32 :: L) (fun γ1248 => [(some ⟨g1247, 0, none⟩ : Option Addr) = some ⟨g1247, 0, none⟩, ((posK Alm.vcpu ((rgR to ts rs j)) (x1238.id + 1) : Nat)) = ((posK Alm.vcpu ((rgR to ts rs j)) (x1238.id + 1) : Nat) : Int), posK Alm.vcpu ((rgR to ts rs j)) (x1238.id + 1) < nr] ++ (acellsP cs1247 (0 + (posK Alm.vcpu ((rgR to ts rs j)) (x1238.id + 1)) * 3) [.int .i64 z1243.vcpu, .int .i64 z1243.port, .int .i64 z1243.every])) (fun γ1248 => (alA (al2 rfl (al2 rfl (al1 (by omega)))) (rda_pre ((hOw1247.rdx hR.len hp_z1243)) _ rfl))) (fun γ1248 => ds_ (sq_ ?_))
     refine at_calm rfl (by kernel_rfl) (by kernel_rfl) ?_
     refine cm 8 [(0, .go (owns 0 0 3)), (2, .go (owns 2 1 1)), (3, .go (owns 7 0 1)), (7, .go (owns 9 0 1))] [0, 2, 5, 6, 9, 13, 14, 15] [(47, .agg #[.int .i64 z1243.vcpu, .int .i64 z1243.port, .int .i64 z1243.every]), (49, .int .i64 x1238.due), (54, .int .i64 to)] ([]) (by kernel_rfl) rfl al0 ?_
     rcases hn1250 : nextA z1243 x1238.due to with _ | nx1250
     ·
      refine cK (.tuple #[.int .i64 (missA z1243 x1238.due to), .int .i64 (againM z1243 x1238.due to), .bool false]) (fun args w => Tryz.call67 args w) (fun w hw => by have := again_t z1243 x1238.due to w haz (by omega) (by omega) (by omega); rw [hn1250] at this; exact this) ?_
      refine cm 7 [] [0, 2, 5, 6, 9, 13, 14, 15] [(10, .int .i64 (missA z1243 x1238.due to)), (11, .int .i64 (againM z1243 x1238.due to)), (12, .bool false)] ([]) (by kernel_rfl) rfl al0 ?_
      refine calm_nil' ?_
      refine ds_ (sq_ (ma0 [(1, .go (owns 0 1 1)), (4, .go (owns 1 1 1)), (6, .go (owns 1 3 1))] [0, 2, 5, 6, 9, 11, 12, 13, 14, 15] (fun _ => []) (fun _ L => (L.set 1 (bx (γ1241 0) (#[.int .i64 (x1238.id + 1), .int .i64 z1243.port, .int .i64 x1238.due, .int .i64 (missA z1243 x1238.due to)]) 50))) (fun _ => ds_ (sq_ (qa0 [] [0, 2, 6, 9, 13, 14, 15] [(73, .bool true)] (ds_ (t_ (ao_ (qo0 3 [(0, .go (owns 7 0 1)), (2, .go (owns 0 0 1))] [0, 2, 6, 13, 14, 15] [(74, .pointer (some ⟨γ303 0, 0, none⟩)), (76, .int .i64 z1243.vcpu)] (Ops.pick [[bx (γ1248 0) (#[.int .i64 z1243.vcpu, .int .i64 z1243.port, .int .i64 z1243.every]) 32], [bx (γ1241 0) (#[.int .i64 (x1238.id + 1), .int .i64 z1243.port, .int .i64 x1238.due, .int .i64 (missA z1243 x1238.due to)]) 50], [bx (γ1239 0) (#[.int .i64 x1238.id, .int .i64 x1238.due]) 42], [(γ1230 1, .loop r1230)], [(γ1230 0, .deferred (some []))], [bx (γ1228 0) (#[.slice po no co]) 35], [bx (γ1224 1) (#[.slice (some ⟨g1236, 0, none⟩) k996 d996]) 22], [bx (γ1224 0) (#[.pointer (some ⟨γ303 0, 0, none⟩)]) 58], [bx (γ1096 0) (#[.int .i64 to, .slice q996 m996 c996]) 24], [bx (γ303 0) (#[.int .i64 to, .slice pt nt ct, .slice (some ⟨g1247, 0, none⟩) nr cr]) 27], [bx (γ4 1) (#[.int .i64 0, .slice none 0 0, .slice none 0 0]) 27], [bx (γ4 0) (#[.int .i64 now, .slice p n cap, .slice pa na ca]) 27], [bx (γ2 0) (#[.slice none 0 0]) 35], [bx (γ1 2) (#[.int .i64 0, .slice none 0 0, .slice none 0 0]) 27], [bx (γ1 1) (#[.int .i64 to]) 2], [bx (γ1 0) (#[.int .i64 now, .slice p n cap, .slice pa na ca]) 27], [bx g1236 cs1236 42], [bx g1247 cs1247 32], Yt, Yo] [9, 0, 1, 2, 3, 4, 5, 6, 7, 8, 10, 11, 12, 13, 14, 15, 16, 17, 18, 19] [] (bx (γ303 0) (#[.int .i64 to, .slice pt nt ct, .slice (some ⟨g1247, 0, none⟩) nr cr]) 27 :: bx (γ1248 0) (#[.int .i64 z1243.vcpu, .int .i64 z1243.port, .int .i64 z1243.every]) 32 :: bx (γ1241 0) (#[.int .i64 (x1238.id + 1), .int .i64 z1243.port, .int .i64 x1238.due, .int .i64 (missA z1243 x1238.due to)]) 50 :: bx (γ1239 0) (#[.int .i64 x1238.id, .int .i64 x1238.due]) 42 :: (γ1230 1, .loop r1230) :: (γ1230 0, .deferred (some [])) :: bx (γ1228 0) (#[.slice po no co]) 35 :: bx (γ1224 1) (#[.slice (some ⟨g1236, 0, none⟩) k996 d996]) 22 :: bx (γ1224 0) (#[.pointer (some ⟨γ303 0, 0, none⟩)]) 58 :: bx (γ1096 0) (#[.int .i64 to, .slice q996 m996 c996]) 24 :: bx (γ4 1) (#[.int .i64 0, .slice none 0 0, .slice none 0 0]) 27 :: bx (γ4 0) (#[.int .i64 now, .slice p n cap, .slice pa na ca]) 27 :: bx (γ2 0) (#[.slice none 0 0]) 35 :: bx (γ1 2) (#[.int .i64 0, .slice none 0 0, .slice none 0 0]) 27 :: bx (γ1 1) (#[.int .i64 to]) 2 :: bx (γ1 0) (#[.int .i64 now, .slice p n cap, .slice pa na ca]) 27 :: bx g1236 cs1236 42 :: ([bx g1247 cs1247 32] ++ (Yt ++ (Yo ++ [])))) (by kernel_rfl) rfl rfl ?_))))))))))
      refine cP (fun v L' => ∃ q_ m_ c_ Y_, v = (.tuple #[]) ∧ L' = (bx (γ303 0) #[.int .i64 to, .slice pt nt ct, .slice q_ m_ c_] 27 :: [bx (γ1248 0) (#[.int .i64 z1243.vcpu, .int .i64 z1243.port, .int .i64 z1243.every]) 32, bx (γ1241 0) (#[.int .i64 (x1238.id + 1), .int .i64 z1243.port, .int .i64 x1238.due, .int .i64 (missA z1243 x1238.due to)]) 50, bx (γ1239 0) (#[.int .i64 x1238.id, .int .i64 x1238.due]) 42, (γ1230 1, .loop r1230), (γ1230 0, .deferred (some [])), bx (γ1228 0) (#[.slice po no co]) 35, bx (γ1224 1) (#[.slice (some ⟨g1236, 0, none⟩) k996 d996]) 22, bx (γ1224 0) (#[.pointer (some ⟨γ303 0, 0, none⟩)]) 58, bx (γ1096 0) (#[.int .i64 to, .slice q996 m996 c996]) 24, bx (γ4 1) (#[.int .i64 0, .slice none 0 0, .slice none 0 0]) 27, bx (γ4 0) (#[.int .i64 now, .slice p n cap, .slice pa na ca]) 27, bx (γ2 0) (#[.slice none 0 0]) 35, bx (γ1 2) (#[.int .i64 0, .slice none 0 0, .slice none 0 0]) 27, bx (γ1 1) (#[.int .i64 to]) 2, bx (γ1 0) (#[.int .i64 now, .slice p n cap, .slice pa na ca]) 27, bx g1236 cs1236 42]) ++ (Y_ ++ ((Yt ++ (Yo ++ [])))) ∧ SlO 32 Y_ q_ m_ c_ (rdrop ((rgR to ts rs j)) z1243.vcpu)) (fun args w => Tryz.call39 args w) (fun w hw => (adrop_t _ ([bx (γ1248 0) (#[.int .i64 z1243.vcpu, .int .i64 z1243.port, .int .i64 z1243.every]) 32, bx (γ1241 0) (#[.int .i64 (x1238.id + 1), .int .i64 z1243.port, .int .i64 x1238.due, .int .i64 (missA z1243 x1238.due to)]) 50, bx (γ1239 0) (#[.int .i64 x1238.id, .int .i64 x1238.due]) 42, (γ1230 1, .loop r1230), (γ1230 0, .deferred (some [])), bx (γ1228 0) (#[.slice po no co]) 35, bx (γ1224 1) (#[.slice (some ⟨g1236, 0, none⟩) k996 d996]) 22, bx (γ1224 0) (#[.pointer (some ⟨γ303 0, 0, none⟩)]) 58, bx (γ1096 0) (#[.int .i64 to, .slice q996 m996 c996]) 24, bx (γ4 1) (#[.int .i64 0, .slice none 0 0, .slice none 0 0]) 27, bx (γ4 0) (#[.int .i64 now, .slice p n cap, .slice pa na ca]) 27, bx (γ2 0) (#[.slice none 0 0]) 35, bx (γ1 2) (#[.int .i64 0, .slice none 0 0, .slice none 0 0]) 27, bx (γ1 1) (#[.int .i64 to]) 2, bx (γ1 0) (#[.int .i64 now, .slice p n cap, .slice pa na ca]) 27, bx g1236 cs1236 42] ++ ((Yt ++ (Yo ++ [])))) [bx g1247 cs1247 32] (γ303 0) to (some ⟨g1247, 0, none⟩) nr cr pt nt ct ((rgR to ts rs j)) z1243.vcpu w (hw.pull (A := [bx (γ1248 0) (#[.int .i64 z1243.vcpu, .int .i64 z1243.port, .int .i64 z1243.every]) 32, bx (γ1241 0) (#[.int .i64 (x1238.id + 1), .int .i64 z1243.port, .int .i64 x1238.due, .int .i64 (missA z1243 x1238.due to)]) 50, bx (γ1239 0) (#[.int .i64 x1238.id, .int .i64 x1238.due]) 42, (γ1230 1, .loop r1230), (γ1230 0, .deferred (some [])), bx (γ1228 0) (#[.slice po no co]) 35, bx (γ1224 1) (#[.slice (some ⟨g1236, 0, none⟩) k996 d996]) 22, bx (γ1224 0) (#[.pointer (some ⟨γ303 0, 0, none⟩)]) 58, bx (γ1096 0) (#[.int .i64 to, .slice q996 m996 c996]) 24, bx (γ4 1) (#[.int .i64 0, .slice none 0 0, .slice none 0 0]) 27, bx (γ4 0) (#[.int .i64 now, .slice p n cap, .slice pa na ca]) 27, bx (γ2 0) (#[.slice none 0 0]) 35, bx (γ1 2) (#[.int .i64 0, .slice none 0 0, .slice none 0 0]) 27, bx (γ1 1) (#[.int .i64 to]) 2, bx (γ1 0) (#[.int .i64 now, .slice p n cap, .slice pa na ca]) 27, bx g1236 cs1236 42]) (Y := [bx g1247 cs1247 32]) (R := ((Yt ++ (Yo ++ []))))) hR (by omega) ).mono fun e w' ⟨q_, m_, c_, Y_, he, hO, hY⟩ => ⟨_, _, he, ⟨q_, m_, c_, Y_, rfl, rfl, hO⟩, hY.push (A := _ :: [bx (γ1248 0) (#[.int .i64 z1243.vcpu, .int .i64 z1243.port, .int .i64 z1243.every]) 32, bx (γ1241 0) (#[.int .i64 (x1238.id + 1), .int .i64 z1243.port, .int .i64 x1238.due, .int .i64 (missA z1243 x1238.due to)]) 50, bx (γ1239 0) (#[.int .i64 x1238.id, .int .i64 x1238.due]) 42, (γ1230 1, .loop r1230), (γ1230 0, .deferred (some [])), bx (γ1228 0) (#[.slice po no co]) 35, bx (γ1224 1) (#[.slice (some ⟨g1236, 0, none⟩) k996 d996]) 22, bx (γ1224 0) (#[.pointer (some ⟨γ303 0, 0, none⟩)]) 58, bx (γ1096 0) (#[.int .i64 to, .slice q996 m996 c996]) 24, bx (γ4 1) (#[.int .i64 0, .slice none 0 0, .slice none 0 0]) 27, bx (γ4 0) (#[.int .i64 now, .slice p n cap, .slice pa na ca]) 27, bx (γ2 0) (#[.slice none 0 0]) 35, bx (γ1 2) (#[.int .i64 0, .slice none 0 0, .slice none 0 0]) 27, bx (γ1 1) (#[.int .i64 to]) 2, bx (γ1 0) (#[.int .i64 now, .slice p n cap, .slice pa na ca]) 27, bx g1236 cs1236 42])⟩) ?_
      rintro v1255 L1255 ⟨q1255, m1255, cq1255, Y1255, rfl, rfl, hO1255⟩
      have hm1255 := hO1255.len
      refine on_ (ds_ (sq_ (ao_ (qo0 2 [(1, .go (owns 2 0 4))] [0, 2, 13, 14, 15] [(78, .func (.yield (γ1230 1)) #[] #[]), (79, .agg #[.int .i64 (x1238.id + 1), .int .i64 z1243.port, .int .i64 x1238.due, .int .i64 (missA z1243 x1238.due to)])] (ops_yield (args := #[.agg #[.int .i64 (x1238.id + 1), .int .i64 z1243.port, .int .i64 x1238.due, .int .i64 (missA z1243 x1238.due to)]]) (by kernel_rfl) (by kernel_rfl) (by kernel_rfl) 4 rfl hr1230 rfl (by kernel_rfl) (ma0 [(1, .go (owns 0 0 4))] [3] (fun γ1258 => [(4, .pointer (some ⟨γ1258 0, 0, none⟩))]) (fun γ1258 L => bx (γ1258 0) (#[.int .i64 (x1238.id + 1), .int .i64 z1243.port, .int .i64 x1238.due, .int .i64 (missA z1243 x1238.due to)]) 50 :: L) (fun γ1258 => done_asg 5 rfl (at_block (ao_ (mo0 3 [(0, .go (owns 7 0 1)), (1, .go (owns 0 0 4))] [3] (fun γ1259 => [(7, .slice po no co), (9, .slice (some ⟨γ1259 0, 0, none⟩) 1 1)]) (fun γ1259 L => bx (γ1259 0) (#[.int .i64 (x1238.id + 1), .int .i64 z1243.port, .int .i64 x1238.due, .int .i64 (missA z1243 x1238.due to)]) 50 :: L) (fun γ1259 => Ops.pick [[bx (γ1259 0) (#[.int .i64 (x1238.id + 1), .int .i64 z1243.port, .int .i64 x1238.due, .int .i64 (missA z1243 x1238.due to)]) 50], [bx (γ1258 0) (#[.int .i64 (x1238.id + 1), .int .i64 z1243.port, .int .i64 x1238.due, .int .i64 (missA z1243 x1238.due to)]) 50], [bx (γ303 0) (#[.int .i64 to, .slice pt nt ct, .slice q1255 m1255 cq1255]) 27], [bx (γ1248 0) (#[.int .i64 z1243.vcpu, .int .i64 z1243.port, .int .i64 z1243.every]) 32], [bx (γ1241 0) (#[.int .i64 (x1238.id + 1), .int .i64 z1243.port, .int .i64 x1238.due, .int .i64 (missA z1243 x1238.due to)]) 50], [bx (γ1239 0) (#[.int .i64 x1238.id, .int .i64 x1238.due]) 42], [(γ1230 1, .loop { r1230 with state := .busy })], [(γ1230 0, .deferred (some []))], [bx (γ1228 0) (#[.slice po no co]) 35], [bx (γ1224 1) (#[.slice (some ⟨g1236, 0, none⟩) k996 d996]) 22], [bx (γ1224 0) (#[.pointer (some ⟨γ303 0, 0, none⟩)]) 58], [bx (γ1096 0) (#[.int .i64 to, .slice q996 m996 c996]) 24], [bx (γ4 1) (#[.int .i64 0, .slice none 0 0, .slice none 0 0]) 27], [bx (γ4 0) (#[.int .i64 now, .slice p n cap, .slice pa na ca]) 27], [bx (γ2 0) (#[.slice none 0 0]) 35], [bx (γ1 2) (#[.int .i64 0, .slice none 0 0, .slice none 0 0]) 27], [bx (γ1 1) (#[.int .i64 to]) 2], [bx (γ1 0) (#[.int .i64 now, .slice p n cap, .slice pa na ca]) 27], [bx g1236 cs1236 42], Y1255, Yt, Yo] [0, 1, 2, 3, 4, 5, 6, 7, 8, 9, 10, 11, 12, 13, 14, 15, 16, 17, 18, 21, 19, 20] [] (bx (γ1259 0) (#[.int .i64 (x1238.id + 1), .int .i64 z1243.port, .int .i64 x1238.due, .int .i64 (missA z1243 x1238.due to)]) 50 :: bx (γ1258 0) (#[.int .i64 (x1238.id + 1), .int .i64 z1243.port, .int .i64 x1238.due, .int .i64 (missA z1243 x1238.due to)]) 50 :: bx (γ303 0) (#[.int .i64 to, .slice pt nt ct, .slice q1255 m1255 cq1255]) 27 :: bx (γ1248 0) (#[.int .i64 z1243.vcpu, .int .i64 z1243.port, .int .i64 z1243.every]) 32 :: bx (γ1241 0) (#[.int .i64 (x1238.id + 1), .int .i64 z1243.port, .int .i64 x1238.due, .int .i64 (missA z1243 x1238.due to)]) 50 :: bx (γ1239 0) (#[.int .i64 x1238.id, .int .i64 x1238.due]) 42 :: (γ1230 1, .loop { r1230 with state := .busy }) :: (γ1230 0, .deferred (some [])) :: bx (γ1228 0) (#[.slice po no co]) 35 :: bx (γ1224 1) (#[.slice (some ⟨g1236, 0, none⟩) k996 d996]) 22 :: bx (γ1224 0) (#[.pointer (some ⟨γ303 0, 0, none⟩)]) 58 :: bx (γ1096 0) (#[.int .i64 to, .slice q996 m996 c996]) 24 :: bx (γ4 1) (#[.int .i64 0, .slice none 0 0, .slice none 0 0]) 27 :: bx (γ4 0) (#[.int .i64 now, .slice p n cap, .slice pa na ca]) 27 :: bx (γ2 0) (#[.slice none 0 0]) 35 :: bx (γ1 2) (#[.int .i64 0, .slice none 0 0, .slice none 0 0]) 27 :: bx (γ1 1) (#[.int .i64 to]) 2 :: bx (γ1 0) (#[.int .i64 now, .slice p n cap, .slice pa na ca]) 27 :: bx g1236 cs1236 42 :: (Yo ++ (Y1255 ++ (Yt ++ [])))) (by kernel_rfl) rfl rfl ?_)))))))))))
      refine ops_append (α := Rng) [bx (γ1259 0) (#[.int .i64 (x1238.id + 1), .int .i64 z1243.port, .int .i64 x1238.due, .int .i64 (missA z1243 x1238.due to)]) 50, bx (γ1258 0) (#[.int .i64 (x1238.id + 1), .int .i64 z1243.port, .int .i64 x1238.due, .int .i64 (missA z1243 x1238.due to)]) 50, bx (γ303 0) (#[.int .i64 to, .slice pt nt ct, .slice q1255 m1255 cq1255]) 27, bx (γ1248 0) (#[.int .i64 z1243.vcpu, .int .i64 z1243.port, .int .i64 z1243.every]) 32, bx (γ1241 0) (#[.int .i64 (x1238.id + 1), .int .i64 z1243.port, .int .i64 x1238.due, .int .i64 (missA z1243 x1238.due to)]) 50, bx (γ1239 0) (#[.int .i64 x1238.id, .int .i64 x1238.due]) 42, (γ1230 1, .loop { r1230 with state := .busy }), (γ1230 0, .deferred (some [])), bx (γ1228 0) (#[.slice po no co]) 35, bx (γ1224 1) (#[.slice (some ⟨g1236, 0, none⟩) k996 d996]) 22, bx (γ1224 0) (#[.pointer (some ⟨γ303 0, 0, none⟩)]) 58, bx (γ1096 0) (#[.int .i64 to, .slice q996 m996 c996]) 24, bx (γ4 1) (#[.int .i64 0, .slice none 0 0, .slice none 0 0]) 27, bx (γ4 0) (#[.int .i64 now, .slice p n cap, .slice pa na ca]) 27, bx (γ2 0) (#[.slice none 0 0]) 35, bx (γ1 2) (#[.int .i64 0, .slice none 0 0, .slice none 0 0]) 27, bx (γ1 1) (#[.int .i64 to]) 2, bx (γ1 0) (#[.int .i64 now, .slice p n cap, .slice pa na ca]) 27, bx g1236 cs1236 42] Yo ((Y1255 ++ (Yt ++ []))) (.refl _) rfl (by kernel_rfl) (by kernel_rfl) (p := po) (n := no) (cap := co) (m := 1) (yv := .slice (some ⟨γ1259 0, 0, none⟩) 1 1) (by kernel_rfl) (by kernel_rfl) (T := 50) (by_ := 32) (by kernel_rfl) ((rgO to ts rs j)) ([⟨x1238.id + 1, z1243.port, x1238.due, missA z1243 x1238.due to⟩]) hQ (fun w hw => src_svn Tryz.underlying35 (sv_row (hw.row 0 rfl) (by rfl)) (by rfl)) (by rfl) (by have hmx : maxLen = 9223372036854775807 := rfl; omega) (by have hmx : maxLen = 9223372036854775807 := rfl; omega) (fun Y1260 p1260 cap1260 hO1260 => mo0 1 [(4, .go (owns 8 0 1))] [] (fun _ => []) (fun _ L => (L.set 8 (bx (γ1228 0) (#[.slice p1260 (no + 1) cap1260]) 35))) (fun _ => on_ (done_block (done_rnd 6 rfl (qo0 1 [] [0, 2, 13, 14, 15] [(81, .bool false)] (on_ (ds_ (f_ (at_skip (done_block (ds_ (qa [(0, .fit)] [0, 2, 13, 14] [(15, .int .i64 ((j + 1 : Nat)))] ([Fit .i64 ((j + 1 : Nat))]) (al1 (fit64 (by omega) (by omega))) (Done.pick [[bx (γ1259 0) (#[.int .i64 (x1238.id + 1), .int .i64 z1243.port, .int .i64 x1238.due, .int .i64 (missA z1243 x1238.due to)]) 50], [bx (γ1258 0) (#[.int .i64 (x1238.id + 1), .int .i64 z1243.port, .int .i64 x1238.due, .int .i64 (missA z1243 x1238.due to)]) 50], [bx (γ303 0) (#[.int .i64 to, .slice pt nt ct, .slice q1255 m1255 cq1255]) 27], [bx (γ1248 0) (#[.int .i64 z1243.vcpu, .int .i64 z1243.port, .int .i64 z1243.every]) 32], [bx (γ1241 0) (#[.int .i64 (x1238.id + 1), .int .i64 z1243.port, .int .i64 x1238.due, .int .i64 (missA z1243 x1238.due to)]) 50], [bx (γ1239 0) (#[.int .i64 x1238.id, .int .i64 x1238.due]) 42], [(γ1230 1, .loop r1230)], [(γ1230 0, .deferred (some []))], [bx (γ1228 0) (#[.slice p1260 (no + 1) cap1260]) 35], [bx (γ1224 1) (#[.slice (some ⟨g1236, 0, none⟩) k996 d996]) 22], [bx (γ1224 0) (#[.pointer (some ⟨γ303 0, 0, none⟩)]) 58], [bx (γ1096 0) (#[.int .i64 to, .slice q996 m996 c996]) 24], [bx (γ4 1) (#[.int .i64 0, .slice none 0 0, .slice none 0 0]) 27], [bx (γ4 0) (#[.int .i64 now, .slice p n cap, .slice pa na ca]) 27], [bx (γ2 0) (#[.slice none 0 0]) 35], [bx (γ1 2) (#[.int .i64 0, .slice none 0 0, .slice none 0 0]) 27], [bx (γ1 1) (#[.int .i64 to]) 2], [bx (γ1 0) (#[.int .i64 now, .slice p n cap, .slice pa na ca]) 27], [bx g1236 cs1236 42], Y1260, Y1255, Yt] [6, 7, 8, 9, 10, 11, 2, 12, 13, 14, 15, 16, 17, 21, 20, 19, 18] [0, 1, 3, 4, 5] ((γ1230 1, .loop r1230) :: (γ1230 0, .deferred (some [])) :: bx (γ1228 0) (#[.slice p1260 (no + 1) cap1260]) 35 :: bx (γ1224 1) (#[.slice (some ⟨g1236, 0, none⟩) k996 d996]) 22 :: bx (γ1224 0) (#[.pointer (some ⟨γ303 0, 0, none⟩)]) 58 :: bx (γ1096 0) (#[.int .i64 to, .slice q996 m996 c996]) 24 :: bx (γ303 0) (#[.int .i64 to, .slice pt nt ct, .slice q1255 m1255 cq1255]) 27 :: bx (γ4 1) (#[.int .i64 0, .slice none 0 0, .slice none 0 0]) 27 :: bx (γ4 0) (#[.int .i64 now, .slice p n cap, .slice pa na ca]) 27 :: bx (γ2 0) (#[.slice none 0 0]) 35 :: bx (γ1 2) (#[.int .i64 0, .slice none 0 0, .slice none 0 0]) 27 :: bx (γ1 1) (#[.int .i64 to]) 2 :: bx (γ1 0) (#[.int .i64 now, .slice p n cap, .slice pa na ca]) 27 :: (Yt ++ (Y1255 ++ (Y1260 ++ ([bx g1236 cs1236 42]))))) (by kernel_rfl) rfl rfl ?_)))))))))))))
      have heq := rg_no hx1238 q1240 hz1243 hn1250
      exact dr [0, 2, 13, 14, 15] (j + 1, Yt, pt, nt, ct, Y1255, q1255, m1255, cq1255, Y1260, p1260, (no + 1), cap1260) ⟨by omega, rinv_on hgA hI hx1238, by rw [rgT_of heq]; exact hT, by rw [rgR_of heq]; exact hO1255, by rw [rgO_of heq]; exact hO1260⟩
     ·
      have hah1250 := next_ahead haz (by omega) hn1250
      refine cK (.tuple #[.int .i64 (missA z1243 x1238.due to), .int .i64 nx1250, .bool true]) (fun args w => Tryz.call67 args w) (fun w hw => by have := again_t z1243 x1238.due to w haz (by omega) (by omega) (by omega); rw [hn1250, ← (next_some hn1250).2.1] at this; exact this) ?_
      refine cm 7 [] [0, 2, 5, 6, 9, 13, 14, 15] [(10, .int .i64 (missA z1243 x1238.due to)), (11, .int .i64 nx1250), (12, .bool true)] ([]) (by kernel_rfl) rfl al0 ?_
      refine calm_nil' ?_
      refine ds_ (sq_ (ma0 [(1, .go (owns 0 1 1)), (4, .go (owns 1 1 1)), (6, .go (owns 1 3 1))] [0, 2, 5, 6, 9, 11, 12, 13, 14, 15] (fun _ => []) (fun _ L => (L.set 1 (bx (γ1241 0) (#[.int .i64 (x1238.id + 1), .int .i64 z1243.port, .int .i64 x1238.due, .int .i64 (missA z1243 x1238.due to)]) 50))) (fun _ => ds_ (sq_ (ao_ (qo0 7 [(3, .go (owns 7 0 1)), (5, .go (owns 2 0 1))] [0, 2, 6, 9, 13, 14, 15] [(66, .bool false), (67, .pointer (some ⟨γ303 0, 0, none⟩)), (69, .int .i64 x1238.id), (70, .int .i64 nx1250)] (Ops.pick [[bx (γ1248 0) (#[.int .i64 z1243.vcpu, .int .i64 z1243.port, .int .i64 z1243.every]) 32], [bx (γ1241 0) (#[.int .i64 (x1238.id + 1), .int .i64 z1243.port, .int .i64 x1238.due, .int .i64 (missA z1243 x1238.due to)]) 50], [bx (γ1239 0) (#[.int .i64 x1238.id, .int .i64 x1238.due]) 42], [(γ1230 1, .loop r1230)], [(γ1230 0, .deferred (some []))], [bx (γ1228 0) (#[.slice po no co]) 35], [bx (γ1224 1) (#[.slice (some ⟨g1236, 0, none⟩) k996 d996]) 22], [bx (γ1224 0) (#[.pointer (some ⟨γ303 0, 0, none⟩)]) 58], [bx (γ1096 0) (#[.int .i64 to, .slice q996 m996 c996]) 24], [bx (γ303 0) (#[.int .i64 to, .slice pt nt ct, .slice (some ⟨g1247, 0, none⟩) nr cr]) 27], [bx (γ4 1) (#[.int .i64 0, .slice none 0 0, .slice none 0 0]) 27], [bx (γ4 0) (#[.int .i64 now, .slice p n cap, .slice pa na ca]) 27], [bx (γ2 0) (#[.slice none 0 0]) 35], [bx (γ1 2) (#[.int .i64 0, .slice none 0 0, .slice none 0 0]) 27], [bx (γ1 1) (#[.int .i64 to]) 2], [bx (γ1 0) (#[.int .i64 now, .slice p n cap, .slice pa na ca]) 27], [bx g1236 cs1236 42], [bx g1247 cs1247 32], Yt, Yo] [9, 0, 1, 2, 3, 4, 5, 6, 7, 8, 10, 11, 12, 13, 14, 15, 16, 17, 18, 19] [] (bx (γ303 0) (#[.int .i64 to, .slice pt nt ct, .slice (some ⟨g1247, 0, none⟩) nr cr]) 27 :: bx (γ1248 0) (#[.int .i64 z1243.vcpu, .int .i64 z1243.port, .int .i64 z1243.every]) 32 :: bx (γ1241 0) (#[.int .i64 (x1238.id + 1), .int .i64 z1243.port, .int .i64 x1238.due, .int .i64 (missA z1243 x1238.due to)]) 50 :: bx (γ1239 0) (#[.int .i64 x1238.id, .int .i64 x1238.due]) 42 :: (γ1230 1, .loop r1230) :: (γ1230 0, .deferred (some [])) :: bx (γ1228 0) (#[.slice po no co]) 35 :: bx (γ1224 1) (#[.slice (some ⟨g1236, 0, none⟩) k996 d996]) 22 :: bx (γ1224 0) (#[.pointer (some ⟨γ303 0, 0, none⟩)]) 58 :: bx (γ1096 0) (#[.int .i64 to, .slice q996 m996 c996]) 24 :: bx (γ4 1) (#[.int .i64 0, .slice none 0 0, .slice none 0 0]) 27 :: bx (γ4 0) (#[.int .i64 now, .slice p n cap, .slice pa na ca]) 27 :: bx (γ2 0) (#[.slice none 0 0]) 35 :: bx (γ1 2) (#[.int .i64 0, .slice none 0 0, .slice none 0 0]) 27 :: bx (γ1 1) (#[.int .i64 to]) 2 :: bx (γ1 0) (#[.int .i64 now, .slice p n cap, .slice pa na ca]) 27 :: bx g1236 cs1236 42 :: bx g1247 cs1247 32 :: (Yt ++ (Yo ++ []))) (by kernel_rfl) rfl rfl ?_)))))))
      refine cP (fun v L' => ∃ q_ m_ c_ Y_, v = (.int .i64 0) ∧ L' = (bx (γ303 0) #[.int .i64 to, .slice q_ m_ c_, .slice (some ⟨g1247, 0, none⟩) nr cr] 27 :: [bx (γ1248 0) (#[.int .i64 z1243.vcpu, .int .i64 z1243.port, .int .i64 z1243.every]) 32, bx (γ1241 0) (#[.int .i64 (x1238.id + 1), .int .i64 z1243.port, .int .i64 x1238.due, .int .i64 (missA z1243 x1238.due to)]) 50, bx (γ1239 0) (#[.int .i64 x1238.id, .int .i64 x1238.due]) 42, (γ1230 1, .loop r1230), (γ1230 0, .deferred (some [])), bx (γ1228 0) (#[.slice po no co]) 35, bx (γ1224 1) (#[.slice (some ⟨g1236, 0, none⟩) k996 d996]) 22, bx (γ1224 0) (#[.pointer (some ⟨γ303 0, 0, none⟩)]) 58, bx (γ1096 0) (#[.int .i64 to, .slice q996 m996 c996]) 24, bx (γ4 1) (#[.int .i64 0, .slice none 0 0, .slice none 0 0]) 27, bx (γ4 0) (#[.int .i64 now, .slice p n cap, .slice pa na ca]) 27, bx (γ2 0) (#[.slice none 0 0]) 35, bx (γ1 2) (#[.int .i64 0, .slice none 0 0, .slice none 0 0]) 27, bx (γ1 1) (#[.int .i64 to]) 2, bx (γ1 0) (#[.int .i64 now, .slice p n cap, .slice pa na ca]) 27, bx g1236 cs1236 42, bx g1247 cs1247 32]) ++ (Y_ ++ ((Yo ++ []))) ∧ SlO 42 Y_ q_ m_ c_ (tput ((rgT to ts rs j)) x1238.id nx1250)) (fun args w => Tryz.call28 args w) (fun w hw => (aset_t _ ([bx (γ1248 0) (#[.int .i64 z1243.vcpu, .int .i64 z1243.port, .int .i64 z1243.every]) 32, bx (γ1241 0) (#[.int .i64 (x1238.id + 1), .int .i64 z1243.port, .int .i64 x1238.due, .int .i64 (missA z1243 x1238.due to)]) 50, bx (γ1239 0) (#[.int .i64 x1238.id, .int .i64 x1238.due]) 42, (γ1230 1, .loop r1230), (γ1230 0, .deferred (some [])), bx (γ1228 0) (#[.slice po no co]) 35, bx (γ1224 1) (#[.slice (some ⟨g1236, 0, none⟩) k996 d996]) 22, bx (γ1224 0) (#[.pointer (some ⟨γ303 0, 0, none⟩)]) 58, bx (γ1096 0) (#[.int .i64 to, .slice q996 m996 c996]) 24, bx (γ4 1) (#[.int .i64 0, .slice none 0 0, .slice none 0 0]) 27, bx (γ4 0) (#[.int .i64 now, .slice p n cap, .slice pa na ca]) 27, bx (γ2 0) (#[.slice none 0 0]) 35, bx (γ1 2) (#[.int .i64 0, .slice none 0 0, .slice none 0 0]) 27, bx (γ1 1) (#[.int .i64 to]) 2, bx (γ1 0) (#[.int .i64 now, .slice p n cap, .slice pa na ca]) 27, bx g1236 cs1236 42, bx g1247 cs1247 32] ++ ((Yo ++ []))) Yt (γ303 0) to pt nt ct (some ⟨g1247, 0, none⟩) nr cr ((rgT to ts rs j)) x1238.id nx1250 w (hw.pull (A := [bx (γ1248 0) (#[.int .i64 z1243.vcpu, .int .i64 z1243.port, .int .i64 z1243.every]) 32, bx (γ1241 0) (#[.int .i64 (x1238.id + 1), .int .i64 z1243.port, .int .i64 x1238.due, .int .i64 (missA z1243 x1238.due to)]) 50, bx (γ1239 0) (#[.int .i64 x1238.id, .int .i64 x1238.due]) 42, (γ1230 1, .loop r1230), (γ1230 0, .deferred (some [])), bx (γ1228 0) (#[.slice po no co]) 35, bx (γ1224 1) (#[.slice (some ⟨g1236, 0, none⟩) k996 d996]) 22, bx (γ1224 0) (#[.pointer (some ⟨γ303 0, 0, none⟩)]) 58, bx (γ1096 0) (#[.int .i64 to, .slice q996 m996 c996]) 24, bx (γ4 1) (#[.int .i64 0, .slice none 0 0, .slice none 0 0]) 27, bx (γ4 0) (#[.int .i64 now, .slice p n cap, .slice pa na ca]) 27, bx (γ2 0) (#[.slice none 0 0]) 35, bx (γ1 2) (#[.int .i64 0, .slice none 0 0, .slice none 0 0]) 27, bx (γ1 1) (#[.int .i64 to]) 2, bx (γ1 0) (#[.int .i64 now, .slice p n cap, .slice pa na ca]) 27, bx g1236 cs1236 42, bx g1247 cs1247 32]) (Y := Yt) (R := ((Yo ++ [])))) hT (by omega) hI.wh' (by omega) (by omega) (of_decide_eq_true (decide_eq_true hah1250))).mono fun e w' ⟨q_, m_, c_, Y_, he, hO, hY⟩ => ⟨_, _, he, ⟨q_, m_, c_, Y_, rfl, rfl, hO⟩, hY.push (A := _ :: [bx (γ1248 0) (#[.int .i64 z1243.vcpu, .int .i64 z1243.port, .int .i64 z1243.every]) 32, bx (γ1241 0) (#[.int .i64 (x1238.id + 1), .int .i64 z1243.port, .int .i64 x1238.due, .int .i64 (missA z1243 x1238.due to)]) 50, bx (γ1239 0) (#[.int .i64 x1238.id, .int .i64 x1238.due]) 42, (γ1230 1, .loop r1230), (γ1230 0, .deferred (some [])), bx (γ1228 0) (#[.slice po no co]) 35, bx (γ1224 1) (#[.slice (some ⟨g1236, 0, none⟩) k996 d996]) 22, bx (γ1224 0) (#[.pointer (some ⟨γ303 0, 0, none⟩)]) 58, bx (γ1096 0) (#[.int .i64 to, .slice q996 m996 c996]) 24, bx (γ4 1) (#[.int .i64 0, .slice none 0 0, .slice none 0 0]) 27, bx (γ4 0) (#[.int .i64 now, .slice p n cap, .slice pa na ca]) 27, bx (γ2 0) (#[.slice none 0 0]) 35, bx (γ1 2) (#[.int .i64 0, .slice none 0 0, .slice none 0 0]) 27, bx (γ1 1) (#[.int .i64 to]) 2, bx (γ1 0) (#[.int .i64 now, .slice p n cap, .slice pa na ca]) 27, bx g1236 cs1236 42, bx g1247 cs1247 32])⟩) ?_
      rintro v1267 L1267 ⟨q1267, m1267, cq1267, Y1267, rfl, rfl, hO1267⟩
      have hm1267 := hO1267.len
      refine qo0 2 [] [0, 2, 6, 9, 13, 14, 15] [(73, .bool false)] (on_ (ds_ (f_ (at_skip (ds_ (sq_ (ao_ (qo0 2 [(1, .go (owns 2 0 4))] [0, 2, 13, 14, 15] [(78, .func (.yield (γ1230 1)) #[] #[]), (79, .agg #[.int .i64 (x1238.id + 1), .int .i64 z1243.port, .int .i64 x1238.due, .int .i64 (missA z1243 x1238.due to)])] (ops_yield (args := #[.agg #[.int .i64 (x1238.id + 1), .int .i64 z1243.port, .int .i64 x1238.due, .int .i64 (missA z1243 x1238.due to)]]) (by kernel_rfl) (by kernel_rfl) (by kernel_rfl) 4 rfl hr1230 rfl (by kernel_rfl) (ma0 [(1, .go (owns 0 0 4))] [3] (fun γ1270 => [(4, .pointer (some ⟨γ1270 0, 0, none⟩))]) (fun γ1270 L => bx (γ1270 0) (#[.int .i64 (x1238.id + 1), .int .i64 z1243.port, .int .i64 x1238.due, .int .i64 (missA z1243 x1238.due to)]) 50 :: L) (fun γ1270 => done_asg 5 rfl (at_block (ao_ (mo0 3 [(0, .go (owns 7 0 1)), (1, .go (owns 0 0 4))] [3] (fun γ1271 => [(7, .slice po no co), (9, .slice (some ⟨γ1271 0, 0, none⟩) 1 1)]) (fun γ1271 L => bx (γ1271 0) (#[.int .i64 (x1238.id + 1), .int .i64 z1243.port, .int .i64 x1238.due, .int .i64 (missA z1243 x1238.due to)]) 50 :: L) (fun γ1271 => Ops.pick [[bx (γ1271 0) (#[.int .i64 (x1238.id + 1), .int .i64 z1243.port, .int .i64 x1238.due, .int .i64 (missA z1243 x1238.due to)]) 50], [bx (γ1270 0) (#[.int .i64 (x1238.id + 1), .int .i64 z1243.port, .int .i64 x1238.due, .int .i64 (missA z1243 x1238.due to)]) 50], [bx (γ303 0) (#[.int .i64 to, .slice q1267 m1267 cq1267, .slice (some ⟨g1247, 0, none⟩) nr cr]) 27], [bx (γ1248 0) (#[.int .i64 z1243.vcpu, .int .i64 z1243.port, .int .i64 z1243.every]) 32], [bx (γ1241 0) (#[.int .i64 (x1238.id + 1), .int .i64 z1243.port, .int .i64 x1238.due, .int .i64 (missA z1243 x1238.due to)]) 50], [bx (γ1239 0) (#[.int .i64 x1238.id, .int .i64 x1238.due]) 42], [(γ1230 1, .loop { r1230 with state := .busy })], [(γ1230 0, .deferred (some []))], [bx (γ1228 0) (#[.slice po no co]) 35], [bx (γ1224 1) (#[.slice (some ⟨g1236, 0, none⟩) k996 d996]) 22], [bx (γ1224 0) (#[.pointer (some ⟨γ303 0, 0, none⟩)]) 58], [bx (γ1096 0) (#[.int .i64 to, .slice q996 m996 c996]) 24], [bx (γ4 1) (#[.int .i64 0, .slice none 0 0, .slice none 0 0]) 27], [bx (γ4 0) (#[.int .i64 now, .slice p n cap, .slice pa na ca]) 27], [bx (γ2 0) (#[.slice none 0 0]) 35], [bx (γ1 2) (#[.int .i64 0, .slice none 0 0, .slice none 0 0]) 27], [bx (γ1 1) (#[.int .i64 to]) 2], [bx (γ1 0) (#[.int .i64 now, .slice p n cap, .slice pa na ca]) 27], [bx g1236 cs1236 42], [bx g1247 cs1247 32], Y1267, Yo] [0, 1, 2, 3, 4, 5, 6, 7, 8, 9, 10, 11, 12, 13, 14, 15, 16, 17, 18, 19, 21, 20] [] (bx (γ1271 0) (#[.int .i64 (x1238.id + 1), .int .i64 z1243.port, .int .i64 x1238.due, .int .i64 (missA z1243 x1238.due to)]) 50 :: bx (γ1270 0) (#[.int .i64 (x1238.id + 1), .int .i64 z1243.port, .int .i64 x1238.due, .int .i64 (missA z1243 x1238.due to)]) 50 :: bx (γ303 0) (#[.int .i64 to, .slice q1267 m1267 cq1267, .slice (some ⟨g1247, 0, none⟩) nr cr]) 27 :: bx (γ1248 0) (#[.int .i64 z1243.vcpu, .int .i64 z1243.port, .int .i64 z1243.every]) 32 :: bx (γ1241 0) (#[.int .i64 (x1238.id + 1), .int .i64 z1243.port, .int .i64 x1238.due, .int .i64 (missA z1243 x1238.due to)]) 50 :: bx (γ1239 0) (#[.int .i64 x1238.id, .int .i64 x1238.due]) 42 :: (γ1230 1, .loop { r1230 with state := .busy }) :: (γ1230 0, .deferred (some [])) :: bx (γ1228 0) (#[.slice po no co]) 35 :: bx (γ1224 1) (#[.slice (some ⟨g1236, 0, none⟩) k996 d996]) 22 :: bx (γ1224 0) (#[.pointer (some ⟨γ303 0, 0, none⟩)]) 58 :: bx (γ1096 0) (#[.int .i64 to, .slice q996 m996 c996]) 24 :: bx (γ4 1) (#[.int .i64 0, .slice none 0 0, .slice none 0 0]) 27 :: bx (γ4 0) (#[.int .i64 now, .slice p n cap, .slice pa na ca]) 27 :: bx (γ2 0) (#[.slice none 0 0]) 35 :: bx (γ1 2) (#[.int .i64 0, .slice none 0 0, .slice none 0 0]) 27 :: bx (γ1 1) (#[.int .i64 to]) 2 :: bx (γ1 0) (#[.int .i64 now, .slice p n cap, .slice pa na ca]) 27 :: bx g1236 cs1236 42 :: bx g1247 cs1247 32 :: (Yo ++ (Y1267 ++ []))) (by kernel_rfl) rfl rfl ?_)))))))))))))))
      refine ops_append (α := Rng) [bx (γ1271 0) (#[.int .i64 (x1238.id + 1), .int .i64 z1243.port, .int .i64 x1238.due, .int .i64 (missA z1243 x1238.due to)]) 50, bx (γ1270 0) (#[.int .i64 (x1238.id + 1), .int .i64 z1243.port, .int .i64 x1238.due, .int .i64 (missA z1243 x1238.due to)]) 50, bx (γ303 0) (#[.int .i64 to, .slice q1267 m1267 cq1267, .slice (some ⟨g1247, 0, none⟩) nr cr]) 27, bx (γ1248 0) (#[.int .i64 z1243.vcpu, .int .i64 z1243.port, .int .i64 z1243.every]) 32, bx (γ1241 0) (#[.int .i64 (x1238.id + 1), .int .i64 z1243.port, .int .i64 x1238.due, .int .i64 (missA z1243 x1238.due to)]) 50, bx (γ1239 0) (#[.int .i64 x1238.id, .int .i64 x1238.due]) 42, (γ1230 1, .loop { r1230 with state := .busy }), (γ1230 0, .deferred (some [])), bx (γ1228 0) (#[.slice po no co]) 35, bx (γ1224 1) (#[.slice (some ⟨g1236, 0, none⟩) k996 d996]) 22, bx (γ1224 0) (#[.pointer (some ⟨γ303 0, 0, none⟩)]) 58, bx (γ1096 0) (#[.int .i64 to, .slice q996 m996 c996]) 24, bx (γ4 1) (#[.int .i64 0, .slice none 0 0, .slice none 0 0]) 27, bx (γ4 0) (#[.int .i64 now, .slice p n cap, .slice pa na ca]) 27, bx (γ2 0) (#[.slice none 0 0]) 35, bx (γ1 2) (#[.int .i64 0, .slice none 0 0, .slice none 0 0]) 27, bx (γ1 1) (#[.int .i64 to]) 2, bx (γ1 0) (#[.int .i64 now, .slice p n cap, .slice pa na ca]) 27, bx g1236 cs1236 42, bx g1247 cs1247 32] Yo ((Y1267 ++ [])) (.refl _) rfl (by kernel_rfl) (by kernel_rfl) (p := po) (n := no) (cap := co) (m := 1) (yv := .slice (some ⟨γ1271 0, 0, none⟩) 1 1) (by kernel_rfl) (by kernel_rfl) (T := 50) (by_ := 32) (by kernel_rfl) ((rgO to ts rs j)) ([⟨x1238.id + 1, z1243.port, x1238.due, missA z1243 x1238.due to⟩]) hQ (fun w hw => src_svn Tryz.underlying35 (sv_row (hw.row 0 rfl) (by rfl)) (by rfl)) (by rfl) (by have hmx : maxLen = 9223372036854775807 := rfl; omega) (by have hmx : maxLen = 9223372036854775807 := rfl; omega) (fun Y1272 p1272 cap1272 hO1272 => mo0 1 [(4, .go (owns 8 0 1))] [] (fun _ => []) (fun _ L => (L.set 8 (bx (γ1228 0) (#[.slice p1272 (no + 1) cap1272]) 35))) (fun _ => on_ (done_block (done_rnd 6 rfl (qo0 1 [] [0, 2, 13, 14, 15] [(81, .bool false)] (on_ (ds_ (f_ (at_skip (done_block (ds_ (qa [(0, .fit)] [0, 2, 13, 14] [(15, .int .i64 ((j + 1 : Nat)))] ([Fit .i64 ((j + 1 : Nat))]) (al1 (fit64 (by omega) (by omega))) (Done.pick [[bx (γ1271 0) (#[.int .i64 (x1238.id + 1), .int .i64 z1243.port, .int .i64 x1238.due, .int .i64 (missA z1243 x1238.due to)]) 50], [bx (γ1270 0) (#[.int .i64 (x1238.id + 1), .int .i64 z1243.port, .int .i64 x1238.due, .int .i64 (missA z1243 x1238.due to)]) 50], [bx (γ303 0) (#[.int .i64 to, .slice q1267 m1267 cq1267, .slice (some ⟨g1247, 0, none⟩) nr cr]) 27], [bx (γ1248 0) (#[.int .i64 z1243.vcpu, .int .i64 z1243.port, .int .i64 z1243.every]) 32], [bx (γ1241 0) (#[.int .i64 (x1238.id + 1), .int .i64 z1243.port, .int .i64 x1238.due, .int .i64 (missA z1243 x1238.due to)]) 50], [bx (γ1239 0) (#[.int .i64 x1238.id, .int .i64 x1238.due]) 42], [(γ1230 1, .loop r1230)], [(γ1230 0, .deferred (some []))], [bx (γ1228 0) (#[.slice p1272 (no + 1) cap1272]) 35], [bx (γ1224 1) (#[.slice (some ⟨g1236, 0, none⟩) k996 d996]) 22], [bx (γ1224 0) (#[.pointer (some ⟨γ303 0, 0, none⟩)]) 58], [bx (γ1096 0) (#[.int .i64 to, .slice q996 m996 c996]) 24], [bx (γ4 1) (#[.int .i64 0, .slice none 0 0, .slice none 0 0]) 27], [bx (γ4 0) (#[.int .i64 now, .slice p n cap, .slice pa na ca]) 27], [bx (γ2 0) (#[.slice none 0 0]) 35], [bx (γ1 2) (#[.int .i64 0, .slice none 0 0, .slice none 0 0]) 27], [bx (γ1 1) (#[.int .i64 to]) 2], [bx (γ1 0) (#[.int .i64 now, .slice p n cap, .slice pa na ca]) 27], [bx g1236 cs1236 42], [bx g1247 cs1247 32], Y1272, Y1267] [6, 7, 8, 9, 10, 11, 2, 12, 13, 14, 15, 16, 17, 21, 19, 20, 18] [0, 1, 3, 4, 5] ((γ1230 1, .loop r1230) :: (γ1230 0, .deferred (some [])) :: bx (γ1228 0) (#[.slice p1272 (no + 1) cap1272]) 35 :: bx (γ1224 1) (#[.slice (some ⟨g1236, 0, none⟩) k996 d996]) 22 :: bx (γ1224 0) (#[.pointer (some ⟨γ303 0, 0, none⟩)]) 58 :: bx (γ1096 0) (#[.int .i64 to, .slice q996 m996 c996]) 24 :: bx (γ303 0) (#[.int .i64 to, .slice q1267 m1267 cq1267, .slice (some ⟨g1247, 0, none⟩) nr cr]) 27 :: bx (γ4 1) (#[.int .i64 0, .slice none 0 0, .slice none 0 0]) 27 :: bx (γ4 0) (#[.int .i64 now, .slice p n cap, .slice pa na ca]) 27 :: bx (γ2 0) (#[.slice none 0 0]) 35 :: bx (γ1 2) (#[.int .i64 0, .slice none 0 0, .slice none 0 0]) 27 :: bx (γ1 1) (#[.int .i64 to]) 2 :: bx (γ1 0) (#[.int .i64 now, .slice p n cap, .slice pa na ca]) 27 :: (Y1267 ++ ([bx g1247 cs1247 32] ++ (Y1272 ++ ([bx g1236 cs1236 42]))))) (by kernel_rfl) rfl rfl ?_)))))))))))))
      have heq := rg_go hx1238 q1240 hz1243 hn1250
      exact dr [0, 2, 13, 14, 15] (j + 1, Y1267, q1267, m1267, cq1267, ([bx g1247 cs1247 32]), (some ⟨g1247, 0, none⟩), nr, cr, Y1272, p1272, (no + 1), cap1272) ⟨by omega, rinv_on hgA hI hx1238, by rw [rgT_of heq]; exact hO1267, by rw [rgR_of heq]; exact hR, by rw [rgO_of heq]; exact hO1272⟩
    ·
     have hft := fired_tm hgA.gw (List.mem_of_getElem? hx1238)
     refine ma [(1, .go (owns 0 0 1)), (2, .is [] (.int .i64 (x1238.id - 16))), (3, .fit), (5, .go (owns 0 1 1)), (8, .go (owns 0 0 4))] [0, 2, 5, 13, 14, 15] (fun γ1276 => [(6, .pointer (some ⟨γ1276 0, 0, none⟩))]) (fun γ1276 L => bx (γ1276 0) (#[.int .i64 ((x1238.id - 16) + 1), .int .i64 0, .int .i64 x1238.due, .int .i64 0]) 50 :: L) (fun γ1276 => [Value.int .i64 (Int.tmod x1238.id 16) = .int .i64 (x1238.id - 16)] ++ ([Fit .i64 ((x1238.id - 16) + 1)])) (fun γ1276 => (alA (al1 (by rw [tm_hi (by omega) (by omega)])) (al1 (fit64 (by omega) (by omega))))) (fun γ1276 => ds_ (sq_ (sq_ (qa [(1, .go (owns 1 0 1)), (2, .no)] [0, 2, 5, 6, 13, 14, 15] [(28, .bool false)] ([¬ ((x1238.id : Int) < (16 : Int))]) (al1 q1240) (ds_ (f_ (at_skip (ds_ (sq_ (ao_ (qo0 2 [(1, .go (owns 0 0 4))] [0, 2, 13, 14, 15] [(78, .func (.yield (γ1230 1)) #[] #[]), (79, .agg #[.int .i64 ((x1238.id - 16) + 1), .int .i64 0, .int .i64 x1238.due, .int .i64 0])] (ops_yield (args := #[.agg #[.int .i64 ((x1238.id - 16) + 1), .int .i64 0, .int .i64 x1238.due, .int .i64 0]]) (by kernel_rfl) (by kernel_rfl) (by kernel_rfl) 2 rfl hr1230 rfl (by kernel_rfl) (ma0 [(1, .go (owns 0 0 4))] [3] (fun γ1279 => [(4, .pointer (some ⟨γ1279 0, 0, none⟩))]) (fun γ1279 L => bx (γ1279 0) (#[.int .i64 ((x1238.id - 16) + 1), .int .i64 0, .int .i64 x1238.due, .int .i64 0]) 50 :: L) (fun γ1279 => done_asg 3 rfl (at_block (ao_ (mo0 3 [(0, .go (owns 5 0 1)), (1, .go (owns 0 0 4))] [3] (fun γ1280 => [(7, .slice po no co), (9, .slice (some ⟨γ1280 0, 0, none⟩) 1 1)]) (fun γ1280 L => bx (γ1280 0) (#[.int .i64 ((x1238.id - 16) + 1), .int .i64 0, .int .i64 x1238.due, .int .i64 0]) 50 :: L) (fun γ1280 => Ops.pick [[bx (γ1280 0) (#[.int .i64 ((x1238.id - 16) + 1), .int .i64 0, .int .i64 x1238.due, .int .i64 0]) 50], [bx (γ1279 0) (#[.int .i64 ((x1238.id - 16) + 1), .int .i64 0, .int .i64 x1238.due, .int .i64 0]) 50], [bx (γ1276 0) (#[.int .i64 ((x1238.id - 16) + 1), .int .i64 0, .int .i64 x1238.due, .int .i64 0]) 50], [bx (γ1239 0) (#[.int .i64 x1238.id, .int .i64 x1238.due]) 42], [(γ1230 1, .loop { r1230 with state := .busy })], [(γ1230 0, .deferred (some []))], [bx (γ1228 0) (#[.slice po no co]) 35], [bx (γ1224 1) (#[.slice (some ⟨g1236, 0, none⟩) k996 d996]) 22], [bx (γ1224 0) (#[.pointer (some ⟨γ303 0, 0, none⟩)]) 58], [bx (γ1096 0) (#[.int .i64 to, .slice q996 m996 c996]) 24], [bx (γ303 0) (#[.int .i64 to, .slice pt nt ct, .slice pr nr cr]) 27], [bx (γ4 1) (#[.int .i64 0, .slice none 0 0, .slice none 0 0]) 27], [bx (γ4 0) (#[.int .i64 now, .slice p n cap, .slice pa na ca]) 27], [bx (γ2 0) (#[.slice none 0 0]) 35], [bx (γ1 2) (#[.int .i64 0, .slice none 0 0, .slice none 0 0]) 27], [bx (γ1 1) (#[.int .i64 to]) 2], [bx (γ1 0) (#[.int .i64 now, .slice p n cap, .slice pa na ca]) 27], [bx g1236 cs1236 42], Yt, Yr, Yo] [0, 1, 2, 3, 4, 5, 6, 7, 8, 9, 10, 11, 12, 13, 14, 15, 16, 17, 20, 18, 19] [] (bx (γ1280 0) (#[.int .i64 ((x1238.id - 16) + 1), .int .i64 0, .int .i64 x1238.due, .int .i64 0]) 50 :: bx (γ1279 0) (#[.int .i64 ((x1238.id - 16) + 1), .int .i64 0, .int .i64 x1238.due, .int .i64 0]) 50 :: bx (γ1276 0) (#[.int .i64 ((x1238.id - 16) + 1), .int .i64 0, .int .i64 x1238.due, .int .i64 0]) 50 :: bx (γ1239 0) (#[.int .i64 x1238.id, .int .i64 x1238.due]) 42 :: (γ1230 1, .loop { r1230 with state := .busy }) :: (γ1230 0, .deferred (some [])) :: bx (γ1228 0) (#[.slice po no co]) 35 :: bx (γ1224 1) (#[.slice (some ⟨g1236, 0, none⟩) k996 d996]) 22 :: bx (γ1224 0) (#[.pointer (some ⟨γ303 0, 0, none⟩)]) 58 :: bx (γ1096 0) (#[.int .i64 to, .slice q996 m996 c996]) 24 :: bx (γ303 0) (#[.int .i64 to, .slice pt nt ct, .slice pr nr cr]) 27 :: bx (γ4 1) (#[.int .i64 0, .slice none 0 0, .slice none 0 0]) 27 :: bx (γ4 0) (#[.int .i64 now, .slice p n cap, .slice pa na ca]) 27 :: bx (γ2 0) (#[.slice none 0 0]) 35 :: bx (γ1 2) (#[.int .i64 0, .slice none 0 0, .slice none 0 0]) 27 :: bx (γ1 1) (#[.int .i64 to]) 2 :: bx (γ1 0) (#[.int .i64 now, .slice p n cap, .slice pa na ca]) 27 :: bx g1236 cs1236 42 :: (Yo ++ (Yt ++ (Yr ++ [])))) (by kernel_rfl) rfl rfl ?_))))))))))))))))))
     refine ops_append (α := Rng) [bx (γ1280 0) (#[.int .i64 ((x1238.id - 16) + 1), .int .i64 0, .int .i64 x1238.due, .int .i64 0]) 50, bx (γ1279 0) (#[.int .i64 ((x1238.id - 16) + 1), .int .i64 0, .int .i64 x1238.due, .int .i64 0]) 50, bx (γ1276 0) (#[.int .i64 ((x1238.id - 16) + 1), .int .i64 0, .int .i64 x1238.due, .int .i64 0]) 50, bx (γ1239 0) (#[.int .i64 x1238.id, .int .i64 x1238.due]) 42, (γ1230 1, .loop { r1230 with state := .busy }), (γ1230 0, .deferred (some [])), bx (γ1228 0) (#[.slice po no co]) 35, bx (γ1224 1) (#[.slice (some ⟨g1236, 0, none⟩) k996 d996]) 22, bx (γ1224 0) (#[.pointer (some ⟨γ303 0, 0, none⟩)]) 58, bx (γ1096 0) (#[.int .i64 to, .slice q996 m996 c996]) 24, bx (γ303 0) (#[.int .i64 to, .slice pt nt ct, .slice pr nr cr]) 27, bx (γ4 1) (#[.int .i64 0, .slice none 0 0, .slice none 0 0]) 27, bx (γ4 0) (#[.int .i64 now, .slice p n cap, .slice pa na ca]) 27, bx (γ2 0) (#[.slice none 0 0]) 35, bx (γ1 2) (#[.int .i64 0, .slice none 0 0, .slice none 0 0]) 27, bx (γ1 1) (#[.int .i64 to]) 2, bx (γ1 0) (#[.int .i64 now, .slice p n cap, .slice pa na ca]) 27, bx g1236 cs1236 42] Yo ((Yt ++ (Yr ++ []))) (.refl _) rfl (by kernel_rfl) (by kernel_rfl) (p := po) (n := no) (cap := co) (m := 1) (yv := .slice (some ⟨γ1280 0, 0, none⟩) 1 1) (by kernel_rfl) (by kernel_rfl) (T := 50) (by_ := 32) (by kernel_rfl) ((rgO to ts rs j)) ([⟨(x1238.id - 16) + 1, 0, x1238.due, 0⟩]) hQ (fun w hw => src_svn Tryz.underlying35 (sv_row (hw.row 0 rfl) (by rfl)) (by rfl)) (by rfl) (by have hmx : maxLen = 9223372036854775807 := rfl; omega) (by have hmx : maxLen = 9223372036854775807 := rfl; omega) (fun Y1281 p1281 cap1281 hO1281 => mo0 1 [(4, .go (owns 6 0 1))] [] (fun _ => []) (fun _ L => (L.set 6 (bx (γ1228 0) (#[.slice p1281 (no + 1) cap1281]) 35))) (fun _ => on_ (done_block (done_rnd 4 rfl (qo0 1 [] [0, 2, 13, 14, 15] [(81, .bool false)] (on_ (ds_ (f_ (at_skip (done_block (ds_ (qa [(0, .fit)] [0, 2, 13, 14] [(15, .int .i64 ((j + 1 : Nat)))] ([Fit .i64 ((j + 1 : Nat))]) (al1 (fit64 (by omega) (by omega))) (Done.pick [[bx (γ1280 0) (#[.int .i64 ((x1238.id - 16) + 1), .int .i64 0, .int .i64 x1238.due, .int .i64 0]) 50], [bx (γ1279 0) (#[.int .i64 ((x1238.id - 16) + 1), .int .i64 0, .int .i64 x1238.due, .int .i64 0]) 50], [bx (γ1276 0) (#[.int .i64 ((x1238.id - 16) + 1), .int .i64 0, .int .i64 x1238.due, .int .i64 0]) 50], [bx (γ1239 0) (#[.int .i64 x1238.id, .int .i64 x1238.due]) 42], [(γ1230 1, .loop r1230)], [(γ1230 0, .deferred (some []))], [bx (γ1228 0) (#[.slice p1281 (no + 1) cap1281]) 35], [bx (γ1224 1) (#[.slice (some ⟨g1236, 0, none⟩) k996 d996]) 22], [bx (γ1224 0) (#[.pointer (some ⟨γ303 0, 0, none⟩)]) 58], [bx (γ1096 0) (#[.int .i64 to, .slice q996 m996 c996]) 24], [bx (γ303 0) (#[.int .i64 to, .slice pt nt ct, .slice pr nr cr]) 27], [bx (γ4 1) (#[.int .i64 0, .slice none 0 0, .slice none 0 0]) 27], [bx (γ4 0) (#[.int .i64 now, .slice p n cap, .slice pa na ca]) 27], [bx (γ2 0) (#[.slice none 0 0]) 35], [bx (γ1 2) (#[.int .i64 0, .slice none 0 0, .slice none 0 0]) 27], [bx (γ1 1) (#[.int .i64 to]) 2], [bx (γ1 0) (#[.int .i64 now, .slice p n cap, .slice pa na ca]) 27], [bx g1236 cs1236 42], Y1281, Yt, Yr] [4, 5, 6, 7, 8, 9, 10, 11, 12, 13, 14, 15, 16, 19, 20, 18, 17] [0, 1, 2, 3] ((γ1230 1, .loop r1230) :: (γ1230 0, .deferred (some [])) :: bx (γ1228 0) (#[.slice p1281 (no + 1) cap1281]) 35 :: bx (γ1224 1) (#[.slice (some ⟨g1236, 0, none⟩) k996 d996]) 22 :: bx (γ1224 0) (#[.pointer (some ⟨γ303 0, 0, none⟩)]) 58 :: bx (γ1096 0) (#[.int .i64 to, .slice q996 m996 c996]) 24 :: bx (γ303 0) (#[.int .i64 to, .slice pt nt ct, .slice pr nr cr]) 27 :: bx (γ4 1) (#[.int .i64 0, .slice none 0 0, .slice none 0 0]) 27 :: bx (γ4 0) (#[.int .i64 now, .slice p n cap, .slice pa na ca]) 27 :: bx (γ2 0) (#[.slice none 0 0]) 35 :: bx (γ1 2) (#[.int .i64 0, .slice none 0 0, .slice none 0 0]) 27 :: bx (γ1 1) (#[.int .i64 to]) 2 :: bx (γ1 0) (#[.int .i64 now, .slice p n cap, .slice pa na ca]) 27 :: (Yt ++ (Yr ++ (Y1281 ++ ([bx g1236 cs1236 42]))))) (by kernel_rfl) rfl rfl ?_)))))))))))))
     have heq := rg_hi (rs := rs) hx1238 q1240
     exact dr [0, 2, 13, 14, 15] (j + 1, Yt, pt, nt, ct, Yr, pr, nr, cr, Y1281, p1281, (no + 1), cap1281) ⟨by omega, rinv_on hgA hI hx1238, by rw [rgT_of heq]; exact hT, by rw [rgR_of heq]; exact hR, by rw [rgO_of heq]; exact hO1281⟩
   ·
    refine qa [(0, .no)] [0, 2, 13, 14, 15] [(16, .bool false)] ([¬ (((j : Nat) : Int) < ((k996 : Nat) : Int))]) (al1 q1233) (ds_ (sq_ (f_ (at_leave _ rfl (done_back (by rfl) (⟨0, rfl, ?_⟩))))))
    refine done_block (ds_ (sq_ (qa0 [(0, .go (owns 1 0 1))] [] [(2, .slice po no co)] (ds_ (at_backM 0 rfl ([]) (.slice po no co) [] (by kernel_rfl) (by kernel_rfl) al0 (mo0 1 [(4, .go (owns 7 0 1))] [] (fun _ => []) (fun _ L => (L.set 7 (bx (γ2 0) (#[.slice po no co]) 35))) (fun _ => on_ (ds_ (sq_ (qa0 [] [] [(4, .int .i64 0)] (ds_ (bk ([]) (.int .i64 0) (qo0 1 [] [6, 9] [(10, .int .i64 0)] (on_ (ds_ (sq_ (qa0 [] [6, 9, 10] [(36, .bool false)] (ds_ (f_ (at_skip (ds_ (sq_ (ma0 [(0, .go (owns 4 0 3)), (1, .go (owns 5 0 3))] [6] (fun _ => [(7, .int .i64 0)]) (fun _ L => (L.set 5 (bx (γ4 1) (#[.int .i64 to, .slice pt nt ct, .slice pr nr cr]) 27))) (fun _ => ds_ (bk (owns 5 0 3) (.tuple #[.agg #[.int .i64 to, .slice pt nt ct, .slice pr nr cr], .int .i64 0]) (mo0 6 [(7, .go (owns 0 0 3))] [4, 7] (fun γ1292 => [(8, .pointer (some ⟨γ1292 0, 0, none⟩)), (9, .int .i64 0)]) (fun γ1292 L => bx (γ1292 0) (#[.int .i64 to, .slice pt nt ct, .slice pr nr cr]) 27 :: L) (fun γ1292 => on_ (ds_ (sq_ ?_)))))))))))))))))))))))))))))
    refine at_any (by kernel_rfl) ?_
    refine tk (m := 5) [2] [] [4, 7, 8] [(18, .int .i64 0)] ([]) #[false, false, true, false, false, false] al0 ?_
    refine any_cutX (V := Unit) (fun _ => True) 0 #[true, true, true, true, true, true] (fun _ => [(4, .pointer (some ⟨γ1 2, 0, none⟩)), (5, .slice po no co), (6, .int .i64 0)]) (fun _ => bx (γ1292 0) (#[.int .i64 to, .slice pt nt ct, .slice pr nr cr]) 27 :: bx (γ1228 0) (#[.slice po no co]) 35 :: bx (γ1224 1) (#[.slice p996 k996 d996]) 22 :: bx (γ1224 0) (#[.pointer (some ⟨γ303 0, 0, none⟩)]) 58 :: bx (γ1096 0) (#[.int .i64 to, .slice q996 m996 c996]) 24 :: bx (γ303 0) (#[.int .i64 to, .slice pt nt ct, .slice pr nr cr]) 27 :: bx (γ4 1) (#[.int .i64 to, .slice pt nt ct, .slice pr nr cr]) 27 :: bx (γ4 0) (#[.int .i64 now, .slice p n cap, .slice pa na ca]) 27 :: bx (γ2 0) (#[.slice po no co]) 35 :: bx (γ1 2) (#[.int .i64 to, .slice pt nt ct, .slice pr nr cr]) 27 :: bx (γ1 1) (#[.int .i64 to]) 2 :: bx (γ1 0) (#[.int .i64 now, .slice p n cap, .slice pa na ca]) 27 :: (Yt ++ (Yr ++ (Yo ++ (Yx996 ++ []))))) ?_ (fun hmx5 => ?_)
    rotate_left
    ·
     refine any_cutX (V := Unit) (fun _ => True) 3 #[true, false, true, true, false, false] (fun _ => [(4, .pointer (some ⟨γ1 2, 0, none⟩)), (7, .pointer (some ⟨γ2 0, 0, none⟩)), (18, .int .i64 0)]) (fun _ => bx (γ1292 0) (#[.int .i64 to, .slice pt nt ct, .slice pr nr cr]) 27 :: bx (γ1228 0) (#[.slice po no co]) 35 :: bx (γ1224 1) (#[.slice p996 k996 d996]) 22 :: bx (γ1224 0) (#[.pointer (some ⟨γ303 0, 0, none⟩)]) 58 :: bx (γ1096 0) (#[.int .i64 to, .slice q996 m996 c996]) 24 :: bx (γ303 0) (#[.int .i64 to, .slice pt nt ct, .slice pr nr cr]) 27 :: bx (γ4 1) (#[.int .i64 to, .slice pt nt ct, .slice pr nr cr]) 27 :: bx (γ4 0) (#[.int .i64 now, .slice p n cap, .slice pa na ca]) 27 :: bx (γ2 0) (#[.slice po no co]) 35 :: bx (γ1 2) (#[.int .i64 to, .slice pt nt ct, .slice pr nr cr]) 27 :: bx (γ1 1) (#[.int .i64 to]) 2 :: bx (γ1 0) (#[.int .i64 now, .slice p n cap, .slice pa na ca]) 27 :: (Yt ++ (Yr ++ (Yo ++ (Yx996 ++ []))))) ?_ (fun hmx4 => ?_)
     ·
      rintro _ _
      refine a1 1 rfl ?_
      refine qo0 1 [(1, .go (owns 8 0 1))] [4, 18] [(17, .slice po no co)] ?_
      refine od_ ?_
      refine tk (m := 0) [4, 5] [] [4] [(5, .slice po no co), (6, .int .i64 0)] ([]) #[true, true, true, true, true, true] al0 ?_
      exact wk (hmx5 () trivial) [4, 5, 6] [[_], [_], [_], [_], [_], [_], [_], [_], [_], [_], [_], [_], _, _, _, _] [0, 1, 2, 3, 4, 5, 6, 7, 8, 9, 10, 11, 12, 13, 14, 15] rfl rfl
     refine any_cutX (V := Unit) (fun _ => True) 3 #[true, true, true, false, false, false] (fun _ => [(4, .pointer (some ⟨γ1 2, 0, none⟩)), (16, .agg #[.int .i64 to, .slice pt nt ct, .slice pr nr cr]), (17, .slice po no co), (18, .int .i64 0)]) (fun _ => bx (γ1292 0) (#[.int .i64 to, .slice pt nt ct, .slice pr nr cr]) 27 :: bx (γ1228 0) (#[.slice po no co]) 35 :: bx (γ1224 1) (#[.slice p996 k996 d996]) 22 :: bx (γ1224 0) (#[.pointer (some ⟨γ303 0, 0, none⟩)]) 58 :: bx (γ1096 0) (#[.int .i64 to, .slice q996 m996 c996]) 24 :: bx (γ303 0) (#[.int .i64 to, .slice pt nt ct, .slice pr nr cr]) 27 :: bx (γ4 1) (#[.int .i64 to, .slice pt nt ct, .slice pr nr cr]) 27 :: bx (γ4 0) (#[.int .i64 now, .slice p n cap, .slice pa na ca]) 27 :: bx (γ2 0) (#[.slice po no co]) 35 :: bx (γ1 2) (#[.int .i64 0, .slice none 0 0, .slice none 0 0]) 27 :: bx (γ1 1) (#[.int .i64 to]) 2 :: bx (γ1 0) (#[.int .i64 now, .slice p n cap, .slice pa na ca]) 27 :: (Yt ++ (Yr ++ (Yo ++ (Yx996 ++ []))))) ?_ (fun hmx3 => ?_)
     ·
      rintro _ _
      refine a1 3 rfl ?_
      refine mo0 1 [(3, .go (owns 9 0 3))] [4, 17, 18] (fun _ => []) (fun _ L => (L.set 9 (bx (γ1 2) (#[.int .i64 to, .slice pt nt ct, .slice pr nr cr]) 27))) (fun _ => ?_)
      refine od_ ?_
      refine tk (m := 0) [4, 5] [] [4] [(5, .slice po no co), (6, .int .i64 0)] ([]) #[true, true, true, true, true, true] al0 ?_
      exact wk (hmx5 () trivial) [4, 5, 6] [[_], [_], [_], [_], [_], [_], [_], [_], [_], [_], [_], [_], _, _, _, _] [0, 1, 2, 3, 4, 5, 6, 7, 8, 9, 10, 11, 12, 13, 14, 15] rfl rfl
     refine any_cutX (V := Unit) (fun _ => True) 4 #[false, true, true, false, false, false] (fun _ => [(4, .pointer (some ⟨γ1 2, 0, none⟩)), (8, .pointer (some ⟨γ1292 0, 0, none⟩)), (17, .slice po no co), (18, .int .i64 0)]) (fun _ => bx (γ1292 0) (#[.int .i64 to, .slice pt nt ct, .slice pr nr cr]) 27 :: bx (γ1228 0) (#[.slice po no co]) 35 :: bx (γ1224 1) (#[.slice p996 k996 d996]) 22 :: bx (γ1224 0) (#[.pointer (some ⟨γ303 0, 0, none⟩)]) 58 :: bx (γ1096 0) (#[.int .i64 to, .slice q996 m996 c996]) 24 :: bx (γ303 0) (#[.int .i64 to, .slice pt nt ct, .slice pr nr cr]) 27 :: bx (γ4 1) (#[.int .i64 to, .slice pt nt ct, .slice pr nr cr]) 27 :: bx (γ4 0) (#[.int .i64 now, .slice p n cap, .slice pa na ca]) 27 :: bx (γ2 0) (#[.slice po no co]) 35 :: bx (γ1 2) (#[.int .i64 0, .slice none 0 0, .slice none 0 0]) 27 :: bx (γ1 1) (#[.int .i64 to]) 2 :: bx (γ1 0) (#[.int .i64 now, .slice p n cap, .slice pa na ca]) 27 :: (Yt ++ (Yr ++ (Yo ++ (Yx996 ++ []))))) ?_ (fun hmx2 => ?_)
     ·
      rintro _ _
      refine a1 0 rfl ?_
      refine qo0 1 [(0, .go (owns 0 0 3))] [4, 17, 18] [(16, .agg #[.int .i64 to, .slice pt nt ct, .slice pr nr cr])] ?_
      refine od_ ?_
      exact wk (hmx3 () trivial) [4, 16, 17, 18] [[_], [_], [_], [_], [_], [_], [_], [_], [_], [_], [_], [_], _, _, _, _] [0, 1, 2, 3, 4, 5, 6, 7, 8, 9, 10, 11, 12, 13, 14, 15] rfl rfl
     refine any_cutX (V := Unit) (fun _ => True) 4 #[true, false, true, false, false, false] (fun _ => [(4, .pointer (some ⟨γ1 2, 0, none⟩)), (7, .pointer (some ⟨γ2 0, 0, none⟩)), (16, .agg #[.int .i64 to, .slice pt nt ct, .slice pr nr cr]), (18, .int .i64 0)]) (fun _ => bx (γ1292 0) (#[.int .i64 to, .slice pt nt ct, .slice pr nr cr]) 27 :: bx (γ1228 0) (#[.slice po no co]) 35 :: bx (γ1224 1) (#[.slice p996 k996 d996]) 22 :: bx (γ1224 0) (#[.pointer (some ⟨γ303 0, 0, none⟩)]) 58 :: bx (γ1096 0) (#[.int .i64 to, .slice q996 m996 c996]) 24 :: bx (γ303 0) (#[.int .i64 to, .slice pt nt ct, .slice pr nr cr]) 27 :: bx (γ4 1) (#[.int .i64 to, .slice pt nt ct, .slice pr nr cr]) 27 :: bx (γ4 0) (#[.int .i64 now, .slice p n cap, .slice pa na ca]) 27 :: bx (γ2 0) (#[.slice po no co]) 35 :: bx (γ1 2) (#[.int .i64 0, .slice none 0 0, .slice none 0 0]) 27 :: bx (γ1 1) (#[.int .i64 to]) 2 :: bx (γ1 0) (#[.int .i64 now, .slice p n cap, .slice pa na ca]) 27 :: (Yt ++ (Yr ++ (Yo ++ (Yx996 ++ []))))) ?_ (fun hmx1 => ?_)
     ·
      rintro _ _
      refine any_fork [1, 3] (by kernel_rfl) (by simp) (each_cons _ rfl ?_ (each_cons _ rfl ?_ (each_nil)))
      ·
       refine qo0 1 [(1, .go (owns 8 0 1))] [4, 16, 18] [(17, .slice po no co)] ?_
       refine od_ ?_
       exact wk (hmx3 () trivial) [4, 16, 17, 18] [[_], [_], [_], [_], [_], [_], [_], [_], [_], [_], [_], [_], _, _, _, _] [0, 1, 2, 3, 4, 5, 6, 7, 8, 9, 10, 11, 12, 13, 14, 15] rfl rfl
      ·
       refine mo0 1 [(3, .go (owns 9 0 3))] [4, 7, 18] (fun _ => []) (fun _ L => (L.set 9 (bx (γ1 2) (#[.int .i64 to, .slice pt nt ct, .slice pr nr cr]) 27))) (fun _ => ?_)
       refine od_ ?_
       exact wk (hmx4 () trivial) [4, 7, 18] [[_], [_], [_], [_], [_], [_], [_], [_], [_], [_], [_], [_], _, _, _, _] [0, 1, 2, 3, 4, 5, 6, 7, 8, 9, 10, 11, 12, 13, 14, 15] rfl rfl
     refine any_fork [0, 1] (by kernel_rfl) (by simp) (each_cons _ rfl ?_ (each_cons _ rfl ?_ (each_nil)))
     ·
      refine qo0 1 [(0, .go (owns 0 0 3))] [4, 7, 18] [(16, .agg #[.int .i64 to, .slice pt nt ct, .slice pr nr cr])] ?_
      refine od_ ?_
      exact wk (hmx1 () trivial) [4, 7, 16, 18] [[_], [_], [_], [_], [_], [_], [_], [_], [_], [_], [_], [_], _, _, _, _] [0, 1, 2, 3, 4, 5, 6, 7, 8, 9, 10, 11, 12, 13, 14, 15] rfl rfl
     ·
      refine qo0 1 [(1, .go (owns 8 0 1))] [4, 8, 18] [(17, .slice po no co)] ?_
      refine od_ ?_
      exact wk (hmx2 () trivial) [4, 8, 17, 18] [[_], [_], [_], [_], [_], [_], [_], [_], [_], [_], [_], [_], _, _, _, _] [0, 1, 2, 3, 4, 5, 6, 7, 8, 9, 10, 11, 12, 13, 14, 15] rfl rfl
    rintro _ _
    refine any_nil (by kernel_rfl) ?_
    refine ds_ (rt (owns 9 0 3) (.tuple #[.agg #[.int .i64 to, .slice pt nt ct, .slice pr nr cr], .slice po no co, .int .i64 0]) ?_)
    have hend := rg_end (rs := rs) (to := to) (ts := ts) (j := j) (by omega)
    exact fun w' hw => by rw [passA_ok q6 (of_decide_eq_true q393), passR_ok q6 (of_decide_eq_true q393), ← hend]; exact ⟨_, _, _, _, _, _, _, _, _, _, _, _, rfl, hT, hR, hQ, hw.below, three_tails (Hs.pick [[bx (γ1292 0) (#[.int .i64 to, .slice pt nt ct, .slice pr nr cr]) 27], [bx (γ1228 0) (#[.slice po no co]) 35], [bx (γ1224 1) (#[.slice p996 k996 d996]) 22], [bx (γ1224 0) (#[.pointer (some ⟨γ303 0, 0, none⟩)]) 58], [bx (γ1096 0) (#[.int .i64 to, .slice q996 m996 c996]) 24], [bx (γ303 0) (#[.int .i64 to, .slice pt nt ct, .slice pr nr cr]) 27], [bx (γ4 1) (#[.int .i64 to, .slice pt nt ct, .slice pr nr cr]) 27], [bx (γ4 0) (#[.int .i64 now, .slice p n cap, .slice pa na ca]) 27], [bx (γ2 0) (#[.slice po no co]) 35], [bx (γ1 2) (#[.int .i64 to, .slice pt nt ct, .slice pr nr cr]) 27], [bx (γ1 1) (#[.int .i64 to]) 2], [bx (γ1 0) (#[.int .i64 now, .slice p n cap, .slice pa na ca]) 27], Yt, Yr, Yo, Yx996] [12, 13, 14] [0, 1, 2, 3, 4, 5, 6, 7, 8, 9, 10, 11, 15] (by kernel_rfl) hw)⟩
end Go.Proofs.YtdbamgbgnpadjaaGreat

/-! Alarms: what is good stays good; what rings; plain. -/
namespace Go.Proofs.YtdbamgbgnpadjaaGreat
open Go Go.RowKit

section
variable {now k v at_ to nx : Int} {ts : List Tim} {rs : List Alm} {x y : Alm} {t : Tim} {j : Nat}
theorem vkw1 : startV 0 [] [] ⟨2, 5, 1000⟩ 1500 = (0, [⟨1, 1500⟩], [⟨2, 5, 1000⟩], 0) := by decide
theorem vkw0 : rgS 5000 [⟨1, 1500⟩] [⟨2, 5, 1000⟩] 1 = ([⟨1, 5500⟩], [⟨2, 5, 1000⟩], [⟨2, 5, 1500, 3⟩]) := by
  have e : duL [(⟨1, 1500⟩ : Tim)] 5000 = [⟨1, 1500⟩] := by decide
  have e2 : sortT [(⟨1, 1500⟩ : Tim)] = [⟨1, 1500⟩] := by simp [sortT]
  unfold rgS
  rw [e, e2]
  decide
theorem vkw2 : ringsV 5000 [⟨1, 1500⟩] [⟨2, 5, 1000⟩] = ([⟨1, 5500⟩], [⟨2, 5, 1000⟩], [⟨2, 5, 1500, 3⟩]) := by
  rw [← vkw0, ← rg_end (j := 1)]
  have e : duL [(⟨1, 1500⟩ : Tim)] 5000 = [⟨1, 1500⟩] := by decide
  rw [e]; simp [sortT]
theorem vkw3 : alB 0 [⟨1, 1500⟩] [⟨2, 5, 1000⟩] = true := by decide
theorem vkw4 : passA 0 [⟨1, 1500⟩] [⟨2, 5, 1000⟩] 5000 = (5000, [⟨1, 5500⟩], [⟨2, 5, 1000⟩], 0) := by rw [passA_ok vkw3 (by decide), vkw2]
theorem vkw5 : passR 0 [⟨1, 1500⟩] [⟨2, 5, 1000⟩] 5000 = [⟨2, 5, 1500, 3⟩] := by rw [passR_ok vkw3 (by decide), vkw2]
theorem vkw6 : getA 5000 [⟨1, 5500⟩] [⟨2, 5, 1000⟩] 2 = some (⟨2, 5, 1000⟩, 5500) := by decide
/-- An op. -/
structure OpA8 where
  kind : Int
  vcpu : Int
  al : Alm
  time : Int
  on : Bool
deriving DecidableEq, Inhabited
def otV (now : Int) (on : Bool) (time : Int) : Int := if on = true then now + Int.tmod time 4503599627370496 else time
theorem ot_on {time : Int} : otV now true time = now + Int.tmod time 4503599627370496 := if_pos rfl
theorem ot_off {time : Int} : otV now false time = time := if_neg (by decide)
theorem tm_bnd (a : Int) : -4503599627370496 < Int.tmod a 4503599627370496 ∧ Int.tmod a 4503599627370496 < 4503599627370496 := by
  have h1 := Int.tmod_lt_of_pos a (b := 4503599627370496) (by decide)
  have h2 := Int.lt_tmod_of_pos a (b := 4503599627370496) (by decide)
  omega
theorem min_if33 {n : Nat} : (if (33 : Int) < ((n : Nat) : Int) then (33 : Int) else ((n : Nat) : Int)) = ((min n 33 : Nat) : Int) := by split <;> omega
theorem min_if17 {n : Nat} : (if (17 : Int) < ((n : Nat) : Int) then (17 : Int) else ((n : Nat) : Int)) = ((min n 17 : Nat) : Int) := by split <;> omega
theorem take_min {α : Type} {l : List α} {n k : Nat} (h : n = l.length) : l.take (min n k) = l.take k := by
  rcases Nat.le_total n k with h1 | h1
  · rw [Nat.min_eq_left h1, List.take_of_length_le (by omega), List.take_of_length_le (by omega)]
  · rw [Nat.min_eq_right h1]
def shT (ts : List Tim) : List Tim := ts.take 33
def shR (rs : List Alm) : List Alm := rs.take 17
theorem shT_len : (shT ts).length ≤ 33 := by unfold shT; rw [List.length_take]; omega
theorem shR_len : (shR rs).length ≤ 17 := by unfold shR; rw [List.length_take]; omega
-- rows
theorem mem_rput (hr : Ris Alm.vcpu rs) : y ∈ rput rs x ↔ y = x ∨ (y ∈ rs ∧ y.vcpu ≠ x.vcpu) := by
  unfold rput
  cases e : getK Alm.vcpu rs x.vcpu with
  | some z => exact mem_putK hr (z := x) e
  | none =>
    rw [mem_insK]
    constructor
    · rintro (h | h)
      · exact .inl h
      · exact .inr ⟨h, getK_none.1 e y h⟩
    · rintro (h | h)
      · exact .inl h
      · exact .inr h.1
theorem ris_rput (hr : Ris Alm.vcpu rs) : Ris Alm.vcpu (rput rs x) := by
  unfold rput
  cases e : getK Alm.vcpu rs x.vcpu with
  | some y => exact ris_putK hr (z := x) e
  | none => exact ris_insK hr (z := x) e
theorem get_rput_self (hr : Ris Alm.vcpu rs) : getK Alm.vcpu (rput rs x) x.vcpu = some x := (getK_iff (ris_rput hr)).2 ⟨(mem_rput hr).2 (.inl rfl), rfl⟩
theorem get_rput (hr : Ris Alm.vcpu rs) (hne : v ≠ x.vcpu) : getK Alm.vcpu (rput rs x) v = getK Alm.vcpu rs v := by
  cases e : getK Alm.vcpu rs v with
  | none =>
    refine getK_none.2 fun y hy => ?_
    rcases (mem_rput hr).1 hy with h | h
    · subst h; exact fun h => hne h.symm
    · exact getK_none.1 e y h.1
  | some y => have := (getK_iff hr).1 e; exact (getK_iff (ris_rput hr)).2 ⟨(mem_rput hr).2 (.inr ⟨this.1, by rw [this.2]; exact hne⟩), this.2⟩
theorem mem_del (hr : Ris Tim.id ts) : t ∈ delK Tim.id ts k → t ∈ ts := fun h => by
  unfold delK at h
  rcases List.mem_append.1 h with h | h
  · exact List.mem_of_mem_take h
  · exact List.mem_of_mem_drop h
theorem get_del_self (hr : Ris Tim.id ts) (hg : getK Tim.id ts k = some t) : getK Tim.id (delK Tim.id ts k) k = none := getK_none.2 fun _ hx => ((mem_delK hr hg).1 hx).2
theorem get_del {t2 : Tim} (hr : Ris Tim.id ts) (hg : getK Tim.id ts v = some t2) (hne : k ≠ v) : getK Tim.id (delK Tim.id ts v) k = getK Tim.id ts k := by
  cases e : getK Tim.id ts k with
  | none => exact getK_none.2 fun x hx => getK_none.1 e x ((mem_delK hr hg).1 hx).1
  | some x => have := (getK_iff hr).1 e; exact (getK_iff (ris_delK hr hg)).2 ⟨(mem_delK hr hg).2 ⟨this.1, by rw [this.2]; exact hne⟩, this.2⟩
theorem wheel_del (g : wheelB now ts = true) (hg : getK Tim.id ts k = some t) : wheelB now (delK Tim.id ts k) = true := by
  have h := wheel_iff.1 g
  exact wheel_iff.2 ⟨h.n0, h.n1, ris_delK h.rs hg, fun t ht => h.tm t (mem_del h.rs ht)⟩
-- movers that are done
theorem startV_ok (g : alB now ts rs = true) (h : almB x = true ∧ aheadP now at_) : startV now ts rs x at_ = (now, tput ts (x.vcpu - 1) at_, rput rs x, 0) := by simp only [startV, g, if_true, if_pos h]
theorem start_good (g : alB now ts rs = true) (h : almB x = true ∧ aheadP now at_) : alB now (tput ts (x.vcpu - 1) at_) (rput rs x) = true := by
  have hg := al_iff.1 g
  have hv := alm_id h.1
  refine al_iff.2 ⟨ris_rput hg.rr, fun y hy => ?_, wheel_tput hg.wh (by omega) (by omega) h.2, fun u h1 h2 => ?_⟩
  · rcases (mem_rput hg.rr).1 hy with e | e
    · rw [e]; exact h.1
    · exact hg.al y e.1
  · by_cases hu : u = x.vcpu
    · rw [hu, get_tput_self hg.gw.rs, get_rput_self hg.rr]; rfl
    · rw [get_tput hg.gw.rs (by omega), get_rput hg.rr hu]; exact hg.lk u h1 h2
theorem stop_good (g : alB now ts rs = true) (ht : getK Tim.id ts (v - 1) = some t) : alB now (delK Tim.id ts (v - 1)) (rdrop rs v) = true := by
  have hg := al_iff.1 g
  refine al_iff.2 ⟨ris_rdrop hg.rr, fun y hy => hg.al y (mem_rdrop.1 hy).1, wheel_del hg.wh ht, fun u h1 h2 => ?_⟩
  by_cases hu : u = v
  · rw [hu, get_del_self hg.gw.rs ht, get_rdrop_self]; rfl
  · rw [get_del hg.gw.rs ht (by omega), get_rdrop hg.rr hu]; exact hg.lk u h1 h2
theorem sleep_good (g : alB now ts rs = true) (hv : vcB v = true) (h : aheadP now at_) : alB now (tput ts (15 + v) at_) rs = true := by
  have hg := al_iff.1 g
  have hv2 : 1 ≤ v ∧ v ≤ 16 := of_decide_eq_true hv
  exact al_iff.2 ⟨hg.rr, hg.al, wheel_tput hg.wh (by omega) (by omega) h, fun u h1 h2 => by rw [get_tput hg.gw.rs (by omega)]; exact hg.lk u h1 h2⟩
theorem wake_good (g : alB now ts rs = true) (hv : vcB v = true) (ht : getK Tim.id ts (15 + v) = some t) : alB now (delK Tim.id ts (15 + v)) rs = true := by
  have hg := al_iff.1 g
  have hv2 : 1 ≤ v ∧ v ≤ 16 := of_decide_eq_true hv
  exact al_iff.2 ⟨hg.rr, hg.al, wheel_del hg.wh ht, fun u h1 h2 => by rw [get_del hg.gw.rs ht (by omega)]; exact hg.lk u h1 h2⟩
def ringOf (to : Int) (rs : List Alm) (t : Tim) : Rng := if t.id < 16 then match getK Alm.vcpu rs (t.id + 1) with
  | some x => ⟨t.id + 1, x.port, t.due, missA x t.due to⟩
  | none => ⟨0, 0, 0, 0⟩
  else ⟨t.id - 16 + 1, 0, t.due, 0⟩
theorem take_one {α : Type} {l : List α} {a : α} (hx : l[j]? = some a) : l.take (j + 1) = l.take j ++ [a] := by rw [List.take_add_one, hx]; rfl
theorem rings_inv (g : GoodA now ts rs) (h1 : now ≤ to) (h2 : to ≤ 1125899906842624) : ∀ j ≤ (sortT (duL ts to)).length, RInv to ts rs j ∧ rgO to ts rs j = ((sortT (duL ts to)).take j).map (ringOf to rs) ∧ ∀ t ∈ (sortT (duL ts to)).drop j, getK Alm.vcpu (rgR to ts rs j) (t.id + 1) = getK Alm.vcpu rs (t.id + 1)
  | 0, _ => ⟨rinv_zero g h1 h2, rfl, fun _ _ => rfl⟩
  | j + 1, hj => by
    obtain ⟨hI, hO, hR⟩ := rings_inv g h1 h2 j (by omega)
    obtain ⟨t, hx⟩ : ∃ t, (sortT (duL ts to))[j]? = some t := ⟨_, List.getElem?_eq_getElem (by omega)⟩
    have hd := fun {b} (hb : b ∈ (sortT (duL ts to)).drop (j + 1)) => pair_at (fired_ids g.gw (to := to)) hx hb
    refine ⟨rinv_on g hI hx, ?_, fun b hb => ?_⟩
    · rw [take_one hx, List.map_append, ← hO]
      by_cases hi : t.id < 16
      · obtain ⟨x, hz⟩ := hI.pn' t (mem_at hx) hi
        have hz2 := hz
        rw [hR t (mem_at hx)] at hz2
        have e : ringOf to rs t = ⟨t.id + 1, x.port, t.due, missA x t.due to⟩ := by simp only [ringOf, if_pos hi, hz2]
        cases hn : nextA x t.due to with
        | some nx => rw [rgO_of (rg_go hx hi hz hn), List.map_singleton, e]
        | none => rw [rgO_of (rg_no hx hi hz hn), List.map_singleton, e]
      · rw [rgO_of (rg_hi hx hi), List.map_singleton]
        simp only [ringOf, if_neg hi]
    · have h3 := hR b (drop_mem hb)
      by_cases hi : t.id < 16
      · obtain ⟨x, hz⟩ := hI.pn' t (mem_at hx) hi
        cases hn : nextA x t.due to with
        | some nx => rw [rgR_of (rg_go hx hi hz hn)]; exact h3
        | none => rw [rgR_of (rg_no hx hi hz hn), get_rdrop hI.rr' (by have := (getK_mem hz).2; have := hd hb; omega)]; exact h3
      · rw [rgR_of (rg_hi hx hi)]; exact h3
theorem rings_are (g : GoodA now ts rs) (h1 : now ≤ to) (h2 : to ≤ 1125899906842624) : (ringsV to ts rs).2.2 = (sortT (duL ts to)).map (ringOf to rs) := by
  have := (rings_inv g h1 h2 _ (Nat.le_refl _)).2.1
  rw [List.take_length] at this
  rw [← this, rgO, rg_end (Nat.le_refl _)]
theorem rings_good (g : GoodA now ts rs) (h1 : now ≤ to) (h2 : to ≤ 1125899906842624) : RInv to ts rs (sortT (duL ts to)).length := (rings_inv g h1 h2 _ (Nat.le_refl _)).1
theorem rings_len (g : GoodA now ts rs) (h1 : now ≤ to) (h2 : to ≤ 1125899906842624) : (ringsV to ts rs).2.2.length ≤ 32 := by
  rw [rings_are g h1 h2, List.length_map]; exact fired_len g.gw
end
end Go.Proofs.YtdbamgbgnpadjaaGreat
