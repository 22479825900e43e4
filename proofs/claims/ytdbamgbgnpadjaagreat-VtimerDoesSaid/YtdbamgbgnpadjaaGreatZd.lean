/- Texts of this proof, one behind the other. -/
import Derived.Test.YtdbamgbgnpadjaaGreatZc
import Derived.Test.YtdbamgbgnpadjaaGreatZb
import Derived.Test.YtdbamgbgnpadjaaGreatZa
/-! Alarms: Stop, Sleep, Wake. -/
namespace Go.Proofs.YtdbamgbgnpadjaaGreat
open Go Go.RowKit

set_option maxRecDepth 100000 in
theorem stop_t (now : Int) (p : Option Addr) (n cap : Nat) (ts : List Tim) (pa : Option Addr) (na ca : Nat) (rs : List Alm) (k : Int) (w : World)
 (hts : Sv w p ts) (hn : n = ts.length) (hb : n ≤ 1000)
 (hrs : Sv w pa rs) (hna : na = rs.length) (hba : na ≤ 1000)
 : Calls Tryz.prog 15 #[.agg #[.int .i64 now, .slice p n cap, .slice pa na ca], .int .i64 k] w fun e w' => ∃ q m c Y q2 m2 c2 X, e = .returned (.tuple #[.agg #[.int .i64 (stopV now ts rs k).1, .slice q m c, .slice q2 m2 c2], .int .i64 (stopV now ts rs k).2.2.2]) ∧ SlO 42 Y q m c (stopV now ts rs k).2.1 ∧ SlO 32 X q2 m2 c2 (stopV now ts rs k).2.2.1 ∧ Below w.heap.size w w' ∧ Hs w (Y ++ X) w' := by
 refine enter (Hs.start w) Tryz.func15 rfl Tryz.ntmps15 rfl (sq_ (ma0 [] [] (fun γ1 => [(2, .pointer (some ⟨γ1 0, 0, none⟩)), (3, .pointer (some ⟨γ1 1, 0, none⟩)), (4, .pointer (some ⟨γ1 2, 0, none⟩))]) (fun γ1 L => bx (γ1 2) (#[.int .i64 0, .slice none 0 0, .slice none 0 0]) 27 :: bx (γ1 1) (#[.int .i64 k]) 3 :: bx (γ1 0) (#[.int .i64 now, .slice p n cap, .slice pa na ca]) 27 :: L) (fun γ1 => ds_ (sq_ (ao_ (qo0 3 [(0, .go (owns 2 0 3)), (1, .go (owns 1 0 1))] [4] [(6, .agg #[.int .i64 now, .slice p n cap, .slice pa na ca]), (7, .int .i64 k), (8, .func (.func 38) #[] #[.pointer (some ⟨γ1 1, 0, none⟩)])] (ops_inline (g := 25) (args := #[.agg #[.int .i64 now, .slice p n cap, .slice pa na ca], .int .i64 k, .func (.func 38) #[] #[.pointer (some ⟨γ1 1, 0, none⟩)]]) (by kernel_rfl) (by kernel_rfl) (by kernel_rfl) (fun args w => Tryz.call25 args w) Tryz.func25 rfl Tryz.ntmps25 rfl (sq_ (ma0 [] [1, 2] (fun γ3 => [(3, .pointer (some ⟨γ3 0, 0, none⟩)), (6, .pointer (some ⟨γ3 1, 0, none⟩))]) (fun γ3 L => bx (γ3 1) (#[.int .i64 0, .slice none 0 0, .slice none 0 0]) 27 :: bx (γ3 0) (#[.int .i64 now, .slice p n cap, .slice pa na ca]) 27 :: L) (fun γ3 => ds_ (sq_ (sq_ (ao_ (qo0 1 [(0, .go (owns 1 0 3))] [1, 2, 3, 6] [(11, .agg #[.int .i64 now, .slice p n cap, .slice pa na ca])] ?_))))))))))))))
 rcases q5 : alB now ts rs with _ | _
 ·
  refine cD (.int .i64 280) (fun args w => Tryz.call36 args w) (fun w hw => by have := acheck_t now p n cap ts pa na ca rs w (hts.kept hw.below) hn (by omega) (hrs.kept hw.below) hna (by omega); rw [q5] at this; exact this) (qo0 1 [] [1, 2, 3, 6] [(8, .int .i64 280)] (on_ (ds_ (sq_ (qa0 [] [1, 2, 3, 6, 8] [(14, .bool true)] (ds_ (t_ (sq_ (qa0 [(2, .go (owns 0 0 3))] [6] [(7, .int .i64 280)] (ds_ (bk (owns 0 0 3) (.tuple #[.agg #[.int .i64 0, .slice none 0 0, .slice none 0 0], .int .i64 280]) (qo0 4 [(6, .go (owns 2 0 3))] [4] [(5, .int .i64 280)] (on_ (ds_ (rt (owns 2 0 3) (.tuple #[.agg #[.int .i64 0, .slice none 0 0, .slice none 0 0], .int .i64 280]) ?_)))))))))))))))
  exact fun w' hw => by rw [stopV_bad q5]; exact ⟨none, 0, 0, [], none, 0, 0, [], rfl, SlO.nil, SlO.nil, hw.below, hw.sub (List.nil_sublist _)⟩
 ·
  refine cD (.int .i64 0) (fun args w => Tryz.call36 args w) (fun w hw => by have := acheck_t now p n cap ts pa na ca rs w (hts.kept hw.below) hn (by omega) (hrs.kept hw.below) hna (by omega); rw [q5] at this; exact this) (qo0 1 [] [1, 2, 3, 6] [(8, .int .i64 0)] (on_ (ds_ (sq_ (qa0 [] [1, 2, 3, 6, 8] [(14, .bool false)] (ds_ (f_ (at_skip (ds_ (sq_ (sq_ (ao_ (qo0 1 [] [2, 3, 6] [(17, .int .i64 k)] ?_)))))))))))))
  rcases q13 : vcB k with _ | _
  ·
   refine cD (.bool false) (fun args w => Tryz.call56 args w) (fun w hw => by have := vc_t k w; rw [q13] at this; exact this) (qo0 1 [] [2, 3, 6] [(19, .bool true)] (on_ (ds_ (t_ (sq_ (qa0 [(1, .go (owns 0 0 3))] [6] [(7, .int .i64 2)] (ds_ (bk (owns 0 0 3) (.tuple #[.agg #[.int .i64 0, .slice none 0 0, .slice none 0 0], .int .i64 2]) (qo0 4 [(6, .go (owns 2 0 3))] [4] [(5, .int .i64 2)] (on_ (ds_ (rt (owns 2 0 3) (.tuple #[.agg #[.int .i64 0, .slice none 0 0, .slice none 0 0], .int .i64 2]) ?_))))))))))))
   exact fun w' hw => by rw [stopV_arg q5 q13]; exact ⟨none, 0, 0, [], none, 0, 0, [], rfl, SlO.nil, SlO.nil, hw.below, hw.sub (List.nil_sublist _)⟩
  ·
   refine cD (.bool true) (fun args w => Tryz.call56 args w) (fun w hw => by have := vc_t k w; rw [q13] at this; exact this) (qo0 1 [] [2, 3, 6] [(19, .bool false)] (on_ (ds_ (f_ (at_skip (ds_ (sq_ ?_)))))))
   have hlr := (al_iff.1 q5).rl
   have hlt := (wheel_iff.1 (al_iff.1 q5).wh).len
   refine at_any (by kernel_rfl) ?_
   refine tk (m := 6) [0, 2] [] [2, 3, 6] [(21, .pointer (some ⟨γ3 0, 0, none⟩)), (23, .pointer (some ⟨γ3 0, 2, none⟩))] ([]) #[true, false, true, false, false, false, false, false] al0 ?_
   refine any_cutX (V := (List Ob) × (Nat) × (Option Addr) × (Nat → Nat)) (fun ⟨Y101, cq101, q101, γ141⟩ => SlO 32 Y101 q101 na cq101 rs) 0 #[true, true, true, true, true, true, true, true] (fun ⟨Y101, cq101, q101, γ141⟩ => [(2, .func (.func 38) #[] #[.pointer (some ⟨γ1 1, 0, none⟩)]), (3, .pointer (some ⟨γ3 0, 0, none⟩)), (6, .pointer (some ⟨γ3 1, 0, none⟩)), (9, .pointer (some ⟨γ141 0, 0, none⟩))]) (fun ⟨Y101, cq101, q101, γ141⟩ => bx (γ141 0) (#[.int .i64 now, .slice p n cap, .slice q101 na cq101]) 27 :: bx (γ3 1) (#[.int .i64 0, .slice none 0 0, .slice none 0 0]) 27 :: bx (γ3 0) (#[.int .i64 now, .slice p n cap, .slice pa na ca]) 27 :: bx (γ1 2) (#[.int .i64 0, .slice none 0 0, .slice none 0 0]) 27 :: bx (γ1 1) (#[.int .i64 k]) 3 :: bx (γ1 0) (#[.int .i64 now, .slice p n cap, .slice pa na ca]) 27 :: (Y101 ++ [])) ?_ (fun hmx12 => ?_)
   rotate_left
   ·
    refine any_cutX (V := (List Ob) × (Nat) × (Option Addr) × (Nat → Nat)) (fun ⟨Y101, cq101, q101, γ141⟩ => SlO 32 Y101 q101 na cq101 rs) 1 #[true, true, true, true, true, true, true, false] (fun ⟨Y101, cq101, q101, γ141⟩ => [(2, .func (.func 38) #[] #[.pointer (some ⟨γ1 1, 0, none⟩)]), (3, .pointer (some ⟨γ3 0, 0, none⟩)), (6, .pointer (some ⟨γ3 1, 0, none⟩)), (9, .pointer (some ⟨γ141 0, 0, none⟩)), (26, .agg #[.int .i64 now, .slice p n cap, .slice q101 na cq101])]) (fun ⟨Y101, cq101, q101, γ141⟩ => bx (γ141 0) (#[.int .i64 0, .slice none 0 0, .slice none 0 0]) 27 :: bx (γ3 1) (#[.int .i64 0, .slice none 0 0, .slice none 0 0]) 27 :: bx (γ3 0) (#[.int .i64 now, .slice p n cap, .slice pa na ca]) 27 :: bx (γ1 2) (#[.int .i64 0, .slice none 0 0, .slice none 0 0]) 27 :: bx (γ1 1) (#[.int .i64 k]) 3 :: bx (γ1 0) (#[.int .i64 now, .slice p n cap, .slice pa na ca]) 27 :: (Y101 ++ [])) ?_ (fun hmx11 => ?_)
    ·
     rintro ⟨Y101, cq101, q101, γ141⟩ hO101
     refine a1 7 rfl ?_
     refine mo0 1 [(7, .go (owns 0 0 3))] [2, 3, 6, 9] (fun _ => []) (fun _ L => (L.set 0 (bx (γ141 0) (#[.int .i64 now, .slice p n cap, .slice q101 na cq101]) 27))) (fun _ => ?_)
     refine od_ ?_
     exact wk (hmx12 (Y101, cq101, q101, γ141) hO101) [2, 3, 6, 9] [[_], [_], [_], [_], [_], [_], _] [0, 1, 2, 3, 4, 5, 6] rfl rfl
    refine any_cutX (V := (List Ob) × (Nat) × (Option Addr)) (fun ⟨Y101, cq101, q101⟩ => SlO 32 Y101 q101 na cq101 rs) 2 #[true, true, true, true, true, true, false, false] (fun ⟨Y101, cq101, q101⟩ => [(2, .func (.func 38) #[] #[.pointer (some ⟨γ1 1, 0, none⟩)]), (3, .pointer (some ⟨γ3 0, 0, none⟩)), (6, .pointer (some ⟨γ3 1, 0, none⟩)), (26, .agg #[.int .i64 now, .slice p n cap, .slice q101 na cq101])]) (fun ⟨Y101, cq101, q101⟩ => bx (γ3 1) (#[.int .i64 0, .slice none 0 0, .slice none 0 0]) 27 :: bx (γ3 0) (#[.int .i64 now, .slice p n cap, .slice pa na ca]) 27 :: bx (γ1 2) (#[.int .i64 0, .slice none 0 0, .slice none 0 0]) 27 :: bx (γ1 1) (#[.int .i64 k]) 3 :: bx (γ1 0) (#[.int .i64 now, .slice p n cap, .slice pa na ca]) 27 :: (Y101 ++ [])) ?_ (fun hmx10 => ?_)
    ·
     rintro ⟨Y101, cq101, q101⟩ hO101
     refine a1 6 rfl ?_
     refine mo0 1 [] [2, 3, 6, 26] (fun γ141 => [(9, .pointer (some ⟨γ141 0, 0, none⟩))]) (fun γ141 L => bx (γ141 0) (#[.int .i64 0, .slice none 0 0, .slice none 0 0]) 27 :: L) (fun γ141 => ?_)
     refine od_ ?_
     exact wk (hmx11 (Y101, cq101, q101, γ141) hO101) [2, 3, 6, 9, 26] [[_], [_], [_], [_], [_], [_], _] [0, 1, 2, 3, 4, 5, 6] rfl rfl
    refine any_cutX (V := (List Ob) × (Nat) × (Option Addr) × (Nat → Nat)) (fun ⟨Y101, cq101, q101, γ141⟩ => SlO 32 Y101 q101 na cq101 rs) 3 #[true, false, true, true, true, false, true, false] (fun ⟨Y101, cq101, q101, γ141⟩ => [(2, .func (.func 38) #[] #[.pointer (some ⟨γ1 1, 0, none⟩)]), (3, .pointer (some ⟨γ3 0, 0, none⟩)), (6, .pointer (some ⟨γ3 1, 0, none⟩)), (9, .pointer (some ⟨γ141 0, 0, none⟩)), (21, .pointer (some ⟨γ3 0, 0, none⟩)), (25, .slice q101 na cq101)]) (fun ⟨Y101, cq101, q101, γ141⟩ => bx (γ141 0) (#[.int .i64 0, .slice none 0 0, .slice none 0 0]) 27 :: bx (γ3 1) (#[.int .i64 0, .slice none 0 0, .slice none 0 0]) 27 :: bx (γ3 0) (#[.int .i64 now, .slice p n cap, .slice pa na ca]) 27 :: bx (γ1 2) (#[.int .i64 0, .slice none 0 0, .slice none 0 0]) 27 :: bx (γ1 1) (#[.int .i64 k]) 3 :: bx (γ1 0) (#[.int .i64 now, .slice p n cap, .slice pa na ca]) 27 :: (Y101 ++ [])) ?_ (fun hmx9 => ?_)
    ·
     rintro ⟨Y101, cq101, q101, γ141⟩ hO101
     refine a1 1 rfl ?_
     refine qo0 1 [(1, .go (owns 2 0 2))] [2, 3, 6, 9, 25] [(22, .agg #[.int .i64 now, .slice p n cap])] ?_
     refine od_ ?_
     refine tk (m := 1) [5] [] [2, 3, 6, 9] [(26, .agg #[.int .i64 now, .slice p n cap, .slice q101 na cq101])] ([]) #[true, true, true, true, true, true, true, false] al0 ?_
     exact wk (hmx11 (Y101, cq101, q101, γ141) hO101) [2, 3, 6, 9, 26] [[_], [_], [_], [_], [_], [_], _] [0, 1, 2, 3, 4, 5, 6] rfl rfl
    refine any_cutX (V := (Nat → Nat)) (fun γ141 => True) 3 #[true, true, true, true, false, false, true, false] (fun γ141 => [(2, .func (.func 38) #[] #[.pointer (some ⟨γ1 1, 0, none⟩)]), (3, .pointer (some ⟨γ3 0, 0, none⟩)), (6, .pointer (some ⟨γ3 1, 0, none⟩)), (9, .pointer (some ⟨γ141 0, 0, none⟩)), (22, .agg #[.int .i64 now, .slice p n cap]), (24, .slice pa na ca)]) (fun γ141 => [bx (γ141 0) (#[.int .i64 0, .slice none 0 0, .slice none 0 0]) 27, bx (γ3 1) (#[.int .i64 0, .slice none 0 0, .slice none 0 0]) 27, bx (γ3 0) (#[.int .i64 now, .slice p n cap, .slice pa na ca]) 27, bx (γ1 2) (#[.int .i64 0, .slice none 0 0, .slice none 0 0]) 27, bx (γ1 1) (#[.int .i64 k]) 3, bx (γ1 0) (#[.int .i64 now, .slice p n cap, .slice pa na ca]) 27]) ?_ (fun hmx8 => ?_)
    ·
     rintro γ141 _
     refine a1 4 rfl ?_
     refine cP (fun v L' => ∃ q_ c_ Y_, v = .slice q_ na c_ ∧ L' = List.take 6 ([bx (γ141 0) (#[.int .i64 0, .slice none 0 0, .slice none 0 0]) 27, bx (γ3 1) (#[.int .i64 0, .slice none 0 0, .slice none 0 0]) 27, bx (γ3 0) (#[.int .i64 now, .slice p n cap, .slice pa na ca]) 27, bx (γ1 2) (#[.int .i64 0, .slice none 0 0, .slice none 0 0]) 27, bx (γ1 1) (#[.int .i64 k]) 3, bx (γ1 0) (#[.int .i64 now, .slice p n cap, .slice pa na ca]) 27]) ++ (Y_ ++ List.drop 6 ([bx (γ141 0) (#[.int .i64 0, .slice none 0 0, .slice none 0 0]) 27, bx (γ3 1) (#[.int .i64 0, .slice none 0 0, .slice none 0 0]) 27, bx (γ3 0) (#[.int .i64 now, .slice p n cap, .slice pa na ca]) 27, bx (γ1 2) (#[.int .i64 0, .slice none 0 0, .slice none 0 0]) 27, bx (γ1 1) (#[.int .i64 k]) 3, bx (γ1 0) (#[.int .i64 now, .slice p n cap, .slice pa na ca]) 27])) ∧ SlO 32 Y_ q_ na c_ rs) (fun args w => Tryz.call57 args w) (fun w hw => (aclone_t pa na ca rs w (hrs.kept hw.below) hna (by omega)).mono fun e w' ⟨q_, c_, Y_, he, hO, hb, hY⟩ => ⟨_, _, he, ⟨q_, c_, Y_, rfl, rfl, hO⟩, hw.join hb hY 6⟩) ?_
     rintro v101 L101 ⟨q101, cq101, Y101, rfl, rfl, hO101⟩
     refine od_ ?_
     refine tk (m := 1) [5] [] [2, 3, 6, 9] [(26, .agg #[.int .i64 now, .slice p n cap, .slice q101 na cq101])] ([]) #[true, true, true, true, true, true, true, false] al0 ?_
     exact wk (hmx11 (Y101, cq101, q101, γ141) hO101) [2, 3, 6, 9, 26] [[_], [_], [_], [_], [_], [_], _] [0, 1, 2, 3, 4, 5, 6] rfl rfl
    refine any_cutX (V := (Nat → Nat)) (fun γ141 => True) 4 #[true, false, true, true, false, false, true, false] (fun γ141 => [(2, .func (.func 38) #[] #[.pointer (some ⟨γ1 1, 0, none⟩)]), (3, .pointer (some ⟨γ3 0, 0, none⟩)), (6, .pointer (some ⟨γ3 1, 0, none⟩)), (9, .pointer (some ⟨γ141 0, 0, none⟩)), (21, .pointer (some ⟨γ3 0, 0, none⟩)), (24, .slice pa na ca)]) (fun γ141 => [bx (γ141 0) (#[.int .i64 0, .slice none 0 0, .slice none 0 0]) 27, bx (γ3 1) (#[.int .i64 0, .slice none 0 0, .slice none 0 0]) 27, bx (γ3 0) (#[.int .i64 now, .slice p n cap, .slice pa na ca]) 27, bx (γ1 2) (#[.int .i64 0, .slice none 0 0, .slice none 0 0]) 27, bx (γ1 1) (#[.int .i64 k]) 3, bx (γ1 0) (#[.int .i64 now, .slice p n cap, .slice pa na ca]) 27]) ?_ (fun hmx7 => ?_)
    ·
     rintro γ141 _
     refine any_fork [1, 4] (by kernel_rfl) (by simp) (each_cons _ rfl ?_ (each_cons _ rfl ?_ (each_nil)))
     ·
      refine qo0 1 [(1, .go (owns 2 0 2))] [2, 3, 6, 9, 24] [(22, .agg #[.int .i64 now, .slice p n cap])] ?_
      refine od_ ?_
      exact wk (hmx8 γ141 trivial) [2, 3, 6, 9, 22, 24] [[_], [_], [_], [_], [_], [_]] [0, 1, 2, 3, 4, 5] rfl rfl
     ·
      refine cP (fun v L' => ∃ q_ c_ Y_, v = .slice q_ na c_ ∧ L' = List.take 6 ([bx (γ141 0) (#[.int .i64 0, .slice none 0 0, .slice none 0 0]) 27, bx (γ3 1) (#[.int .i64 0, .slice none 0 0, .slice none 0 0]) 27, bx (γ3 0) (#[.int .i64 now, .slice p n cap, .slice pa na ca]) 27, bx (γ1 2) (#[.int .i64 0, .slice none 0 0, .slice none 0 0]) 27, bx (γ1 1) (#[.int .i64 k]) 3, bx (γ1 0) (#[.int .i64 now, .slice p n cap, .slice pa na ca]) 27]) ++ (Y_ ++ List.drop 6 ([bx (γ141 0) (#[.int .i64 0, .slice none 0 0, .slice none 0 0]) 27, bx (γ3 1) (#[.int .i64 0, .slice none 0 0, .slice none 0 0]) 27, bx (γ3 0) (#[.int .i64 now, .slice p n cap, .slice pa na ca]) 27, bx (γ1 2) (#[.int .i64 0, .slice none 0 0, .slice none 0 0]) 27, bx (γ1 1) (#[.int .i64 k]) 3, bx (γ1 0) (#[.int .i64 now, .slice p n cap, .slice pa na ca]) 27])) ∧ SlO 32 Y_ q_ na c_ rs) (fun args w => Tryz.call57 args w) (fun w hw => (aclone_t pa na ca rs w (hrs.kept hw.below) hna (by omega)).mono fun e w' ⟨q_, c_, Y_, he, hO, hb, hY⟩ => ⟨_, _, he, ⟨q_, c_, Y_, rfl, rfl, hO⟩, hw.join hb hY 6⟩) ?_
      rintro v101 L101 ⟨q101, cq101, Y101, rfl, rfl, hO101⟩
      refine od_ ?_
      exact wk (hmx9 (Y101, cq101, q101, γ141) hO101) [2, 3, 6, 9, 21, 25] [[_], [_], [_], [_], [_], [_], _] [0, 1, 2, 3, 4, 5, 6] rfl rfl
    refine any_cutX (V := (List Ob) × (Nat) × (Option Addr)) (fun ⟨Y101, cq101, q101⟩ => SlO 32 Y101 q101 na cq101 rs) 4 #[true, false, true, true, true, false, false, false] (fun ⟨Y101, cq101, q101⟩ => [(2, .func (.func 38) #[] #[.pointer (some ⟨γ1 1, 0, none⟩)]), (3, .pointer (some ⟨γ3 0, 0, none⟩)), (6, .pointer (some ⟨γ3 1, 0, none⟩)), (21, .pointer (some ⟨γ3 0, 0, none⟩)), (25, .slice q101 na cq101)]) (fun ⟨Y101, cq101, q101⟩ => bx (γ3 1) (#[.int .i64 0, .slice none 0 0, .slice none 0 0]) 27 :: bx (γ3 0) (#[.int .i64 now, .slice p n cap, .slice pa na ca]) 27 :: bx (γ1 2) (#[.int .i64 0, .slice none 0 0, .slice none 0 0]) 27 :: bx (γ1 1) (#[.int .i64 k]) 3 :: bx (γ1 0) (#[.int .i64 now, .slice p n cap, .slice pa na ca]) 27 :: (Y101 ++ [])) ?_ (fun hmx6 => ?_)
    ·
     rintro ⟨Y101, cq101, q101⟩ hO101
     refine any_fork [1, 6] (by kernel_rfl) (by simp) (each_cons _ rfl ?_ (each_cons _ rfl ?_ (each_nil)))
     ·
      refine qo0 1 [(1, .go (owns 1 0 2))] [2, 3, 6, 25] [(22, .agg #[.int .i64 now, .slice p n cap])] ?_
      refine od_ ?_
      refine tk (m := 2) [5] [] [2, 3, 6] [(26, .agg #[.int .i64 now, .slice p n cap, .slice q101 na cq101])] ([]) #[true, true, true, true, true, true, false, false] al0 ?_
      exact wk (hmx10 (Y101, cq101, q101) hO101) [2, 3, 6, 26] [[_], [_], [_], [_], [_], _] [0, 1, 2, 3, 4, 5] rfl rfl
     ·
      refine mo0 1 [] [2, 3, 6, 21, 25] (fun γ141 => [(9, .pointer (some ⟨γ141 0, 0, none⟩))]) (fun γ141 L => bx (γ141 0) (#[.int .i64 0, .slice none 0 0, .slice none 0 0]) 27 :: L) (fun γ141 => ?_)
      refine od_ ?_
      exact wk (hmx9 (Y101, cq101, q101, γ141) hO101) [2, 3, 6, 9, 21, 25] [[_], [_], [_], [_], [_], [_], _] [0, 1, 2, 3, 4, 5, 6] rfl rfl
    refine any_cutX (V := (Nat → Nat)) (fun γ141 => True) 4 #[true, true, true, false, false, false, true, false] (fun γ141 => [(2, .func (.func 38) #[] #[.pointer (some ⟨γ1 1, 0, none⟩)]), (3, .pointer (some ⟨γ3 0, 0, none⟩)), (6, .pointer (some ⟨γ3 1, 0, none⟩)), (9, .pointer (some ⟨γ141 0, 0, none⟩)), (22, .agg #[.int .i64 now, .slice p n cap]), (23, .pointer (some ⟨γ3 0, 2, none⟩))]) (fun γ141 => [bx (γ141 0) (#[.int .i64 0, .slice none 0 0, .slice none 0 0]) 27, bx (γ3 1) (#[.int .i64 0, .slice none 0 0, .slice none 0 0]) 27, bx (γ3 0) (#[.int .i64 now, .slice p n cap, .slice pa na ca]) 27, bx (γ1 2) (#[.int .i64 0, .slice none 0 0, .slice none 0 0]) 27, bx (γ1 1) (#[.int .i64 k]) 3, bx (γ1 0) (#[.int .i64 now, .slice p n cap, .slice pa na ca]) 27]) ?_ (fun hmx5 => ?_)
    ·
     rintro γ141 _
     refine a1 3 rfl ?_
     refine qo0 1 [(3, .go (owns 2 2 1))] [2, 3, 6, 9, 22] [(24, .slice pa na ca)] ?_
     refine od_ ?_
     exact wk (hmx8 γ141 trivial) [2, 3, 6, 9, 22, 24] [[_], [_], [_], [_], [_], [_]] [0, 1, 2, 3, 4, 5] rfl rfl
    refine any_cutX (V := Unit) (fun _ => True) 4 #[true, true, true, true, false, false, false, false] (fun _ => [(2, .func (.func 38) #[] #[.pointer (some ⟨γ1 1, 0, none⟩)]), (3, .pointer (some ⟨γ3 0, 0, none⟩)), (6, .pointer (some ⟨γ3 1, 0, none⟩)), (22, .agg #[.int .i64 now, .slice p n cap]), (24, .slice pa na ca)]) (fun _ => [bx (γ3 1) (#[.int .i64 0, .slice none 0 0, .slice none 0 0]) 27, bx (γ3 0) (#[.int .i64 now, .slice p n cap, .slice pa na ca]) 27, bx (γ1 2) (#[.int .i64 0, .slice none 0 0, .slice none 0 0]) 27, bx (γ1 1) (#[.int .i64 k]) 3, bx (γ1 0) (#[.int .i64 now, .slice p n cap, .slice pa na ca]) 27]) ?_ (fun hmx4 => ?_)
    ·
     rintro _ _
     refine any_fork [4, 6] (by kernel_rfl) (by simp) (each_cons _ rfl ?_ (each_cons _ rfl ?_ (each_nil)))
     ·
      refine cP (fun v L' => ∃ q_ c_ Y_, v = .slice q_ na c_ ∧ L' = List.take 5 ([bx (γ3 1) (#[.int .i64 0, .slice none 0 0, .slice none 0 0]) 27, bx (γ3 0) (#[.int .i64 now, .slice p n cap, .slice pa na ca]) 27, bx (γ1 2) (#[.int .i64 0, .slice none 0 0, .slice none 0 0]) 27, bx (γ1 1) (#[.int .i64 k]) 3, bx (γ1 0) (#[.int .i64 now, .slice p n cap, .slice pa na ca]) 27]) ++ (Y_ ++ List.drop 5 ([bx (γ3 1) (#[.int .i64 0, .slice none 0 0, .slice none 0 0]) 27, bx (γ3 0) (#[.int .i64 now, .slice p n cap, .slice pa na ca]) 27, bx (γ1 2) (#[.int .i64 0, .slice none 0 0, .slice none 0 0]) 27, bx (γ1 1) (#[.int .i64 k]) 3, bx (γ1 0) (#[.int .i64 now, .slice p n cap, .slice pa na ca]) 27])) ∧ SlO 32 Y_ q_ na c_ rs) (fun args w => Tryz.call57 args w) (fun w hw => (aclone_t pa na ca rs w (hrs.kept hw.below) hna (by omega)).mono fun e w' ⟨q_, c_, Y_, he, hO, hb, hY⟩ => ⟨_, _, he, ⟨q_, c_, Y_, rfl, rfl, hO⟩, hw.join hb hY 5⟩) ?_
      rintro v101 L101 ⟨q101, cq101, Y101, rfl, rfl, hO101⟩
      refine od_ ?_
      refine tk (m := 2) [5] [] [2, 3, 6] [(26, .agg #[.int .i64 now, .slice p n cap, .slice q101 na cq101])] ([]) #[true, true, true, true, true, true, false, false] al0 ?_
      exact wk (hmx10 (Y101, cq101, q101) hO101) [2, 3, 6, 26] [[_], [_], [_], [_], [_], _] [0, 1, 2, 3, 4, 5] rfl rfl
     ·
      refine mo0 1 [] [2, 3, 6, 22, 24] (fun γ141 => [(9, .pointer (some ⟨γ141 0, 0, none⟩))]) (fun γ141 L => bx (γ141 0) (#[.int .i64 0, .slice none 0 0, .slice none 0 0]) 27 :: L) (fun γ141 => ?_)
      refine od_ ?_
      exact wk (hmx8 γ141 trivial) [2, 3, 6, 9, 22, 24] [[_], [_], [_], [_], [_], [_]] [0, 1, 2, 3, 4, 5] rfl rfl
    refine any_cutX (V := (Nat → Nat)) (fun γ141 => True) 5 #[true, false, true, false, false, false, true, false] (fun γ141 => [(2, .func (.func 38) #[] #[.pointer (some ⟨γ1 1, 0, none⟩)]), (3, .pointer (some ⟨γ3 0, 0, none⟩)), (6, .pointer (some ⟨γ3 1, 0, none⟩)), (9, .pointer (some ⟨γ141 0, 0, none⟩)), (21, .pointer (some ⟨γ3 0, 0, none⟩)), (23, .pointer (some ⟨γ3 0, 2, none⟩))]) (fun γ141 => [bx (γ141 0) (#[.int .i64 0, .slice none 0 0, .slice none 0 0]) 27, bx (γ3 1) (#[.int .i64 0, .slice none 0 0, .slice none 0 0]) 27, bx (γ3 0) (#[.int .i64 now, .slice p n cap, .slice pa na ca]) 27, bx (γ1 2) (#[.int .i64 0, .slice none 0 0, .slice none 0 0]) 27, bx (γ1 1) (#[.int .i64 k]) 3, bx (γ1 0) (#[.int .i64 now, .slice p n cap, .slice pa na ca]) 27]) ?_ (fun hmx3 => ?_)
    ·
     rintro γ141 _
     refine any_fork [1, 3] (by kernel_rfl) (by simp) (each_cons _ rfl ?_ (each_cons _ rfl ?_ (each_nil)))
     ·
      refine qo0 1 [(1, .go (owns 2 0 2))] [2, 3, 6, 9, 23] [(22, .agg #[.int .i64 now, .slice p n cap])] ?_
      refine od_ ?_
      exact wk (hmx5 γ141 trivial) [2, 3, 6, 9, 22, 23] [[_], [_], [_], [_], [_], [_]] [0, 1, 2, 3, 4, 5] rfl rfl
     ·
      refine qo0 1 [(3, .go (owns 2 2 1))] [2, 3, 6, 9, 21] [(24, .slice pa na ca)] ?_
      refine od_ ?_
      exact wk (hmx7 γ141 trivial) [2, 3, 6, 9, 21, 24] [[_], [_], [_], [_], [_], [_]] [0, 1, 2, 3, 4, 5] rfl rfl
    refine any_cutX (V := Unit) (fun _ => True) 5 #[true, false, true, true, false, false, false, false] (fun _ => [(2, .func (.func 38) #[] #[.pointer (some ⟨γ1 1, 0, none⟩)]), (3, .pointer (some ⟨γ3 0, 0, none⟩)), (6, .pointer (some ⟨γ3 1, 0, none⟩)), (21, .pointer (some ⟨γ3 0, 0, none⟩)), (24, .slice pa na ca)]) (fun _ => [bx (γ3 1) (#[.int .i64 0, .slice none 0 0, .slice none 0 0]) 27, bx (γ3 0) (#[.int .i64 now, .slice p n cap, .slice pa na ca]) 27, bx (γ1 2) (#[.int .i64 0, .slice none 0 0, .slice none 0 0]) 27, bx (γ1 1) (#[.int .i64 k]) 3, bx (γ1 0) (#[.int .i64 now, .slice p n cap, .slice pa na ca]) 27]) ?_ (fun hmx2 => ?_)
    ·
     rintro _ _
     refine any_fork [1, 4, 6] (by kernel_rfl) (by simp) (each_cons _ rfl ?_ (each_cons _ rfl ?_ (each_cons _ rfl ?_ (each_nil))))
     ·
      refine qo0 1 [(1, .go (owns 1 0 2))] [2, 3, 6, 24] [(22, .agg #[.int .i64 now, .slice p n cap])] ?_
      refine od_ ?_
      exact wk (hmx4 () trivial) [2, 3, 6, 22, 24] [[_], [_], [_], [_], [_]] [0, 1, 2, 3, 4] rfl rfl
     ·
      refine cP (fun v L' => ∃ q_ c_ Y_, v = .slice q_ na c_ ∧ L' = List.take 5 ([bx (γ3 1) (#[.int .i64 0, .slice none 0 0, .slice none 0 0]) 27, bx (γ3 0) (#[.int .i64 now, .slice p n cap, .slice pa na ca]) 27, bx (γ1 2) (#[.int .i64 0, .slice none 0 0, .slice none 0 0]) 27, bx (γ1 1) (#[.int .i64 k]) 3, bx (γ1 0) (#[.int .i64 now, .slice p n cap, .slice pa na ca]) 27]) ++ (Y_ ++ List.drop 5 ([bx (γ3 1) (#[.int .i64 0, .slice none 0 0, .slice none 0 0]) 27, bx (γ3 0) (#[.int .i64 now, .slice p n cap, .slice pa na ca]) 27, bx (γ1 2) (#[.int .i64 0, .slice none 0 0, .slice none 0 0]) 27, bx (γ1 1) (#[.int .i64 k]) 3, bx (γ1 0) (#[.int .i64 now, .slice p n cap, .slice pa na ca]) 27])) ∧ SlO 32 Y_ q_ na c_ rs) (fun args w => Tryz.call57 args w) (fun w hw => (aclone_t pa na ca rs w (hrs.kept hw.below) hna (by omega)).mono fun e w' ⟨q_, c_, Y_, he, hO, hb, hY⟩ => ⟨_, _, he, ⟨q_, c_, Y_, rfl, rfl, hO⟩, hw.join hb hY 5⟩) ?_
      rintro v101 L101 ⟨q101, cq101, Y101, rfl, rfl, hO101⟩
      refine od_ ?_
      exact wk (hmx6 (Y101, cq101, q101) hO101) [2, 3, 6, 21, 25] [[_], [_], [_], [_], [_], _] [0, 1, 2, 3, 4, 5] rfl rfl
     ·
      refine mo0 1 [] [2, 3, 6, 21, 24] (fun γ141 => [(9, .pointer (some ⟨γ141 0, 0, none⟩))]) (fun γ141 L => bx (γ141 0) (#[.int .i64 0, .slice none 0 0, .slice none 0 0]) 27 :: L) (fun γ141 => ?_)
      refine od_ ?_
      exact wk (hmx7 γ141 trivial) [2, 3, 6, 9, 21, 24] [[_], [_], [_], [_], [_], [_]] [0, 1, 2, 3, 4, 5] rfl rfl
    refine any_cutX (V := Unit) (fun _ => True) 5 #[true, true, true, false, false, false, false, false] (fun _ => [(2, .func (.func 38) #[] #[.pointer (some ⟨γ1 1, 0, none⟩)]), (3, .pointer (some ⟨γ3 0, 0, none⟩)), (6, .pointer (some ⟨γ3 1, 0, none⟩)), (22, .agg #[.int .i64 now, .slice p n cap]), (23, .pointer (some ⟨γ3 0, 2, none⟩))]) (fun _ => [bx (γ3 1) (#[.int .i64 0, .slice none 0 0, .slice none 0 0]) 27, bx (γ3 0) (#[.int .i64 now, .slice p n cap, .slice pa na ca]) 27, bx (γ1 2) (#[.int .i64 0, .slice none 0 0, .slice none 0 0]) 27, bx (γ1 1) (#[.int .i64 k]) 3, bx (γ1 0) (#[.int .i64 now, .slice p n cap, .slice pa na ca]) 27]) ?_ (fun hmx1 => ?_)
    ·
     rintro _ _
     refine any_fork [3, 6] (by kernel_rfl) (by simp) (each_cons _ rfl ?_ (each_cons _ rfl ?_ (each_nil)))
     ·
      refine qo0 1 [(3, .go (owns 1 2 1))] [2, 3, 6, 22] [(24, .slice pa na ca)] ?_
      refine od_ ?_
      exact wk (hmx4 () trivial) [2, 3, 6, 22, 24] [[_], [_], [_], [_], [_]] [0, 1, 2, 3, 4] rfl rfl
     ·
      refine mo0 1 [] [2, 3, 6, 22, 23] (fun γ141 => [(9, .pointer (some ⟨γ141 0, 0, none⟩))]) (fun γ141 L => bx (γ141 0) (#[.int .i64 0, .slice none 0 0, .slice none 0 0]) 27 :: L) (fun γ141 => ?_)
      refine od_ ?_
      exact wk (hmx5 γ141 trivial) [2, 3, 6, 9, 22, 23] [[_], [_], [_], [_], [_], [_]] [0, 1, 2, 3, 4, 5] rfl rfl
    refine any_fork [1, 3, 6] (by kernel_rfl) (by simp) (each_cons _ rfl ?_ (each_cons _ rfl ?_ (each_cons _ rfl ?_ (each_nil))))
    ·
     refine qo0 1 [(1, .go (owns 1 0 2))] [2, 3, 6, 23] [(22, .agg #[.int .i64 now, .slice p n cap])] ?_
     refine od_ ?_
     exact wk (hmx1 () trivial) [2, 3, 6, 22, 23] [[_], [_], [_], [_], [_]] [0, 1, 2, 3, 4] rfl rfl
    ·
     refine qo0 1 [(3, .go (owns 1 2 1))] [2, 3, 6, 21] [(24, .slice pa na ca)] ?_
     refine od_ ?_
     exact wk (hmx2 () trivial) [2, 3, 6, 21, 24] [[_], [_], [_], [_], [_]] [0, 1, 2, 3, 4] rfl rfl
    ·
     refine mo0 1 [] [2, 3, 6, 21, 23] (fun γ141 => [(9, .pointer (some ⟨γ141 0, 0, none⟩))]) (fun γ141 L => bx (γ141 0) (#[.int .i64 0, .slice none 0 0, .slice none 0 0]) 27 :: L) (fun γ141 => ?_)
     refine od_ ?_
     exact wk (hmx3 γ141 trivial) [2, 3, 6, 9, 21, 23] [[_], [_], [_], [_], [_], [_]] [0, 1, 2, 3, 4, 5] rfl rfl
   rintro ⟨Y101, cq101, q101, γ141⟩ hO101
   refine any_nil (by kernel_rfl) ?_
   refine ds_ (sq_ (ao_ (qo0 3 [(2, .go (owns 2 1 1))] [2, 6, 9] [(29, .slice p n cap)] (cP (fun v L' => ∃ q_ c_ Y_, v = .slice q_ n c_ ∧ L' = List.take 6 (bx (γ141 0) (#[.int .i64 now, .slice p n cap, .slice q101 na cq101]) 27 :: bx (γ3 1) (#[.int .i64 0, .slice none 0 0, .slice none 0 0]) 27 :: bx (γ3 0) (#[.int .i64 now, .slice p n cap, .slice pa na ca]) 27 :: bx (γ1 2) (#[.int .i64 0, .slice none 0 0, .slice none 0 0]) 27 :: bx (γ1 1) (#[.int .i64 k]) 3 :: bx (γ1 0) (#[.int .i64 now, .slice p n cap, .slice pa na ca]) 27 :: (Y101 ++ [])) ++ (Y_ ++ List.drop 6 (bx (γ141 0) (#[.int .i64 now, .slice p n cap, .slice q101 na cq101]) 27 :: bx (γ3 1) (#[.int .i64 0, .slice none 0 0, .slice none 0 0]) 27 :: bx (γ3 0) (#[.int .i64 now, .slice p n cap, .slice pa na ca]) 27 :: bx (γ1 2) (#[.int .i64 0, .slice none 0 0, .slice none 0 0]) 27 :: bx (γ1 1) (#[.int .i64 k]) 3 :: bx (γ1 0) (#[.int .i64 now, .slice p n cap, .slice pa na ca]) 27 :: (Y101 ++ []))) ∧ SlO 42 Y_ q_ n c_ ts) (fun args w => Tryz.call58 args w) (fun w hw => (clone_t p n cap ts w (hts.kept hw.below) hn (by omega)).mono fun e w' ⟨q_, c_, Y_, he, hO, hb, hY⟩ => ⟨_, _, he, ⟨q_, c_, Y_, rfl, rfl, hO⟩, hw.join hb hY 6⟩) ?_))))
   rintro v227 L227 ⟨q227, cq227, Y227, rfl, rfl, hO227⟩
   refine mo0 3 [(6, .go (owns 0 1 1))] [2, 6, 9] (fun _ => []) (fun _ L => (L.set 0 (bx (γ141 0) (#[.int .i64 now, .slice q227 n cq227, .slice q101 na cq101]) 27))) (fun _ => on_ (ds_ (sq_ (sq_ ?_))))
   have hvk := of_decide_eq_true q13
   refine ao_ (qo0 1 [] [6, 9] [(33, .func (.func 38) #[] #[.pointer (some ⟨γ1 1, 0, none⟩)])] (ops_inline (g := 38) (args := #[.pointer (some ⟨γ141 0, 0, none⟩), .pointer (some ⟨γ1 1, 0, none⟩)]) (by kernel_rfl) (by kernel_rfl) (by kernel_rfl) (fun args w => Tryz.call38 args w) Tryz.func38 rfl Tryz.ntmps38 rfl (sq_ (qa0 [] [0, 1] [] (ds_ (sq_ (ao_ (qo0 2 [(1, .go (owns 4 0 1))] [0, 1] [(4, .pointer (some ⟨γ141 0, 0, none⟩)), (5, .int .i64 k)] (Ops.pick [[bx (γ141 0) (#[.int .i64 now, .slice q227 n cq227, .slice q101 na cq101]) 27], [bx (γ3 1) (#[.int .i64 0, .slice none 0 0, .slice none 0 0]) 27], [bx (γ3 0) (#[.int .i64 now, .slice p n cap, .slice pa na ca]) 27], [bx (γ1 2) (#[.int .i64 0, .slice none 0 0, .slice none 0 0]) 27], [bx (γ1 1) (#[.int .i64 k]) 3], [bx (γ1 0) (#[.int .i64 now, .slice p n cap, .slice pa na ca]) 27], Y227, Y101] [0, 1, 2, 3, 4, 5, 7, 6] [] (bx (γ141 0) (#[.int .i64 now, .slice q227 n cq227, .slice q101 na cq101]) 27 :: bx (γ3 1) (#[.int .i64 0, .slice none 0 0, .slice none 0 0]) 27 :: bx (γ3 0) (#[.int .i64 now, .slice p n cap, .slice pa na ca]) 27 :: bx (γ1 2) (#[.int .i64 0, .slice none 0 0, .slice none 0 0]) 27 :: bx (γ1 1) (#[.int .i64 k]) 3 :: bx (γ1 0) (#[.int .i64 now, .slice p n cap, .slice pa na ca]) 27 :: (Y101 ++ (Y227 ++ []))) (by kernel_rfl) rfl rfl (cP (fun v L' => ∃ q_ m_ c_ Y_, v = (.tuple #[]) ∧ L' = (bx (γ141 0) #[.int .i64 now, .slice q227 n cq227, .slice q_ m_ c_] 27 :: [bx (γ3 1) (#[.int .i64 0, .slice none 0 0, .slice none 0 0]) 27, bx (γ3 0) (#[.int .i64 now, .slice p n cap, .slice pa na ca]) 27, bx (γ1 2) (#[.int .i64 0, .slice none 0 0, .slice none 0 0]) 27, bx (γ1 1) (#[.int .i64 k]) 3, bx (γ1 0) (#[.int .i64 now, .slice p n cap, .slice pa na ca]) 27]) ++ (Y_ ++ ((Y227 ++ []))) ∧ SlO 32 Y_ q_ m_ c_ (rdrop rs k)) (fun args w => Tryz.call39 args w) (fun w hw => (adrop_t _ ([bx (γ3 1) (#[.int .i64 0, .slice none 0 0, .slice none 0 0]) 27, bx (γ3 0) (#[.int .i64 now, .slice p n cap, .slice pa na ca]) 27, bx (γ1 2) (#[.int .i64 0, .slice none 0 0, .slice none 0 0]) 27, bx (γ1 1) (#[.int .i64 k]) 3, bx (γ1 0) (#[.int .i64 now, .slice p n cap, .slice pa na ca]) 27] ++ ((Y227 ++ []))) Y101 (γ141 0) now q101 na cq101 q227 n cq227 rs k w (hw.pull (A := [bx (γ3 1) (#[.int .i64 0, .slice none 0 0, .slice none 0 0]) 27, bx (γ3 0) (#[.int .i64 now, .slice p n cap, .slice pa na ca]) 27, bx (γ1 2) (#[.int .i64 0, .slice none 0 0, .slice none 0 0]) 27, bx (γ1 1) (#[.int .i64 k]) 3, bx (γ1 0) (#[.int .i64 now, .slice p n cap, .slice pa na ca]) 27]) (Y := Y101) (R := ((Y227 ++ [])))) hO101 (by omega) ).mono fun e w' ⟨q_, m_, c_, Y_, he, hO, hY⟩ => ⟨_, _, he, ⟨q_, m_, c_, Y_, rfl, rfl, hO⟩, hY.push (A := _ :: [bx (γ3 1) (#[.int .i64 0, .slice none 0 0, .slice none 0 0]) 27, bx (γ3 0) (#[.int .i64 now, .slice p n cap, .slice pa na ca]) 27, bx (γ1 2) (#[.int .i64 0, .slice none 0 0, .slice none 0 0]) 27, bx (γ1 1) (#[.int .i64 k]) 3, bx (γ1 0) (#[.int .i64 now, .slice p n cap, .slice pa na ca]) 27])⟩) ?_))))))))))
   rintro v232 L232 ⟨q232, m232, cq232, Y232, rfl, rfl, hO232⟩
   have hm232 := hO232.len
   refine on_ (ds_ (sq_ (ao_ (qo0 2 [(1, .go (owns 4 0 1))] [] [(7, .pointer (some ⟨γ141 0, 0, none⟩)), (8, .int .i64 k)] (cD (.int .i64 (k - 1)) (fun args w => Tryz.call29 args w) (fun w hw => alarmed_t k w (by omega) (by omega)) ?_)))))
   rcases hg236 : getK Tim.id ts (k - 1) with _ | y236
   ·
    refine Ops.pick [[bx (γ141 0) (#[.int .i64 now, .slice q227 n cq227, .slice q232 m232 cq232]) 27], [bx (γ3 1) (#[.int .i64 0, .slice none 0 0, .slice none 0 0]) 27], [bx (γ3 0) (#[.int .i64 now, .slice p n cap, .slice pa na ca]) 27], [bx (γ1 2) (#[.int .i64 0, .slice none 0 0, .slice none 0 0]) 27], [bx (γ1 1) (#[.int .i64 k]) 3], [bx (γ1 0) (#[.int .i64 now, .slice p n cap, .slice pa na ca]) 27], Y232, Y227] [0, 1, 2, 3, 4, 5, 7, 6] [] (bx (γ141 0) (#[.int .i64 now, .slice q227 n cq227, .slice q232 m232 cq232]) 27 :: bx (γ3 1) (#[.int .i64 0, .slice none 0 0, .slice none 0 0]) 27 :: bx (γ3 0) (#[.int .i64 now, .slice p n cap, .slice pa na ca]) 27 :: bx (γ1 2) (#[.int .i64 0, .slice none 0 0, .slice none 0 0]) 27 :: bx (γ1 1) (#[.int .i64 k]) 3 :: bx (γ1 0) (#[.int .i64 now, .slice p n cap, .slice pa na ca]) 27 :: (Y227 ++ (Y232 ++ []))) (by kernel_rfl) rfl rfl (cP (fun v L' => v = .int .i64 4 ∧ L' = (bx (γ141 0) (#[.int .i64 now, .slice q227 n cq227, .slice q232 m232 cq232]) 27 :: [bx (γ3 1) (#[.int .i64 0, .slice none 0 0, .slice none 0 0]) 27, bx (γ3 0) (#[.int .i64 now, .slice p n cap, .slice pa na ca]) 27, bx (γ1 2) (#[.int .i64 0, .slice none 0 0, .slice none 0 0]) 27, bx (γ1 1) (#[.int .i64 k]) 3, bx (γ1 0) (#[.int .i64 now, .slice p n cap, .slice pa na ca]) 27]) ++ (Y227 ++ ((Y232 ++ [])))) (fun args w => Tryz.call40 args w) (fun w hw => (acancel_no _ ([bx (γ3 1) (#[.int .i64 0, .slice none 0 0, .slice none 0 0]) 27, bx (γ3 0) (#[.int .i64 now, .slice p n cap, .slice pa na ca]) 27, bx (γ1 2) (#[.int .i64 0, .slice none 0 0, .slice none 0 0]) 27, bx (γ1 1) (#[.int .i64 k]) 3, bx (γ1 0) (#[.int .i64 now, .slice p n cap, .slice pa na ca]) 27] ++ ((Y232 ++ []))) Y227 (γ141 0) now q227 n cq227 q232 m232 cq232 ts (k - 1) w (hw.pull (A := [bx (γ3 1) (#[.int .i64 0, .slice none 0 0, .slice none 0 0]) 27, bx (γ3 0) (#[.int .i64 now, .slice p n cap, .slice pa na ca]) 27, bx (γ1 2) (#[.int .i64 0, .slice none 0 0, .slice none 0 0]) 27, bx (γ1 1) (#[.int .i64 k]) 3, bx (γ1 0) (#[.int .i64 now, .slice p n cap, .slice pa na ca]) 27]) (Y := Y227) (R := ((Y232 ++ [])))) hO227 (by omega) (al_iff.1 q5).wh hg236).mono fun e w' ⟨he, hY⟩ => ⟨_, _, he, ⟨rfl, rfl⟩, hY.push (A := _ :: [bx (γ3 1) (#[.int .i64 0, .slice none 0 0, .slice none 0 0]) 27, bx (γ3 0) (#[.int .i64 now, .slice p n cap, .slice pa na ca]) 27, bx (γ1 2) (#[.int .i64 0, .slice none 0 0, .slice none 0 0]) 27, bx (γ1 1) (#[.int .i64 k]) 3, bx (γ1 0) (#[.int .i64 now, .slice p n cap, .slice pa na ca]) 27])⟩) ?_)
    rintro v237 L237 ⟨rfl, rfl⟩
    refine qo0 1 [] [] [(3, .int .i64 4)] (on_ (ds_ (bk ([]) (.int .i64 4) (qo0 1 [] [6, 9] [(10, .int .i64 4)] (on_ (ds_ (sq_ (qa0 [] [6, 9, 10] [(36, .bool true)] (ds_ (t_ (sq_ (qa0 [(2, .go (owns 1 0 3))] [6] [(7, .int .i64 4)] (ds_ (bk (owns 1 0 3) (.tuple #[.agg #[.int .i64 0, .slice none 0 0, .slice none 0 0], .int .i64 4]) (qo0 4 [(6, .go (owns 3 0 3))] [4] [(5, .int .i64 4)] (on_ (ds_ (rt (owns 3 0 3) (.tuple #[.agg #[.int .i64 0, .slice none 0 0, .slice none 0 0], .int .i64 4]) ?_))))))))))))))))))
    exact fun w' hw => by rw [stopV_none q5 q13 hg236]; exact ⟨none, 0, 0, [], none, 0, 0, [], rfl, SlO.nil, SlO.nil, hw.below, hw.sub (List.nil_sublist _)⟩
   ·
    refine Ops.pick [[bx (γ141 0) (#[.int .i64 now, .slice q227 n cq227, .slice q232 m232 cq232]) 27], [bx (γ3 1) (#[.int .i64 0, .slice none 0 0, .slice none 0 0]) 27], [bx (γ3 0) (#[.int .i64 now, .slice p n cap, .slice pa na ca]) 27], [bx (γ1 2) (#[.int .i64 0, .slice none 0 0, .slice none 0 0]) 27], [bx (γ1 1) (#[.int .i64 k]) 3], [bx (γ1 0) (#[.int .i64 now, .slice p n cap, .slice pa na ca]) 27], Y232, Y227] [0, 1, 2, 3, 4, 5, 7, 6] [] (bx (γ141 0) (#[.int .i64 now, .slice q227 n cq227, .slice q232 m232 cq232]) 27 :: bx (γ3 1) (#[.int .i64 0, .slice none 0 0, .slice none 0 0]) 27 :: bx (γ3 0) (#[.int .i64 now, .slice p n cap, .slice pa na ca]) 27 :: bx (γ1 2) (#[.int .i64 0, .slice none 0 0, .slice none 0 0]) 27 :: bx (γ1 1) (#[.int .i64 k]) 3 :: bx (γ1 0) (#[.int .i64 now, .slice p n cap, .slice pa na ca]) 27 :: (Y227 ++ (Y232 ++ []))) (by kernel_rfl) rfl rfl (cP (fun v L' => ∃ q_ m_ c_ Y_, v = (.int .i64 0) ∧ L' = (bx (γ141 0) #[.int .i64 now, .slice q_ m_ c_, .slice q232 m232 cq232] 27 :: [bx (γ3 1) (#[.int .i64 0, .slice none 0 0, .slice none 0 0]) 27, bx (γ3 0) (#[.int .i64 now, .slice p n cap, .slice pa na ca]) 27, bx (γ1 2) (#[.int .i64 0, .slice none 0 0, .slice none 0 0]) 27, bx (γ1 1) (#[.int .i64 k]) 3, bx (γ1 0) (#[.int .i64 now, .slice p n cap, .slice pa na ca]) 27]) ++ (Y_ ++ ((Y232 ++ []))) ∧ SlO 42 Y_ q_ m_ c_ (delK Tim.id ts (k - 1))) (fun args w => Tryz.call40 args w) (fun w hw => (acancel_t _ ([bx (γ3 1) (#[.int .i64 0, .slice none 0 0, .slice none 0 0]) 27, bx (γ3 0) (#[.int .i64 now, .slice p n cap, .slice pa na ca]) 27, bx (γ1 2) (#[.int .i64 0, .slice none 0 0, .slice none 0 0]) 27, bx (γ1 1) (#[.int .i64 k]) 3, bx (γ1 0) (#[.int .i64 now, .slice p n cap, .slice pa na ca]) 27] ++ ((Y232 ++ []))) Y227 (γ141 0) now q227 n cq227 q232 m232 cq232 ts (k - 1) w (hw.pull (A := [bx (γ3 1) (#[.int .i64 0, .slice none 0 0, .slice none 0 0]) 27, bx (γ3 0) (#[.int .i64 now, .slice p n cap, .slice pa na ca]) 27, bx (γ1 2) (#[.int .i64 0, .slice none 0 0, .slice none 0 0]) 27, bx (γ1 1) (#[.int .i64 k]) 3, bx (γ1 0) (#[.int .i64 now, .slice p n cap, .slice pa na ca]) 27]) (Y := Y227) (R := ((Y232 ++ [])))) hO227 (by omega) (al_iff.1 q5).wh hg236).mono fun e w' ⟨q_, m_, c_, Y_, he, hO, hY⟩ => ⟨_, _, he, ⟨q_, m_, c_, Y_, rfl, rfl, hO⟩, hY.push (A := _ :: [bx (γ3 1) (#[.int .i64 0, .slice none 0 0, .slice none 0 0]) 27, bx (γ3 0) (#[.int .i64 now, .slice p n cap, .slice pa na ca]) 27, bx (γ1 2) (#[.int .i64 0, .slice none 0 0, .slice none 0 0]) 27, bx (γ1 1) (#[.int .i64 k]) 3, bx (γ1 0) (#[.int .i64 now, .slice p n cap, .slice pa na ca]) 27])⟩) ?_)
    rintro v243 L243 ⟨q243, m243, cq243, Y243, rfl, rfl, hO243⟩
    have hm243 := hO243.len
    refine qo0 1 [] [] [(3, .int .i64 0)] (on_ (ds_ (bk ([]) (.int .i64 0) (qo0 1 [] [6, 9] [(10, .int .i64 0)] (on_ (ds_ (sq_ (qa0 [] [6, 9, 10] [(36, .bool false)] (ds_ (f_ (at_skip (ds_ (sq_ (ma0 [(0, .go (owns 0 0 3)), (1, .go (owns 1 0 3))] [6] (fun _ => [(7, .int .i64 0)]) (fun _ L => (L.set 1 (bx (γ3 1) (#[.int .i64 now, .slice q243 m243 cq243, .slice q232 m232 cq232]) 27))) (fun _ => ds_ (bk (owns 1 0 3) (.tuple #[.agg #[.int .i64 now, .slice q243 m243 cq243, .slice q232 m232 cq232], .int .i64 0]) (mo0 4 [(6, .go (owns 3 0 3))] [4] (fun _ => [(5, .int .i64 0)]) (fun _ L => (L.set 3 (bx (γ1 2) (#[.int .i64 now, .slice q243 m243 cq243, .slice q232 m232 cq232]) 27))) (fun _ => on_ (ds_ (rt (owns 3 0 3) (.tuple #[.agg #[.int .i64 now, .slice q243 m243 cq243, .slice q232 m232 cq232], .int .i64 0]) ?_))))))))))))))))))))
    exact fun w' hw => by rw [stopV_ok q5 q13 hg236]; exact ⟨_, _, _, _, _, _, _, _, rfl, hO243, hO232, hw.below, two_tails (Hs.pick [[bx (γ141 0) (#[.int .i64 now, .slice q243 m243 cq243, .slice q232 m232 cq232]) 27], [bx (γ3 1) (#[.int .i64 now, .slice q243 m243 cq243, .slice q232 m232 cq232]) 27], [bx (γ3 0) (#[.int .i64 now, .slice p n cap, .slice pa na ca]) 27], [bx (γ1 2) (#[.int .i64 now, .slice q243 m243 cq243, .slice q232 m232 cq232]) 27], [bx (γ1 1) (#[.int .i64 k]) 3], [bx (γ1 0) (#[.int .i64 now, .slice p n cap, .slice pa na ca]) 27], Y243, Y232] [6, 7] [0, 1, 2, 3, 4, 5] (by kernel_rfl) hw)⟩

set_option maxRecDepth 100000 in
theorem wake_t (now : Int) (p : Option Addr) (n cap : Nat) (ts : List Tim) (pa : Option Addr) (na ca : Nat) (rs : List Alm) (k : Int) (w : World)
 (hts : Sv w p ts) (hn : n = ts.length) (hb : n ≤ 1000)
 (hrs : Sv w pa rs) (hna : na = rs.length) (hba : na ≤ 1000)
 : Calls Tryz.prog 17 #[.agg #[.int .i64 now, .slice p n cap, .slice pa na ca], .int .i64 k] w fun e w' => ∃ q m c Y q2 m2 c2 X, e = .returned (.tuple #[.agg #[.int .i64 (wakeV now ts rs k).1, .slice q m c, .slice q2 m2 c2], .int .i64 (wakeV now ts rs k).2.2.2]) ∧ SlO 42 Y q m c (wakeV now ts rs k).2.1 ∧ SlO 32 X q2 m2 c2 (wakeV now ts rs k).2.2.1 ∧ Below w.heap.size w w' ∧ Hs w (Y ++ X) w' := by
 refine enter (Hs.start w) Tryz.func17 rfl Tryz.ntmps17 rfl (sq_ (ma0 [] [] (fun γ1 => [(2, .pointer (some ⟨γ1 0, 0, none⟩)), (3, .pointer (some ⟨γ1 1, 0, none⟩)), (4, .pointer (some ⟨γ1 2, 0, none⟩))]) (fun γ1 L => bx (γ1 2) (#[.int .i64 0, .slice none 0 0, .slice none 0 0]) 27 :: bx (γ1 1) (#[.int .i64 k]) 3 :: bx (γ1 0) (#[.int .i64 now, .slice p n cap, .slice pa na ca]) 27 :: L) (fun γ1 => ds_ (sq_ (ao_ (qo0 3 [(0, .go (owns 2 0 3)), (1, .go (owns 1 0 1))] [4] [(6, .agg #[.int .i64 now, .slice p n cap, .slice pa na ca]), (7, .int .i64 k), (8, .func (.func 43) #[] #[.pointer (some ⟨γ1 1, 0, none⟩)])] (ops_inline (g := 25) (args := #[.agg #[.int .i64 now, .slice p n cap, .slice pa na ca], .int .i64 k, .func (.func 43) #[] #[.pointer (some ⟨γ1 1, 0, none⟩)]]) (by kernel_rfl) (by kernel_rfl) (by kernel_rfl) (fun args w => Tryz.call25 args w) Tryz.func25 rfl Tryz.ntmps25 rfl (sq_ (ma0 [] [1, 2] (fun γ3 => [(3, .pointer (some ⟨γ3 0, 0, none⟩)), (6, .pointer (some ⟨γ3 1, 0, none⟩))]) (fun γ3 L => bx (γ3 1) (#[.int .i64 0, .slice none 0 0, .slice none 0 0]) 27 :: bx (γ3 0) (#[.int .i64 now, .slice p n cap, .slice pa na ca]) 27 :: L) (fun γ3 => ds_ (sq_ (sq_ (ao_ (qo0 1 [(0, .go (owns 1 0 3))] [1, 2, 3, 6] [(11, .agg #[.int .i64 now, .slice p n cap, .slice pa na ca])] ?_))))))))))))))
 rcases q5 : alB now ts rs with _ | _
 ·
  refine cD (.int .i64 280) (fun args w => Tryz.call36 args w) (fun w hw => by have := acheck_t now p n cap ts pa na ca rs w (hts.kept hw.below) hn (by omega) (hrs.kept hw.below) hna (by omega); rw [q5] at this; exact this) (qo0 1 [] [1, 2, 3, 6] [(8, .int .i64 280)] (on_ (ds_ (sq_ (qa0 [] [1, 2, 3, 6, 8] [(14, .bool true)] (ds_ (t_ (sq_ (qa0 [(2, .go (owns 0 0 3))] [6] [(7, .int .i64 280)] (ds_ (bk (owns 0 0 3) (.tuple #[.agg #[.int .i64 0, .slice none 0 0, .slice none 0 0], .int .i64 280]) (qo0 4 [(6, .go (owns 2 0 3))] [4] [(5, .int .i64 280)] (on_ (ds_ (rt (owns 2 0 3) (.tuple #[.agg #[.int .i64 0, .slice none 0 0, .slice none 0 0], .int .i64 280]) ?_)))))))))))))))
  exact fun w' hw => by rw [wakeV_bad q5]; exact ⟨none, 0, 0, [], none, 0, 0, [], rfl, SlO.nil, SlO.nil, hw.below, hw.sub (List.nil_sublist _)⟩
 ·
  refine cD (.int .i64 0) (fun args w => Tryz.call36 args w) (fun w hw => by have := acheck_t now p n cap ts pa na ca rs w (hts.kept hw.below) hn (by omega) (hrs.kept hw.below) hna (by omega); rw [q5] at this; exact this) (qo0 1 [] [1, 2, 3, 6] [(8, .int .i64 0)] (on_ (ds_ (sq_ (qa0 [] [1, 2, 3, 6, 8] [(14, .bool false)] (ds_ (f_ (at_skip (ds_ (sq_ (sq_ (ao_ (qo0 1 [] [2, 3, 6] [(17, .int .i64 k)] ?_)))))))))))))
  rcases q13 : vcB k with _ | _
  ·
   refine cD (.bool false) (fun args w => Tryz.call56 args w) (fun w hw => by have := vc_t k w; rw [q13] at this; exact this) (qo0 1 [] [2, 3, 6] [(19, .bool true)] (on_ (ds_ (t_ (sq_ (qa0 [(1, .go (owns 0 0 3))] [6] [(7, .int .i64 2)] (ds_ (bk (owns 0 0 3) (.tuple #[.agg #[.int .i64 0, .slice none 0 0, .slice none 0 0], .int .i64 2]) (qo0 4 [(6, .go (owns 2 0 3))] [4] [(5, .int .i64 2)] (on_ (ds_ (rt (owns 2 0 3) (.tuple #[.agg #[.int .i64 0, .slice none 0 0, .slice none 0 0], .int .i64 2]) ?_))))))))))))
   exact fun w' hw => by rw [wakeV_arg q5 q13]; exact ⟨none, 0, 0, [], none, 0, 0, [], rfl, SlO.nil, SlO.nil, hw.below, hw.sub (List.nil_sublist _)⟩
  ·
   refine cD (.bool true) (fun args w => Tryz.call56 args w) (fun w hw => by have := vc_t k w; rw [q13] at this; exact this) (qo0 1 [] [2, 3, 6] [(19, .bool false)] (on_ (ds_ (f_ (at_skip (ds_ (sq_ ?_)))))))
   have hlr := (al_iff.1 q5).rl
   have hlt := (wheel_iff.1 (al_iff.1 q5).wh).len
   refine at_any (by kernel_rfl) ?_
   refine tk (m := 6) [0, 2] [] [2, 3, 6] [(21, .pointer (some ⟨γ3 0, 0, none⟩)), (23, .pointer (some ⟨γ3 0, 2, none⟩))] ([]) #[true, false, true, false, false, false, false, false] al0 ?_
   refine any_cutX (V := (List Ob) × (Nat) × (Option Addr) × (Nat → Nat)) (fun ⟨Y101, cq101, q101, γ141⟩ => SlO 32 Y101 q101 na cq101 rs) 0 #[true, true, true, true, true, true, true, true] (fun ⟨Y101, cq101, q101, γ141⟩ => [(2, .func (.func 43) #[] #[.pointer (some ⟨γ1 1, 0, none⟩)]), (3, .pointer (some ⟨γ3 0, 0, none⟩)), (6, .pointer (some ⟨γ3 1, 0, none⟩)), (9, .pointer (some ⟨γ141 0, 0, none⟩))]) (fun ⟨Y101, cq101, q101, γ141⟩ => bx (γ141 0) (#[.int .i64 now, .slice p n cap, .slice q101 na cq101]) 27 :: bx (γ3 1) (#[.int .i64 0, .slice none 0 0, .slice none 0 0]) 27 :: bx (γ3 0) (#[.int .i64 now, .slice p n cap, .slice pa na ca]) 27 :: bx (γ1 2) (#[.int .i64 0, .slice none 0 0, .slice none 0 0]) 27 :: bx (γ1 1) (#[.int .i64 k]) 3 :: bx (γ1 0) (#[.int .i64 now, .slice p n cap, .slice pa na ca]) 27 :: (Y101 ++ [])) ?_ (fun hmx12 => ?_)
   rotate_left
   ·
    refine any_cutX (V := (List Ob) × (Nat) × (Option Addr) × (Nat → Nat)) (fun ⟨Y101, cq101, q101, γ141⟩ => SlO 32 Y101 q101 na cq101 rs) 1 #[true, true, true, true, true, true, true, false] (fun ⟨Y101, cq101, q101, γ141⟩ => [(2, .func (.func 43) #[] #[.pointer (some ⟨γ1 1, 0, none⟩)]), (3, .pointer (some ⟨γ3 0, 0, none⟩)), (6, .pointer (some ⟨γ3 1, 0, none⟩)), (9, .pointer (some ⟨γ141 0, 0, none⟩)), (26, .agg #[.int .i64 now, .slice p n cap, .slice q101 na cq101])]) (fun ⟨Y101, cq101, q101, γ141⟩ => bx (γ141 0) (#[.int .i64 0, .slice none 0 0, .slice none 0 0]) 27 :: bx (γ3 1) (#[.int .i64 0, .slice none 0 0, .slice none 0 0]) 27 :: bx (γ3 0) (#[.int .i64 now, .slice p n cap, .slice pa na ca]) 27 :: bx (γ1 2) (#[.int .i64 0, .slice none 0 0, .slice none 0 0]) 27 :: bx (γ1 1) (#[.int .i64 k]) 3 :: bx (γ1 0) (#[.int .i64 now, .slice p n cap, .slice pa na ca]) 27 :: (Y101 ++ [])) ?_ (fun hmx11 => ?_)
    ·
     rintro ⟨Y101, cq101, q101, γ141⟩ hO101
     refine a1 7 rfl ?_
     refine mo0 1 [(7, .go (owns 0 0 3))] [2, 3, 6, 9] (fun _ => []) (fun _ L => (L.set 0 (bx (γ141 0) (#[.int .i64 now, .slice p n cap, .slice q101 na cq101]) 27))) (fun _ => ?_)
     refine od_ ?_
     exact wk (hmx12 (Y101, cq101, q101, γ141) hO101) [2, 3, 6, 9] [[_], [_], [_], [_], [_], [_], _] [0, 1, 2, 3, 4, 5, 6] rfl rfl
    refine any_cutX (V := (List Ob) × (Nat) × (Option Addr)) (fun ⟨Y101, cq101, q101⟩ => SlO 32 Y101 q101 na cq101 rs) 2 #[true, true, true, true, true, true, false, false] (fun ⟨Y101, cq101, q101⟩ => [(2, .func (.func 43) #[] #[.pointer (some ⟨γ1 1, 0, none⟩)]), (3, .pointer (some ⟨γ3 0, 0, none⟩)), (6, .pointer (some ⟨γ3 1, 0, none⟩)), (26, .agg #[.int .i64 now, .slice p n cap, .slice q101 na cq101])]) (fun ⟨Y101, cq101, q101⟩ => bx (γ3 1) (#[.int .i64 0, .slice none 0 0, .slice none 0 0]) 27 :: bx (γ3 0) (#[.int .i64 now, .slice p n cap, .slice pa na ca]) 27 :: bx (γ1 2) (#[.int .i64 0, .slice none 0 0, .slice none 0 0]) 27 :: bx (γ1 1) (#[.int .i64 k]) 3 :: bx (γ1 0) (#[.int .i64 now, .slice p n cap, .slice pa na ca]) 27 :: (Y101 ++ [])) ?_ (fun hmx10 => ?_)
    ·
     rintro ⟨Y101, cq101, q101⟩ hO101
     refine a1 6 rfl ?_
     refine mo0 1 [] [2, 3, 6, 26] (fun γ141 => [(9, .pointer (some ⟨γ141 0, 0, none⟩))]) (fun γ141 L => bx (γ141 0) (#[.int .i64 0, .slice none 0 0, .slice none 0 0]) 27 :: L) (fun γ141 => ?_)
     refine od_ ?_
     exact wk (hmx11 (Y101, cq101, q101, γ141) hO101) [2, 3, 6, 9, 26] [[_], [_], [_], [_], [_], [_], _] [0, 1, 2, 3, 4, 5, 6] rfl rfl
    refine any_cutX (V := (List Ob) × (Nat) × (Option Addr) × (Nat → Nat)) (fun ⟨Y101, cq101, q101, γ141⟩ => SlO 32 Y101 q101 na cq101 rs) 3 #[true, false, true, true, true, false, true, false] (fun ⟨Y101, cq101, q101, γ141⟩ => [(2, .func (.func 43) #[] #[.pointer (some ⟨γ1 1, 0, none⟩)]), (3, .pointer (some ⟨γ3 0, 0, none⟩)), (6, .pointer (some ⟨γ3 1, 0, none⟩)), (9, .pointer (some ⟨γ141 0, 0, none⟩)), (21, .pointer (some ⟨γ3 0, 0, none⟩)), (25, .slice q101 na cq101)]) (fun ⟨Y101, cq101, q101, γ141⟩ => bx (γ141 0) (#[.int .i64 0, .slice none 0 0, .slice none 0 0]) 27 :: bx (γ3 1) (#[.int .i64 0, .slice none 0 0, .slice none 0 0]) 27 :: bx (γ3 0) (#[.int .i64 now, .slice p n cap, .slice pa na ca]) 27 :: bx (γ1 2) (#[.int .i64 0, .slice none 0 0, .slice none 0 0]) 27 :: bx (γ1 1) (#[.int .i64 k]) 3 :: bx (γ1 0) (#[.int .i64 now, .slice p n cap, .slice pa na ca]) 27 :: (Y101 ++ [])) ?_ (fun hmx9 => ?_)
    ·
     rintro ⟨Y101, cq101, q101, γ141⟩ hO101
     refine a1 1 rfl ?_
     refine qo0 1 [(1, .go (owns 2 0 2))] [2, 3, 6, 9, 25] [(22, .agg #[.int .i64 now, .slice p n cap])] ?_
     refine od_ ?_
     refine tk (m := 1) [5] [] [2, 3, 6, 9] [(26, .agg #[.int .i64 now, .slice p n cap, .slice q101 na cq101])] ([]) #[true, true, true, true, true, true, true, false] al0 ?_
     exact wk (hmx11 (Y101, cq101, q101, γ141) hO101) [2, 3, 6, 9, 26] [[_], [_], [_], [_], [_], [_], _] [0, 1, 2, 3, 4, 5, 6] rfl rfl
    refine any_cutX (V := (Nat → Nat)) (fun γ141 => True) 3 #[true, true, true, true, false, false, true, false] (fun γ141 => [(2, .func (.func 43) #[] #[.pointer (some ⟨γ1 1, 0, none⟩)]), (3, .pointer (some ⟨γ3 0, 0, none⟩)), (6, .pointer (some ⟨γ3 1, 0, none⟩)), (9, .pointer (some ⟨γ141 0, 0, none⟩)), (22, .agg #[.int .i64 now, .slice p n cap]), (24, .slice pa na ca)]) (fun γ141 => [bx (γ141 0) (#[.int .i64 0, .slice none 0 0, .slice none 0 0]) 27, bx (γ3 1) (#[.int .i64 0, .slice none 0 0, .slice none 0 0]) 27, bx (γ3 0) (#[.int .i64 now, .slice p n cap, .slice pa na ca]) 27, bx (γ1 2) (#[.int .i64 0, .slice none 0 0, .slice none 0 0]) 27, bx (γ1 1) (#[.int .i64 k]) 3, bx (γ1 0) (#[.int .i64 now, .slice p n cap, .slice pa na ca]) 27]) ?_ (fun hmx8 => ?_)
    ·
     rintro γ141 _
     refine a1 4 rfl ?_
     refine cP (fun v L' => ∃ q_ c_ Y_, v = .slice q_ na c_ ∧ L' = List.take 6 ([bx (γ141 0) (#[.int .i64 0, .slice none 0 0, .slice none 0 0]) 27, bx (γ3 1) (#[.int .i64 0, .slice none 0 0, .slice none 0 0]) 27, bx (γ3 0) (#[.int .i64 now, .slice p n cap, .slice pa na ca]) 27, bx (γ1 2) (#[.int .i64 0, .slice none 0 0, .slice none 0 0]) 27, bx (γ1 1) (#[.int .i64 k]) 3, bx (γ1 0) (#[.int .i64 now, .slice p n cap, .slice pa na ca]) 27]) ++ (Y_ ++ List.drop 6 ([bx (γ141 0) (#[.int .i64 0, .slice none 0 0, .slice none 0 0]) 27, bx (γ3 1) (#[.int .i64 0, .slice none 0 0, .slice none 0 0]) 27, bx (γ3 0) (#[.int .i64 now, .slice p n cap, .slice pa na ca]) 27, bx (γ1 2) (#[.int .i64 0, .slice none 0 0, .slice none 0 0]) 27, bx (γ1 1) (#[.int .i64 k]) 3, bx (γ1 0) (#[.int .i64 now, .slice p n cap, .slice pa na ca]) 27])) ∧ SlO 32 Y_ q_ na c_ rs) (fun args w => Tryz.call57 args w) (fun w hw => (aclone_t pa na ca rs w (hrs.kept hw.below) hna (by omega)).mono fun e w' ⟨q_, c_, Y_, he, hO, hb, hY⟩ => ⟨_, _, he, ⟨q_, c_, Y_, rfl, rfl, hO⟩, hw.join hb hY 6⟩) ?_
     rintro v101 L101 ⟨q101, cq101, Y101, rfl, rfl, hO101⟩
     refine od_ ?_
     refine tk (m := 1) [5] [] [2, 3, 6, 9] [(26, .agg #[.int .i64 now, .slice p n cap, .slice q101 na cq101])] ([]) #[true, true, true, true, true, true, true, false] al0 ?_
     exact wk (hmx11 (Y101, cq101, q101, γ141) hO101) [2, 3, 6, 9, 26] [[_], [_], [_], [_], [_], [_], _] [0, 1, 2, 3, 4, 5, 6] rfl rfl
    refine any_cutX (V := (Nat → Nat)) (fun γ141 => True) 4 #[true, false, true, true, false, false, true, false] (fun γ141 => [(2, .func (.func 43) #[] #[.pointer (some ⟨γ1 1, 0, none⟩)]), (3, .pointer (some ⟨γ3 0, 0, none⟩)), (6, .pointer (some ⟨γ3 1, 0, none⟩)), (9, .pointer (some ⟨γ141 0, 0, none⟩)), (21, .pointer (some ⟨γ3 0, 0, none⟩)), (24, .slice pa na ca)]) (fun γ141 => [bx (γ141 0) (#[.int .i64 0, .slice none 0 0, .slice none 0 0]) 27, bx (γ3 1) (#[.int .i64 0, .slice none 0 0, .slice none 0 0]) 27, bx (γ3 0) (#[.int .i64 now, .slice p n cap, .slice pa na ca]) 27, bx (γ1 2) (#[.int .i64 0, .slice none 0 0, .slice none 0 0]) 27, bx (γ1 1) (#[.int .i64 k]) 3, bx (γ1 0) (#[.int .i64 now, .slice p n cap, .slice pa na ca]) 27]) ?_ (fun hmx7 => ?_)
    ·
     rintro γ141 _
     refine any_fork [1, 4] (by kernel_rfl) (by simp) (each_cons _ rfl ?_ (each_cons _ rfl ?_ (each_nil)))
     ·
      refine qo0 1 [(1, .go (owns 2 0 2))] [2, 3, 6, 9, 24] [(22, .agg #[.int .i64 now, .slice p n cap])] ?_
      refine od_ ?_
      exact wk (hmx8 γ141 trivial) [2, 3, 6, 9, 22, 24] [[_], [_], [_], [_], [_], [_]] [0, 1, 2, 3, 4, 5] rfl rfl
     ·
      refine cP (fun v L' => ∃ q_ c_ Y_, v = .slice q_ na c_ ∧ L' = List.take 6 ([bx (γ141 0) (#[.int .i64 0, .slice none 0 0, .slice none 0 0]) 27, bx (γ3 1) (#[.int .i64 0, .slice none 0 0, .slice none 0 0]) 27, bx (γ3 0) (#[.int .i64 now, .slice p n cap, .slice pa na ca]) 27, bx (γ1 2) (#[.int .i64 0, .slice none 0 0, .slice none 0 0]) 27, bx (γ1 1) (#[.int .i64 k]) 3, bx (γ1 0) (#[.int .i64 now, .slice p n cap, .slice pa na ca]) 27]) ++ (Y_ ++ List.drop 6 ([bx (γ141 0) (#[.int .i64 0, .slice none 0 0, .slice none 0 0]) 27, bx (γ3 1) (#[.int .i64 0, .slice none 0 0, .slice none 0 0]) 27, bx (γ3 0) (#[.int .i64 now, .slice p n cap, .slice pa na ca]) 27, bx (γ1 2) (#[.int .i64 0, .slice none 0 0, .slice none 0 0]) 27, bx (γ1 1) (#[.int .i64 k]) 3, bx (γ1 0) (#[.int .i64 now, .slice p n cap, .slice pa na ca]) 27])) ∧ SlO 32 Y_ q_ na c_ rs) (fun args w => Tryz.call57 args w) (fun w hw => (aclone_t pa na ca rs w (hrs.kept hw.below) hna (by omega)).mono fun e w' ⟨q_, c_, Y_, he, hO, hb, hY⟩ => ⟨_, _, he, ⟨q_, c_, Y_, rfl, rfl, hO⟩, hw.join hb hY 6⟩) ?_
      rintro v101 L101 ⟨q101, cq101, Y101, rfl, rfl, hO101⟩
      refine od_ ?_
      exact wk (hmx9 (Y101, cq101, q101, γ141) hO101) [2, 3, 6, 9, 21, 25] [[_], [_], [_], [_], [_], [_], _] [0, 1, 2, 3, 4, 5, 6] rfl rfl
    refine any_cutX (V := (List Ob) × (Nat) × (Option Addr)) (fun ⟨Y101, cq101, q101⟩ => SlO 32 Y101 q101 na cq101 rs) 4 #[true, false, true, true, true, false, false, false] (fun ⟨Y101, cq101, q101⟩ => [(2, .func (.func 43) #[] #[.pointer (some ⟨γ1 1, 0, none⟩)]), (3, .pointer (some ⟨γ3 0, 0, none⟩)), (6, .pointer (some ⟨γ3 1, 0, none⟩)), (21, .pointer (some ⟨γ3 0, 0, none⟩)), (25, .slice q101 na cq101)]) (fun ⟨Y101, cq101, q101⟩ => bx (γ3 1) (#[.int .i64 0, .slice none 0 0, .slice none 0 0]) 27 :: bx (γ3 0) (#[.int .i64 now, .slice p n cap, .slice pa na ca]) 27 :: bx (γ1 2) (#[.int .i64 0, .slice none 0 0, .slice none 0 0]) 27 :: bx (γ1 1) (#[.int .i64 k]) 3 :: bx (γ1 0) (#[.int .i64 now, .slice p n cap, .slice pa na ca]) 27 :: (Y101 ++ [])) ?_ (fun hmx6 => ?_)
    ·
     rintro ⟨Y101, cq101, q101⟩ hO101
     refine any_fork [1, 6] (by kernel_rfl) (by simp) (each_cons _ rfl ?_ (each_cons _ rfl ?_ (each_nil)))
     ·
      refine qo0 1 [(1, .go (owns 1 0 2))] [2, 3, 6, 25] [(22, .agg #[.int .i64 now, .slice p n cap])] ?_
      refine od_ ?_
      refine tk (m := 2) [5] [] [2, 3, 6] [(26, .agg #[.int .i64 now, .slice p n cap, .slice q101 na cq101])] ([]) #[true, true, true, true, true, true, false, false] al0 ?_
      exact wk (hmx10 (Y101, cq101, q101) hO101) [2, 3, 6, 26] [[_], [_], [_], [_], [_], _] [0, 1, 2, 3, 4, 5] rfl rfl
     ·
      refine mo0 1 [] [2, 3, 6, 21, 25] (fun γ141 => [(9, .pointer (some ⟨γ141 0, 0, none⟩))]) (fun γ141 L => bx (γ141 0) (#[.int .i64 0, .slice none 0 0, .slice none 0 0]) 27 :: L) (fun γ141 => ?_)
      refine od_ ?_
      exact wk (hmx9 (Y101, cq101, q101, γ141) hO101) [2, 3, 6, 9, 21, 25] [[_], [_], [_], [_], [_], [_], _] [0, 1, 2, 3, 4, 5, 6] rfl rfl
    refine any_cutX (V := (Nat → Nat)) (fun γ141 => True) 4 #[true, true, true, false, false, false, true, false] (fun γ141 => [(2, .func (.func 43) #[] #[.pointer (some ⟨γ1 1, 0, none⟩)]), (3, .pointer (some ⟨γ3 0, 0, none⟩)), (6, .pointer (some ⟨γ3 1, 0, none⟩)), (9, .pointer (some ⟨γ141 0, 0, none⟩)), (22, .agg #[.int .i64 now, .slice p n cap]), (23, .pointer (some ⟨γ3 0, 2, none⟩))]) (fun γ141 => [bx (γ141 0) (#[.int .i64 0, .slice none 0 0, .slice none 0 0]) 27, bx (γ3 1) (#[.int .i64 0, .slice none 0 0, .slice none 0 0]) 27, bx (γ3 0) (#[.int .i64 now, .slice p n cap, .slice pa na ca]) 27, bx (γ1 2) (#[.int .i64 0, .slice none 0 0, .slice none 0 0]) 27, bx (γ1 1) (#[.int .i64 k]) 3, bx (γ1 0) (#[.int .i64 now, .slice p n cap, .slice pa na ca]) 27]) ?_ (fun hmx5 => ?_)
    ·
     rintro γ141 _
     refine a1 3 rfl ?_
     refine qo0 1 [(3, .go (owns 2 2 1))] [2, 3, 6, 9, 22] [(24, .slice pa na ca)] ?_
     refine od_ ?_
     exact wk (hmx8 γ141 trivial) [2, 3, 6, 9, 22, 24] [[_], [_], [_], [_], [_], [_]] [0, 1, 2, 3, 4, 5] rfl rfl
    refine any_cutX (V := Unit) (fun _ => True) 4 #[true, true, true, true, false, false, false, false] (fun _ => [(2, .func (.func 43) #[] #[.pointer (some ⟨γ1 1, 0, none⟩)]), (3, .pointer (some ⟨γ3 0, 0, none⟩)), (6, .pointer (some ⟨γ3 1, 0, none⟩)), (22, .agg #[.int .i64 now, .slice p n cap]), (24, .slice pa na ca)]) (fun _ => [bx (γ3 1) (#[.int .i64 0, .slice none 0 0, .slice none 0 0]) 27, bx (γ3 0) (#[.int .i64 now, .slice p n cap, .slice pa na ca]) 27, bx (γ1 2) (#[.int .i64 0, .slice none 0 0, .slice none 0 0]) 27, bx (γ1 1) (#[.int .i64 k]) 3, bx (γ1 0) (#[.int .i64 now, .slice p n cap, .slice pa na ca]) 27]) ?_ (fun hmx4 => ?_)
    ·
     rintro _ _
     refine any_fork [4, 6] (by kernel_rfl) (by simp) (each_cons _ rfl ?_ (each_cons _ rfl ?_ (each_nil)))
     ·
      refine cP (fun v L' => ∃ q_ c_ Y_, v = .slice q_ na c_ ∧ L' = List.take 5 ([bx (γ3 1) (#[.int .i64 0, .slice none 0 0, .slice none 0 0]) 27, bx (γ3 0) (#[.int .i64 now, .slice p n cap, .slice pa na ca]) 27, bx (γ1 2) (#[.int .i64 0, .slice none 0 0, .slice none 0 0]) 27, bx (γ1 1) (#[.int .i64 k]) 3, bx (γ1 0) (#[.int .i64 now, .slice p n cap, .slice pa na ca]) 27]) ++ (Y_ ++ List.drop 5 ([bx (γ3 1) (#[.int .i64 0, .slice none 0 0, .slice none 0 0]) 27, bx (γ3 0) (#[.int .i64 now, .slice p n cap, .slice pa na ca]) 27, bx (γ1 2) (#[.int .i64 0, .slice none 0 0, .slice none 0 0]) 27, bx (γ1 1) (#[.int .i64 k]) 3, bx (γ1 0) (#[.int .i64 now, .slice p n cap, .slice pa na ca]) 27])) ∧ SlO 32 Y_ q_ na c_ rs) (fun args w => Tryz.call57 args w) (fun w hw => (aclone_t pa na ca rs w (hrs.kept hw.below) hna (by omega)).mono fun e w' ⟨q_, c_, Y_, he, hO, hb, hY⟩ => ⟨_, _, he, ⟨q_, c_, Y_, rfl, rfl, hO⟩, hw.join hb hY 5⟩) ?_
      rintro v101 L101 ⟨q101, cq101, Y101, rfl, rfl, hO101⟩
      refine od_ ?_
      refine tk (m := 2) [5] [] [2, 3, 6] [(26, .agg #[.int .i64 now, .slice p n cap, .slice q101 na cq101])] ([]) #[true, true, true, true, true, true, false, false] al0 ?_
      exact wk (hmx10 (Y101, cq101, q101) hO101) [2, 3, 6, 26] [[_], [_], [_], [_], [_], _] [0, 1, 2, 3, 4, 5] rfl rfl
     ·
      refine mo0 1 [] [2, 3, 6, 22, 24] (fun γ141 => [(9, .pointer (some ⟨γ141 0, 0, none⟩))]) (fun γ141 L => bx (γ141 0) (#[.int .i64 0, .slice none 0 0, .slice none 0 0]) 27 :: L) (fun γ141 => ?_)
      refine od_ ?_
      exact wk (hmx8 γ141 trivial) [2, 3, 6, 9, 22, 24] [[_], [_], [_], [_], [_], [_]] [0, 1, 2, 3, 4, 5] rfl rfl
    refine any_cutX (V := (Nat → Nat)) (fun γ141 => True) 5 #[true, false, true, false, false, false, true, false] (fun γ141 => [(2, .func (.func 43) #[] #[.pointer (some ⟨γ1 1, 0, none⟩)]), (3, .pointer (some ⟨γ3 0, 0, none⟩)), (6, .pointer (some ⟨γ3 1, 0, none⟩)), (9, .pointer (some ⟨γ141 0, 0, none⟩)), (21, .pointer (some ⟨γ3 0, 0, none⟩)), (23, .pointer (some ⟨γ3 0, 2, none⟩))]) (fun γ141 => [bx (γ141 0) (#[.int .i64 0, .slice none 0 0, .slice none 0 0]) 27, bx (γ3 1) (#[.int .i64 0, .slice none 0 0, .slice none 0 0]) 27, bx (γ3 0) (#[.int .i64 now, .slice p n cap, .slice pa na ca]) 27, bx (γ1 2) (#[.int .i64 0, .slice none 0 0, .slice none 0 0]) 27, bx (γ1 1) (#[.int .i64 k]) 3, bx (γ1 0) (#[.int .i64 now, .slice p n cap, .slice pa na ca]) 27]) ?_ (fun hmx3 => ?_)
    ·
     rintro γ141 _
     refine any_fork [1, 3] (by kernel_rfl) (by simp) (each_cons _ rfl ?_ (each_cons _ rfl ?_ (each_nil)))
     ·
      refine qo0 1 [(1, .go (owns 2 0 2))] [2, 3, 6, 9, 23] [(22, .agg #[.int .i64 now, .slice p n cap])] ?_
      refine od_ ?_
      exact wk (hmx5 γ141 trivial) [2, 3, 6, 9, 22, 23] [[_], [_], [_], [_], [_], [_]] [0, 1, 2, 3, 4, 5] rfl rfl
     ·
      refine qo0 1 [(3, .go (owns 2 2 1))] [2, 3, 6, 9, 21] [(24, .slice pa na ca)] ?_
      refine od_ ?_
      exact wk (hmx7 γ141 trivial) [2, 3, 6, 9, 21, 24] [[_], [_], [_], [_], [_], [_]] [0, 1, 2, 3, 4, 5] rfl rfl
    refine any_cutX (V := Unit) (fun _ => True) 5 #[true, false, true, true, false, false, false, false] (fun _ => [(2, .func (.func 43) #[] #[.pointer (some ⟨γ1 1, 0, none⟩)]), (3, .pointer (some ⟨γ3 0, 0, none⟩)), (6, .pointer (some ⟨γ3 1, 0, none⟩)), (21, .pointer (some ⟨γ3 0, 0, none⟩)), (24, .slice pa na ca)]) (fun _ => [bx (γ3 1) (#[.int .i64 0, .slice none 0 0, .slice none 0 0]) 27, bx (γ3 0) (#[.int .i64 now, .slice p n cap, .slice pa na ca]) 27, bx (γ1 2) (#[.int .i64 0, .slice none 0 0, .slice none 0 0]) 27, bx (γ1 1) (#[.int .i64 k]) 3, bx (γ1 0) (#[.int .i64 now, .slice p n cap, .slice pa na ca]) 27]) ?_ (fun hmx2 => ?_)
    ·
     rintro _ _
     refine any_fork [1, 4, 6] (by kernel_rfl) (by simp) (each_cons _ rfl ?_ (each_cons _ rfl ?_ (each_cons _ rfl ?_ (each_nil))))
     ·
      refine qo0 1 [(1, .go (owns 1 0 2))] [2, 3, 6, 24] [(22, .agg #[.int .i64 now, .slice p n cap])] ?_
      refine od_ ?_
      exact wk (hmx4 () trivial) [2, 3, 6, 22, 24] [[_], [_], [_], [_], [_]] [0, 1, 2, 3, 4] rfl rfl
     ·
      refine cP (fun v L' => ∃ q_ c_ Y_, v = .slice q_ na c_ ∧ L' = List.take 5 ([bx (γ3 1) (#[.int .i64 0, .slice none 0 0, .slice none 0 0]) 27, bx (γ3 0) (#[.int .i64 now, .slice p n cap, .slice pa na ca]) 27, bx (γ1 2) (#[.int .i64 0, .slice none 0 0, .slice none 0 0]) 27, bx (γ1 1) (#[.int .i64 k]) 3, bx (γ1 0) (#[.int .i64 now, .slice p n cap, .slice pa na ca]) 27]) ++ (Y_ ++ List.drop 5 ([bx (γ3 1) (#[.int .i64 0, .slice none 0 0, .slice none 0 0]) 27, bx (γ3 0) (#[.int .i64 now, .slice p n cap, .slice pa na ca]) 27, bx (γ1 2) (#[.int .i64 0, .slice none 0 0, .slice none 0 0]) 27, bx (γ1 1) (#[.int .i64 k]) 3, bx (γ1 0) (#[.int .i64 now, .slice p n cap, .slice pa na ca]) 27])) ∧ SlO 32 Y_ q_ na c_ rs) (fun args w => Tryz.call57 args w) (fun w hw => (aclone_t pa na ca rs w (hrs.kept hw.below) hna (by omega)).mono fun e w' ⟨q_, c_, Y_, he, hO, hb, hY⟩ => ⟨_, _, he, ⟨q_, c_, Y_, rfl, rfl, hO⟩, hw.join hb hY 5⟩) ?_
      rintro v101 L101 ⟨q101, cq101, Y101, rfl, rfl, hO101⟩
      refine od_ ?_
      exact wk (hmx6 (Y101, cq101, q101) hO101) [2, 3, 6, 21, 25] [[_], [_], [_], [_], [_], _] [0, 1, 2, 3, 4, 5] rfl rfl
     ·
      refine mo0 1 [] [2, 3, 6, 21, 24] (fun γ141 => [(9, .pointer (some ⟨γ141 0, 0, none⟩))]) (fun γ141 L => bx (γ141 0) (#[.int .i64 0, .slice none 0 0, .slice none 0 0]) 27 :: L) (fun γ141 => ?_)
      refine od_ ?_
      exact wk (hmx7 γ141 trivial) [2, 3, 6, 9, 21, 24] [[_], [_], [_], [_], [_], [_]] [0, 1, 2, 3, 4, 5] rfl rfl
    refine any_cutX (V := Unit) (fun _ => True) 5 #[true, true, true, false, false, false, false, false] (fun _ => [(2, .func (.func 43) #[] #[.pointer (some ⟨γ1 1, 0, none⟩)]), (3, .pointer (some ⟨γ3 0, 0, none⟩)), (6, .pointer (some ⟨γ3 1, 0, none⟩)), (22, .agg #[.int .i64 now, .slice p n cap]), (23, .pointer (some ⟨γ3 0, 2, none⟩))]) (fun _ => [bx (γ3 1) (#[.int .i64 0, .slice none 0 0, .slice none 0 0]) 27, bx (γ3 0) (#[.int .i64 now, .slice p n cap, .slice pa na ca]) 27, bx (γ1 2) (#[.int .i64 0, .slice none 0 0, .slice none 0 0]) 27, bx (γ1 1) (#[.int .i64 k]) 3, bx (γ1 0) (#[.int .i64 now, .slice p n cap, .slice pa na ca]) 27]) ?_ (fun hmx1 => ?_)
    ·
     rintro _ _
     refine any_fork [3, 6] (by kernel_rfl) (by simp) (each_cons _ rfl ?_ (each_cons _ rfl ?_ (each_nil)))
     ·
      refine qo0 1 [(3, .go (owns 1 2 1))] [2, 3, 6, 22] [(24, .slice pa na ca)] ?_
      refine od_ ?_
      exact wk (hmx4 () trivial) [2, 3, 6, 22, 24] [[_], [_], [_], [_], [_]] [0, 1, 2, 3, 4] rfl rfl
     ·
      refine mo0 1 [] [2, 3, 6, 22, 23] (fun γ141 => [(9, .pointer (some ⟨γ141 0, 0, none⟩))]) (fun γ141 L => bx (γ141 0) (#[.int .i64 0, .slice none 0 0, .slice none 0 0]) 27 :: L) (fun γ141 => ?_)
      refine od_ ?_
      exact wk (hmx5 γ141 trivial) [2, 3, 6, 9, 22, 23] [[_], [_], [_], [_], [_], [_]] [0, 1, 2, 3, 4, 5] rfl rfl
    refine any_fork [1, 3, 6] (by kernel_rfl) (by simp) (each_cons _ rfl ?_ (each_cons _ rfl ?_ (each_cons _ rfl ?_ (each_nil))))
    ·
     refine qo0 1 [(1, .go (owns 1 0 2))] [2, 3, 6, 23] [(22, .agg #[.int .i64 now, .slice p n cap])] ?_
     refine od_ ?_
     exact wk (hmx1 () trivial) [2, 3, 6, 22, 23] [[_], [_], [_], [_], [_]] [0, 1, 2, 3, 4] rfl rfl
    ·
     refine qo0 1 [(3, .go (owns 1 2 1))] [2, 3, 6, 21] [(24, .slice pa na ca)] ?_
     refine od_ ?_
     exact wk (hmx2 () trivial) [2, 3, 6, 21, 24] [[_], [_], [_], [_], [_]] [0, 1, 2, 3, 4] rfl rfl
    ·
     refine mo0 1 [] [2, 3, 6, 21, 23] (fun γ141 => [(9, .pointer (some ⟨γ141 0, 0, none⟩))]) (fun γ141 L => bx (γ141 0) (#[.int .i64 0, .slice none 0 0, .slice none 0 0]) 27 :: L) (fun γ141 => ?_)
     refine od_ ?_
     exact wk (hmx3 γ141 trivial) [2, 3, 6, 9, 21, 23] [[_], [_], [_], [_], [_], [_]] [0, 1, 2, 3, 4, 5] rfl rfl
   rintro ⟨Y101, cq101, q101, γ141⟩ hO101
   refine any_nil (by kernel_rfl) ?_
   refine ds_ (sq_ (ao_ (qo0 3 [(2, .go (owns 2 1 1))] [2, 6, 9] [(29, .slice p n cap)] (cP (fun v L' => ∃ q_ c_ Y_, v = .slice q_ n c_ ∧ L' = List.take 6 (bx (γ141 0) (#[.int .i64 now, .slice p n cap, .slice q101 na cq101]) 27 :: bx (γ3 1) (#[.int .i64 0, .slice none 0 0, .slice none 0 0]) 27 :: bx (γ3 0) (#[.int .i64 now, .slice p n cap, .slice pa na ca]) 27 :: bx (γ1 2) (#[.int .i64 0, .slice none 0 0, .slice none 0 0]) 27 :: bx (γ1 1) (#[.int .i64 k]) 3 :: bx (γ1 0) (#[.int .i64 now, .slice p n cap, .slice pa na ca]) 27 :: (Y101 ++ [])) ++ (Y_ ++ List.drop 6 (bx (γ141 0) (#[.int .i64 now, .slice p n cap, .slice q101 na cq101]) 27 :: bx (γ3 1) (#[.int .i64 0, .slice none 0 0, .slice none 0 0]) 27 :: bx (γ3 0) (#[.int .i64 now, .slice p n cap, .slice pa na ca]) 27 :: bx (γ1 2) (#[.int .i64 0, .slice none 0 0, .slice none 0 0]) 27 :: bx (γ1 1) (#[.int .i64 k]) 3 :: bx (γ1 0) (#[.int .i64 now, .slice p n cap, .slice pa na ca]) 27 :: (Y101 ++ []))) ∧ SlO 42 Y_ q_ n c_ ts) (fun args w => Tryz.call58 args w) (fun w hw => (clone_t p n cap ts w (hts.kept hw.below) hn (by omega)).mono fun e w' ⟨q_, c_, Y_, he, hO, hb, hY⟩ => ⟨_, _, he, ⟨q_, c_, Y_, rfl, rfl, hO⟩, hw.join hb hY 6⟩) ?_))))
   rintro v227 L227 ⟨q227, cq227, Y227, rfl, rfl, hO227⟩
   refine mo0 3 [(6, .go (owns 0 1 1))] [2, 6, 9] (fun _ => []) (fun _ L => (L.set 0 (bx (γ141 0) (#[.int .i64 now, .slice q227 n cq227, .slice q101 na cq101]) 27))) (fun _ => on_ (ds_ (sq_ (sq_ ?_))))
   have hvk := of_decide_eq_true q13
   refine ao_ (qo0 1 [] [6, 9] [(33, .func (.func 43) #[] #[.pointer (some ⟨γ1 1, 0, none⟩)])] (ops_inline (g := 43) (args := #[.pointer (some ⟨γ141 0, 0, none⟩), .pointer (some ⟨γ1 1, 0, none⟩)]) (by kernel_rfl) (by kernel_rfl) (by kernel_rfl) (fun args w => Tryz.call43 args w) Tryz.func43 rfl Tryz.ntmps43 rfl (sq_ (qa0 [] [0, 1] [] (ds_ (sq_ (ao_ (qo0 2 [(1, .go (owns 4 0 1))] [] [(4, .pointer (some ⟨γ141 0, 0, none⟩)), (5, .int .i64 k)] (cD (.int .i64 (15 + k)) (fun args w => Tryz.call42 args w) (fun w hw => asleep_t k w (by omega) (by omega)) ?_)))))))))
   rcases hg233 : getK Tim.id ts (15 + k) with _ | y233
   ·
    refine cP (fun v L' => v = .int .i64 4 ∧ L' = (bx (γ141 0) (#[.int .i64 now, .slice q227 n cq227, .slice q101 na cq101]) 27 :: [bx (γ3 1) (#[.int .i64 0, .slice none 0 0, .slice none 0 0]) 27, bx (γ3 0) (#[.int .i64 now, .slice p n cap, .slice pa na ca]) 27, bx (γ1 2) (#[.int .i64 0, .slice none 0 0, .slice none 0 0]) 27, bx (γ1 1) (#[.int .i64 k]) 3, bx (γ1 0) (#[.int .i64 now, .slice p n cap, .slice pa na ca]) 27]) ++ (Y227 ++ ((Y101 ++ [])))) (fun args w => Tryz.call40 args w) (fun w hw => (acancel_no _ ([bx (γ3 1) (#[.int .i64 0, .slice none 0 0, .slice none 0 0]) 27, bx (γ3 0) (#[.int .i64 now, .slice p n cap, .slice pa na ca]) 27, bx (γ1 2) (#[.int .i64 0, .slice none 0 0, .slice none 0 0]) 27, bx (γ1 1) (#[.int .i64 k]) 3, bx (γ1 0) (#[.int .i64 now, .slice p n cap, .slice pa na ca]) 27] ++ ((Y101 ++ []))) Y227 (γ141 0) now q227 n cq227 q101 na cq101 ts (15 + k) w (hw.pull (A := [bx (γ3 1) (#[.int .i64 0, .slice none 0 0, .slice none 0 0]) 27, bx (γ3 0) (#[.int .i64 now, .slice p n cap, .slice pa na ca]) 27, bx (γ1 2) (#[.int .i64 0, .slice none 0 0, .slice none 0 0]) 27, bx (γ1 1) (#[.int .i64 k]) 3, bx (γ1 0) (#[.int .i64 now, .slice p n cap, .slice pa na ca]) 27]) (Y := Y227) (R := ((Y101 ++ [])))) hO227 (by omega) (al_iff.1 q5).wh hg233).mono fun e w' ⟨he, hY⟩ => ⟨_, _, he, ⟨rfl, rfl⟩, hY.push (A := _ :: [bx (γ3 1) (#[.int .i64 0, .slice none 0 0, .slice none 0 0]) 27, bx (γ3 0) (#[.int .i64 now, .slice p n cap, .slice pa na ca]) 27, bx (γ1 2) (#[.int .i64 0, .slice none 0 0, .slice none 0 0]) 27, bx (γ1 1) (#[.int .i64 k]) 3, bx (γ1 0) (#[.int .i64 now, .slice p n cap, .slice pa na ca]) 27])⟩) ?_
    rintro v234 L234 ⟨rfl, rfl⟩
    refine qo0 1 [] [] [(3, .int .i64 4)] (on_ (ds_ (bk ([]) (.int .i64 4) (qo0 1 [] [6, 9] [(10, .int .i64 4)] (on_ (ds_ (sq_ (qa0 [] [6, 9, 10] [(36, .bool true)] (ds_ (t_ (sq_ (qa0 [(2, .go (owns 1 0 3))] [6] [(7, .int .i64 4)] (ds_ (bk (owns 1 0 3) (.tuple #[.agg #[.int .i64 0, .slice none 0 0, .slice none 0 0], .int .i64 4]) (qo0 4 [(6, .go (owns 3 0 3))] [4] [(5, .int .i64 4)] (on_ (ds_ (rt (owns 3 0 3) (.tuple #[.agg #[.int .i64 0, .slice none 0 0, .slice none 0 0], .int .i64 4]) ?_))))))))))))))))))
    exact fun w' hw => by rw [wakeV_none q5 q13 hg233]; exact ⟨none, 0, 0, [], none, 0, 0, [], rfl, SlO.nil, SlO.nil, hw.below, hw.sub (List.nil_sublist _)⟩
   ·
    refine cP (fun v L' => ∃ q_ m_ c_ Y_, v = (.int .i64 0) ∧ L' = (bx (γ141 0) #[.int .i64 now, .slice q_ m_ c_, .slice q101 na cq101] 27 :: [bx (γ3 1) (#[.int .i64 0, .slice none 0 0, .slice none 0 0]) 27, bx (γ3 0) (#[.int .i64 now, .slice p n cap, .slice pa na ca]) 27, bx (γ1 2) (#[.int .i64 0, .slice none 0 0, .slice none 0 0]) 27, bx (γ1 1) (#[.int .i64 k]) 3, bx (γ1 0) (#[.int .i64 now, .slice p n cap, .slice pa na ca]) 27]) ++ (Y_ ++ ((Y101 ++ []))) ∧ SlO 42 Y_ q_ m_ c_ (delK Tim.id ts (15 + k))) (fun args w => Tryz.call40 args w) (fun w hw => (acancel_t _ ([bx (γ3 1) (#[.int .i64 0, .slice none 0 0, .slice none 0 0]) 27, bx (γ3 0) (#[.int .i64 now, .slice p n cap, .slice pa na ca]) 27, bx (γ1 2) (#[.int .i64 0, .slice none 0 0, .slice none 0 0]) 27, bx (γ1 1) (#[.int .i64 k]) 3, bx (γ1 0) (#[.int .i64 now, .slice p n cap, .slice pa na ca]) 27] ++ ((Y101 ++ []))) Y227 (γ141 0) now q227 n cq227 q101 na cq101 ts (15 + k) w (hw.pull (A := [bx (γ3 1) (#[.int .i64 0, .slice none 0 0, .slice none 0 0]) 27, bx (γ3 0) (#[.int .i64 now, .slice p n cap, .slice pa na ca]) 27, bx (γ1 2) (#[.int .i64 0, .slice none 0 0, .slice none 0 0]) 27, bx (γ1 1) (#[.int .i64 k]) 3, bx (γ1 0) (#[.int .i64 now, .slice p n cap, .slice pa na ca]) 27]) (Y := Y227) (R := ((Y101 ++ [])))) hO227 (by omega) (al_iff.1 q5).wh hg233).mono fun e w' ⟨q_, m_, c_, Y_, he, hO, hY⟩ => ⟨_, _, he, ⟨q_, m_, c_, Y_, rfl, rfl, hO⟩, hY.push (A := _ :: [bx (γ3 1) (#[.int .i64 0, .slice none 0 0, .slice none 0 0]) 27, bx (γ3 0) (#[.int .i64 now, .slice p n cap, .slice pa na ca]) 27, bx (γ1 2) (#[.int .i64 0, .slice none 0 0, .slice none 0 0]) 27, bx (γ1 1) (#[.int .i64 k]) 3, bx (γ1 0) (#[.int .i64 now, .slice p n cap, .slice pa na ca]) 27])⟩) ?_
    rintro v240 L240 ⟨q240, m240, cq240, Y240, rfl, rfl, hO240⟩
    have hm240 := hO240.len
    refine qo0 1 [] [] [(3, .int .i64 0)] (on_ (ds_ (bk ([]) (.int .i64 0) (qo0 1 [] [6, 9] [(10, .int .i64 0)] (on_ (ds_ (sq_ (qa0 [] [6, 9, 10] [(36, .bool false)] (ds_ (f_ (at_skip (ds_ (sq_ (ma0 [(0, .go (owns 0 0 3)), (1, .go (owns 1 0 3))] [6] (fun _ => [(7, .int .i64 0)]) (fun _ L => (L.set 1 (bx (γ3 1) (#[.int .i64 now, .slice q240 m240 cq240, .slice q101 na cq101]) 27))) (fun _ => ds_ (bk (owns 1 0 3) (.tuple #[.agg #[.int .i64 now, .slice q240 m240 cq240, .slice q101 na cq101], .int .i64 0]) (mo0 4 [(6, .go (owns 3 0 3))] [4] (fun _ => [(5, .int .i64 0)]) (fun _ L => (L.set 3 (bx (γ1 2) (#[.int .i64 now, .slice q240 m240 cq240, .slice q101 na cq101]) 27))) (fun _ => on_ (ds_ (rt (owns 3 0 3) (.tuple #[.agg #[.int .i64 now, .slice q240 m240 cq240, .slice q101 na cq101], .int .i64 0]) ?_))))))))))))))))))))
    exact fun w' hw => by rw [wakeV_ok q5 q13 hg233]; exact ⟨_, _, _, _, _, _, _, _, rfl, hO240, hO101, hw.below, two_tails (Hs.pick [[bx (γ141 0) (#[.int .i64 now, .slice q240 m240 cq240, .slice q101 na cq101]) 27], [bx (γ3 1) (#[.int .i64 now, .slice q240 m240 cq240, .slice q101 na cq101]) 27], [bx (γ3 0) (#[.int .i64 now, .slice p n cap, .slice pa na ca]) 27], [bx (γ1 2) (#[.int .i64 now, .slice q240 m240 cq240, .slice q101 na cq101]) 27], [bx (γ1 1) (#[.int .i64 k]) 3], [bx (γ1 0) (#[.int .i64 now, .slice p n cap, .slice pa na ca]) 27], Y240, Y101] [6, 7] [0, 1, 2, 3, 4, 5] (by kernel_rfl) hw)⟩

set_option maxRecDepth 100000 in
theorem sleep_t (now : Int) (p : Option Addr) (n cap : Nat) (ts : List Tim) (pa : Option Addr) (na ca : Nat) (rs : List Alm) (k at_ : Int) (w : World)
 (hts : Sv w p ts) (hn : n = ts.length) (hb : n ≤ 1000)
 (hrs : Sv w pa rs) (hna : na = rs.length) (hba : na ≤ 1000)
 : Calls Tryz.prog 16 #[.agg #[.int .i64 now, .slice p n cap, .slice pa na ca], .int .i64 k, .int .i64 at_] w fun e w' => ∃ q m c Y q2 m2 c2 X, e = .returned (.tuple #[.agg #[.int .i64 (sleepV now ts rs k at_).1, .slice q m c, .slice q2 m2 c2], .int .i64 (sleepV now ts rs k at_).2.2.2]) ∧ SlO 42 Y q m c (sleepV now ts rs k at_).2.1 ∧ SlO 32 X q2 m2 c2 (sleepV now ts rs k at_).2.2.1 ∧ Below w.heap.size w w' ∧ Hs w (Y ++ X) w' := by
 refine enter (Hs.start w) Tryz.func16 rfl Tryz.ntmps16 rfl (sq_ (ma0 [] [] (fun γ1 => [(3, .pointer (some ⟨γ1 0, 0, none⟩)), (4, .pointer (some ⟨γ1 1, 0, none⟩)), (5, .pointer (some ⟨γ1 2, 0, none⟩)), (6, .pointer (some ⟨γ1 3, 0, none⟩))]) (fun γ1 L => bx (γ1 3) (#[.int .i64 0, .slice none 0 0, .slice none 0 0]) 27 :: bx (γ1 2) (#[.int .i64 at_]) 2 :: bx (γ1 1) (#[.int .i64 k]) 3 :: bx (γ1 0) (#[.int .i64 now, .slice p n cap, .slice pa na ca]) 27 :: L) (fun γ1 => ds_ (sq_ (ao_ (qo0 3 [(0, .go (owns 3 0 3)), (1, .go (owns 2 0 1))] [6] [(8, .agg #[.int .i64 now, .slice p n cap, .slice pa na ca]), (9, .int .i64 k), (10, .func (.func 41) #[] #[.pointer (some ⟨γ1 1, 0, none⟩), .pointer (some ⟨γ1 2, 0, none⟩)])] (ops_inline (g := 25) (args := #[.agg #[.int .i64 now, .slice p n cap, .slice pa na ca], .int .i64 k, .func (.func 41) #[] #[.pointer (some ⟨γ1 1, 0, none⟩), .pointer (some ⟨γ1 2, 0, none⟩)]]) (by kernel_rfl) (by kernel_rfl) (by kernel_rfl) (fun args w => Tryz.call25 args w) Tryz.func25 rfl Tryz.ntmps25 rfl (sq_ (ma0 [] [1, 2] (fun γ3 => [(3, .pointer (some ⟨γ3 0, 0, none⟩)), (6, .pointer (some ⟨γ3 1, 0, none⟩))]) (fun γ3 L => bx (γ3 1) (#[.int .i64 0, .slice none 0 0, .slice none 0 0]) 27 :: bx (γ3 0) (#[.int .i64 now, .slice p n cap, .slice pa na ca]) 27 :: L) (fun γ3 => ds_ (sq_ (sq_ (ao_ (qo0 1 [(0, .go (owns 1 0 3))] [1, 2, 3, 6] [(11, .agg #[.int .i64 now, .slice p n cap, .slice pa na ca])] ?_))))))))))))))
 rcases q5 : alB now ts rs with _ | _
 ·
  refine cD (.int .i64 280) (fun args w => Tryz.call36 args w) (fun w hw => by have := acheck_t now p n cap ts pa na ca rs w (hts.kept hw.below) hn (by omega) (hrs.kept hw.below) hna (by omega); rw [q5] at this; exact this) (qo0 1 [] [1, 2, 3, 6] [(8, .int .i64 280)] (on_ (ds_ (sq_ (qa0 [] [1, 2, 3, 6, 8] [(14, .bool true)] (ds_ (t_ (sq_ (qa0 [(2, .go (owns 0 0 3))] [6] [(7, .int .i64 280)] (ds_ (bk (owns 0 0 3) (.tuple #[.agg #[.int .i64 0, .slice none 0 0, .slice none 0 0], .int .i64 280]) (qo0 4 [(6, .go (owns 2 0 3))] [6] [(7, .int .i64 280)] (on_ (ds_ (rt (owns 2 0 3) (.tuple #[.agg #[.int .i64 0, .slice none 0 0, .slice none 0 0], .int .i64 280]) ?_)))))))))))))))
  exact fun w' hw => by rw [sleepV_bad q5]; exact ⟨none, 0, 0, [], none, 0, 0, [], rfl, SlO.nil, SlO.nil, hw.below, hw.sub (List.nil_sublist _)⟩
 ·
  refine cD (.int .i64 0) (fun args w => Tryz.call36 args w) (fun w hw => by have := acheck_t now p n cap ts pa na ca rs w (hts.kept hw.below) hn (by omega) (hrs.kept hw.below) hna (by omega); rw [q5] at this; exact this) (qo0 1 [] [1, 2, 3, 6] [(8, .int .i64 0)] (on_ (ds_ (sq_ (qa0 [] [1, 2, 3, 6, 8] [(14, .bool false)] (ds_ (f_ (at_skip (ds_ (sq_ (sq_ (ao_ (qo0 1 [] [2, 3, 6] [(17, .int .i64 k)] ?_)))))))))))))
  rcases q13 : vcB k with _ | _
  ·
   refine cD (.bool false) (fun args w => Tryz.call56 args w) (fun w hw => by have := vc_t k w; rw [q13] at this; exact this) (qo0 1 [] [2, 3, 6] [(19, .bool true)] (on_ (ds_ (t_ (sq_ (qa0 [(1, .go (owns 0 0 3))] [6] [(7, .int .i64 2)] (ds_ (bk (owns 0 0 3) (.tuple #[.agg #[.int .i64 0, .slice none 0 0, .slice none 0 0], .int .i64 2]) (qo0 4 [(6, .go (owns 2 0 3))] [6] [(7, .int .i64 2)] (on_ (ds_ (rt (owns 2 0 3) (.tuple #[.agg #[.int .i64 0, .slice none 0 0, .slice none 0 0], .int .i64 2]) ?_))))))))))))
   exact fun w' hw => by rw [sleepV_arg q5 q13]; exact ⟨none, 0, 0, [], none, 0, 0, [], rfl, SlO.nil, SlO.nil, hw.below, hw.sub (List.nil_sublist _)⟩
  ·
   refine cD (.bool true) (fun args w => Tryz.call56 args w) (fun w hw => by have := vc_t k w; rw [q13] at this; exact this) (qo0 1 [] [2, 3, 6] [(19, .bool false)] (on_ (ds_ (f_ (at_skip (ds_ (sq_ ?_)))))))
   have hlr := (al_iff.1 q5).rl
   have hlt := (wheel_iff.1 (al_iff.1 q5).wh).len
   refine at_any (by kernel_rfl) ?_
   refine tk (m := 6) [0, 2] [] [2, 3, 6] [(21, .pointer (some ⟨γ3 0, 0, none⟩)), (23, .pointer (some ⟨γ3 0, 2, none⟩))] ([]) #[true, false, true, false, false, false, false, false] al0 ?_
   refine any_cutX (V := (List Ob) × (Nat) × (Option Addr) × (Nat → Nat)) (fun ⟨Y101, cq101, q101, γ141⟩ => SlO 32 Y101 q101 na cq101 rs) 0 #[true, true, true, true, true, true, true, true] (fun ⟨Y101, cq101, q101, γ141⟩ => [(2, .func (.func 41) #[] #[.pointer (some ⟨γ1 1, 0, none⟩), .pointer (some ⟨γ1 2, 0, none⟩)]), (3, .pointer (some ⟨γ3 0, 0, none⟩)), (6, .pointer (some ⟨γ3 1, 0, none⟩)), (9, .pointer (some ⟨γ141 0, 0, none⟩))]) (fun ⟨Y101, cq101, q101, γ141⟩ => bx (γ141 0) (#[.int .i64 now, .slice p n cap, .slice q101 na cq101]) 27 :: bx (γ3 1) (#[.int .i64 0, .slice none 0 0, .slice none 0 0]) 27 :: bx (γ3 0) (#[.int .i64 now, .slice p n cap, .slice pa na ca]) 27 :: bx (γ1 3) (#[.int .i64 0, .slice none 0 0, .slice none 0 0]) 27 :: bx (γ1 2) (#[.int .i64 at_]) 2 :: bx (γ1 1) (#[.int .i64 k]) 3 :: bx (γ1 0) (#[.int .i64 now, .slice p n cap, .slice pa na ca]) 27 :: (Y101 ++ [])) ?_ (fun hmx12 => ?_)
   rotate_left
   ·
    refine any_cutX (V := (List Ob) × (Nat) × (Option Addr) × (Nat → Nat)) (fun ⟨Y101, cq101, q101, γ141⟩ => SlO 32 Y101 q101 na cq101 rs) 1 #[true, true, true, true, true, true, true, false] (fun ⟨Y101, cq101, q101, γ141⟩ => [(2, .func (.func 41) #[] #[.pointer (some ⟨γ1 1, 0, none⟩), .pointer (some ⟨γ1 2, 0, none⟩)]), (3, .pointer (some ⟨γ3 0, 0, none⟩)), (6, .pointer (some ⟨γ3 1, 0, none⟩)), (9, .pointer (some ⟨γ141 0, 0, none⟩)), (26, .agg #[.int .i64 now, .slice p n cap, .slice q101 na cq101])]) (fun ⟨Y101, cq101, q101, γ141⟩ => bx (γ141 0) (#[.int .i64 0, .slice none 0 0, .slice none 0 0]) 27 :: bx (γ3 1) (#[.int .i64 0, .slice none 0 0, .slice none 0 0]) 27 :: bx (γ3 0) (#[.int .i64 now, .slice p n cap, .slice pa na ca]) 27 :: bx (γ1 3) (#[.int .i64 0, .slice none 0 0, .slice none 0 0]) 27 :: bx (γ1 2) (#[.int .i64 at_]) 2 :: bx (γ1 1) (#[.int .i64 k]) 3 :: bx (γ1 0) (#[.int .i64 now, .slice p n cap, .slice pa na ca]) 27 :: (Y101 ++ [])) ?_ (fun hmx11 => ?_)
    ·
     rintro ⟨Y101, cq101, q101, γ141⟩ hO101
     refine a1 7 rfl ?_
     refine mo0 1 [(7, .go (owns 0 0 3))] [2, 3, 6, 9] (fun _ => []) (fun _ L => (L.set 0 (bx (γ141 0) (#[.int .i64 now, .slice p n cap, .slice q101 na cq101]) 27))) (fun _ => ?_)
     refine od_ ?_
     exact wk (hmx12 (Y101, cq101, q101, γ141) hO101) [2, 3, 6, 9] [[_], [_], [_], [_], [_], [_], [_], _] [0, 1, 2, 3, 4, 5, 6, 7] rfl rfl
    refine any_cutX (V := (List Ob) × (Nat) × (Option Addr)) (fun ⟨Y101, cq101, q101⟩ => SlO 32 Y101 q101 na cq101 rs) 2 #[true, true, true, true, true, true, false, false] (fun ⟨Y101, cq101, q101⟩ => [(2, .func (.func 41) #[] #[.pointer (some ⟨γ1 1, 0, none⟩), .pointer (some ⟨γ1 2, 0, none⟩)]), (3, .pointer (some ⟨γ3 0, 0, none⟩)), (6, .pointer (some ⟨γ3 1, 0, none⟩)), (26, .agg #[.int .i64 now, .slice p n cap, .slice q101 na cq101])]) (fun ⟨Y101, cq101, q101⟩ => bx (γ3 1) (#[.int .i64 0, .slice none 0 0, .slice none 0 0]) 27 :: bx (γ3 0) (#[.int .i64 now, .slice p n cap, .slice pa na ca]) 27 :: bx (γ1 3) (#[.int .i64 0, .slice none 0 0, .slice none 0 0]) 27 :: bx (γ1 2) (#[.int .i64 at_]) 2 :: bx (γ1 1) (#[.int .i64 k]) 3 :: bx (γ1 0) (#[.int .i64 now, .slice p n cap, .slice pa na ca]) 27 :: (Y101 ++ [])) ?_ (fun hmx10 => ?_)
    ·
     rintro ⟨Y101, cq101, q101⟩ hO101
     refine a1 6 rfl ?_
     refine mo0 1 [] [2, 3, 6, 26] (fun γ141 => [(9, .pointer (some ⟨γ141 0, 0, none⟩))]) (fun γ141 L => bx (γ141 0) (#[.int .i64 0, .slice none 0 0, .slice none 0 0]) 27 :: L) (fun γ141 => ?_)
     refine od_ ?_
     exact wk (hmx11 (Y101, cq101, q101, γ141) hO101) [2, 3, 6, 9, 26] [[_], [_], [_], [_], [_], [_], [_], _] [0, 1, 2, 3, 4, 5, 6, 7] rfl rfl
    refine any_cutX (V := (List Ob) × (Nat) × (Option Addr) × (Nat → Nat)) (fun ⟨Y101, cq101, q101, γ141⟩ => SlO 32 Y101 q101 na cq101 rs) 3 #[true, false, true, true, true, false, true, false] (fun ⟨Y101, cq101, q101, γ141⟩ => [(2, .func (.func 41) #[] #[.pointer (some ⟨γ1 1, 0, none⟩), .pointer (some ⟨γ1 2, 0, none⟩)]), (3, .pointer (some ⟨γ3 0, 0, none⟩)), (6, .pointer (some ⟨γ3 1, 0, none⟩)), (9, .pointer (some ⟨γ141 0, 0, none⟩)), (21, .pointer (some ⟨γ3 0, 0, none⟩)), (25, .slice q101 na cq101)]) (fun ⟨Y101, cq101, q101, γ141⟩ => bx (γ141 0) (#[.int .i64 0, .slice none 0 0, .slice none 0 0]) 27 :: bx (γ3 1) (#[.int .i64 0, .slice none 0 0, .slice none 0 0]) 27 :: bx (γ3 0) (#[.int .i64 now, .slice p n cap, .slice pa na ca]) 27 :: bx (γ1 3) (#[.int .i64 0, .slice none 0 0, .slice none 0 0]) 27 :: bx (γ1 2) (#[.int .i64 at_]) 2 :: bx (γ1 1) (#[.int .i64 k]) 3 :: bx (γ1 0) (#[.int .i64 now, .slice p n cap, .slice pa na ca]) 27 :: (Y101 ++ [])) ?_ (fun hmx9 => ?_)
    ·
     rintro ⟨Y101, cq101, q101, γ141⟩ hO101
     refine a1 1 rfl ?_
     refine qo0 1 [(1, .go (owns 2 0 2))] [2, 3, 6, 9, 25] [(22, .agg #[.int .i64 now, .slice p n cap])] ?_
     refine od_ ?_
     refine tk (m := 1) [5] [] [2, 3, 6, 9] [(26, .agg #[.int .i64 now, .slice p n cap, .slice q101 na cq101])] ([]) #[true, true, true, true, true, true, true, false] al0 ?_
     exact wk (hmx11 (Y101, cq101, q101, γ141) hO101) [2, 3, 6, 9, 26] [[_], [_], [_], [_], [_], [_], [_], _] [0, 1, 2, 3, 4, 5, 6, 7] rfl rfl
    refine any_cutX (V := (Nat → Nat)) (fun γ141 => True) 3 #[true, true, true, true, false, false, true, false] (fun γ141 => [(2, .func (.func 41) #[] #[.pointer (some ⟨γ1 1, 0, none⟩), .pointer (some ⟨γ1 2, 0, none⟩)]), (3, .pointer (some ⟨γ3 0, 0, none⟩)), (6, .pointer (some ⟨γ3 1, 0, none⟩)), (9, .pointer (some ⟨γ141 0, 0, none⟩)), (22, .agg #[.int .i64 now, .slice p n cap]), (24, .slice pa na ca)]) (fun γ141 => [bx (γ141 0) (#[.int .i64 0, .slice none 0 0, .slice none 0 0]) 27, bx (γ3 1) (#[.int .i64 0, .slice none 0 0, .slice none 0 0]) 27, bx (γ3 0) (#[.int .i64 now, .slice p n cap, .slice pa na ca]) 27, bx (γ1 3) (#[.int .i64 0, .slice none 0 0, .slice none 0 0]) 27, bx (γ1 2) (#[.int .i64 at_]) 2, bx (γ1 1) (#[.int .i64 k]) 3, bx (γ1 0) (#[.int .i64 now, .slice p n cap, .slice pa na ca]) 27]) ?_ (fun hmx8 => ?_)
    ·
     rintro γ141 _
     refine a1 4 rfl ?_
     refine cP (fun v L' => ∃ q_ c_ Y_, v = .slice q_ na c_ ∧ L' = List.take 7 ([bx (γ141 0) (#[.int .i64 0, .slice none 0 0, .slice none 0 0]) 27, bx (γ3 1) (#[.int .i64 0, .slice none 0 0, .slice none 0 0]) 27, bx (γ3 0) (#[.int .i64 now, .slice p n cap, .slice pa na ca]) 27, bx (γ1 3) (#[.int .i64 0, .slice none 0 0, .slice none 0 0]) 27, bx (γ1 2) (#[.int .i64 at_]) 2, bx (γ1 1) (#[.int .i64 k]) 3, bx (γ1 0) (#[.int .i64 now, .slice p n cap, .slice pa na ca]) 27]) ++ (Y_ ++ List.drop 7 ([bx (γ141 0) (#[.int .i64 0, .slice none 0 0, .slice none 0 0]) 27, bx (γ3 1) (#[.int .i64 0, .slice none 0 0, .slice none 0 0]) 27, bx (γ3 0) (#[.int .i64 now, .slice p n cap, .slice pa na ca]) 27, bx (γ1 3) (#[.int .i64 0, .slice none 0 0, .slice none 0 0]) 27, bx (γ1 2) (#[.int .i64 at_]) 2, bx (γ1 1) (#[.int .i64 k]) 3, bx (γ1 0) (#[.int .i64 now, .slice p n cap, .slice pa na ca]) 27])) ∧ SlO 32 Y_ q_ na c_ rs) (fun args w => Tryz.call57 args w) (fun w hw => (aclone_t pa na ca rs w (hrs.kept hw.below) hna (by omega)).mono fun e w' ⟨q_, c_, Y_, he, hO, hb, hY⟩ => ⟨_, _, he, ⟨q_, c_, Y_, rfl, rfl, hO⟩, hw.join hb hY 7⟩) ?_
     rintro v101 L101 ⟨q101, cq101, Y101, rfl, rfl, hO101⟩
     refine od_ ?_
     refine tk (m := 1) [5] [] [2, 3, 6, 9] [(26, .agg #[.int .i64 now, .slice p n cap, .slice q101 na cq101])] ([]) #[true, true, true, true, true, true, true, false] al0 ?_
     exact wk (hmx11 (Y101, cq101, q101, γ141) hO101) [2, 3, 6, 9, 26] [[_], [_], [_], [_], [_], [_], [_], _] [0, 1, 2, 3, 4, 5, 6, 7] rfl rfl
    refine any_cutX (V := (Nat → Nat)) (fun γ141 => True) 4 #[true, false, true, true, false, false, true, false] (fun γ141 => [(2, .func (.func 41) #[] #[.pointer (some ⟨γ1 1, 0, none⟩), .pointer (some ⟨γ1 2, 0, none⟩)]), (3, .pointer (some ⟨γ3 0, 0, none⟩)), (6, .pointer (some ⟨γ3 1, 0, none⟩)), (9, .pointer (some ⟨γ141 0, 0, none⟩)), (21, .pointer (some ⟨γ3 0, 0, none⟩)), (24, .slice pa na ca)]) (fun γ141 => [bx (γ141 0) (#[.int .i64 0, .slice none 0 0, .slice none 0 0]) 27, bx (γ3 1) (#[.int .i64 0, .slice none 0 0, .slice none 0 0]) 27, bx (γ3 0) (#[.int .i64 now, .slice p n cap, .slice pa na ca]) 27, bx (γ1 3) (#[.int .i64 0, .slice none 0 0, .slice none 0 0]) 27, bx (γ1 2) (#[.int .i64 at_]) 2, bx (γ1 1) (#[.int .i64 k]) 3, bx (γ1 0) (#[.int .i64 now, .slice p n cap, .slice pa na ca]) 27]) ?_ (fun hmx7 => ?_)
    ·
     rintro γ141 _
     refine any_fork [1, 4] (by kernel_rfl) (by simp) (each_cons _ rfl ?_ (each_cons _ rfl ?_ (each_nil)))
     ·
      refine qo0 1 [(1, .go (owns 2 0 2))] [2, 3, 6, 9, 24] [(22, .agg #[.int .i64 now, .slice p n cap])] ?_
      refine od_ ?_
      exact wk (hmx8 γ141 trivial) [2, 3, 6, 9, 22, 24] [[_], [_], [_], [_], [_], [_], [_]] [0, 1, 2, 3, 4, 5, 6] rfl rfl
     ·
      refine cP (fun v L' => ∃ q_ c_ Y_, v = .slice q_ na c_ ∧ L' = List.take 7 ([bx (γ141 0) (#[.int .i64 0, .slice none 0 0, .slice none 0 0]) 27, bx (γ3 1) (#[.int .i64 0, .slice none 0 0, .slice none 0 0]) 27, bx (γ3 0) (#[.int .i64 now, .slice p n cap, .slice pa na ca]) 27, bx (γ1 3) (#[.int .i64 0, .slice none 0 0, .slice none 0 0]) 27, bx (γ1 2) (#[.int .i64 at_]) 2, bx (γ1 1) (#[.int .i64 k]) 3, bx (γ1 0) (#[.int .i64 now, .slice p n cap, .slice pa na ca]) 27]) ++ (Y_ ++ List.drop 7 ([bx (γ141 0) (#[.int .i64 0, .slice none 0 0, .slice none 0 0]) 27, bx (γ3 1) (#[.int .i64 0, .slice none 0 0, .slice none 0 0]) 27, bx (γ3 0) (#[.int .i64 now, .slice p n cap, .slice pa na ca]) 27, bx (γ1 3) (#[.int .i64 0, .slice none 0 0, .slice none 0 0]) 27, bx (γ1 2) (#[.int .i64 at_]) 2, bx (γ1 1) (#[.int .i64 k]) 3, bx (γ1 0) (#[.int .i64 now, .slice p n cap, .slice pa na ca]) 27])) ∧ SlO 32 Y_ q_ na c_ rs) (fun args w => Tryz.call57 args w) (fun w hw => (aclone_t pa na ca rs w (hrs.kept hw.below) hna (by omega)).mono fun e w' ⟨q_, c_, Y_, he, hO, hb, hY⟩ => ⟨_, _, he, ⟨q_, c_, Y_, rfl, rfl, hO⟩, hw.join hb hY 7⟩) ?_
      rintro v101 L101 ⟨q101, cq101, Y101, rfl, rfl, hO101⟩
      refine od_ ?_
      exact wk (hmx9 (Y101, cq101, q101, γ141) hO101) [2, 3, 6, 9, 21, 25] [[_], [_], [_], [_], [_], [_], [_], _] [0, 1, 2, 3, 4, 5, 6, 7] rfl rfl
    refine any_cutX (V := (List Ob) × (Nat) × (Option Addr)) (fun ⟨Y101, cq101, q101⟩ => SlO 32 Y101 q101 na cq101 rs) 4 #[true, false, true, true, true, false, false, false] (fun ⟨Y101, cq101, q101⟩ => [(2, .func (.func 41) #[] #[.pointer (some ⟨γ1 1, 0, none⟩), .pointer (some ⟨γ1 2, 0, none⟩)]), (3, .pointer (some ⟨γ3 0, 0, none⟩)), (6, .pointer (some ⟨γ3 1, 0, none⟩)), (21, .pointer (some ⟨γ3 0, 0, none⟩)), (25, .slice q101 na cq101)]) (fun ⟨Y101, cq101, q101⟩ => bx (γ3 1) (#[.int .i64 0, .slice none 0 0, .slice none 0 0]) 27 :: bx (γ3 0) (#[.int .i64 now, .slice p n cap, .slice pa na ca]) 27 :: bx (γ1 3) (#[.int .i64 0, .slice none 0 0, .slice none 0 0]) 27 :: bx (γ1 2) (#[.int .i64 at_]) 2 :: bx (γ1 1) (#[.int .i64 k]) 3 :: bx (γ1 0) (#[.int .i64 now, .slice p n cap, .slice pa na ca]) 27 :: (Y101 ++ [])) ?_ (fun hmx6 => ?_)
    ·
     rintro ⟨Y101, cq101, q101⟩ hO101
     refine any_fork [1, 6] (by kernel_rfl) (by simp) (each_cons _ rfl ?_ (each_cons _ rfl ?_ (each_nil)))
     ·
      refine qo0 1 [(1, .go (owns 1 0 2))] [2, 3, 6, 25] [(22, .agg #[.int .i64 now, .slice p n cap])] ?_
      refine od_ ?_
      refine tk (m := 2) [5] [] [2, 3, 6] [(26, .agg #[.int .i64 now, .slice p n cap, .slice q101 na cq101])] ([]) #[true, true, true, true, true, true, false, false] al0 ?_
      exact wk (hmx10 (Y101, cq101, q101) hO101) [2, 3, 6, 26] [[_], [_], [_], [_], [_], [_], _] [0, 1, 2, 3, 4, 5, 6] rfl rfl
     ·
      refine mo0 1 [] [2, 3, 6, 21, 25] (fun γ141 => [(9, .pointer (some ⟨γ141 0, 0, none⟩))]) (fun γ141 L => bx (γ141 0) (#[.int .i64 0, .slice none 0 0, .slice none 0 0]) 27 :: L) (fun γ141 => ?_)
      refine od_ ?_
      exact wk (hmx9 (Y101, cq101, q101, γ141) hO101) [2, 3, 6, 9, 21, 25] [[_], [_], [_], [_], [_], [_], [_], _] [0, 1, 2, 3, 4, 5, 6, 7] rfl rfl
    refine any_cutX (V := (Nat → Nat)) (fun γ141 => True) 4 #[true, true, true, false, false, false, true, false] (fun γ141 => [(2, .func (.func 41) #[] #[.pointer (some ⟨γ1 1, 0, none⟩), .pointer (some ⟨γ1 2, 0, none⟩)]), (3, .pointer (some ⟨γ3 0, 0, none⟩)), (6, .pointer (some ⟨γ3 1, 0, none⟩)), (9, .pointer (some ⟨γ141 0, 0, none⟩)), (22, .agg #[.int .i64 now, .slice p n cap]), (23, .pointer (some ⟨γ3 0, 2, none⟩))]) (fun γ141 => [bx (γ141 0) (#[.int .i64 0, .slice none 0 0, .slice none 0 0]) 27, bx (γ3 1) (#[.int .i64 0, .slice none 0 0, .slice none 0 0]) 27, bx (γ3 0) (#[.int .i64 now, .slice p n cap, .slice pa na ca]) 27, bx (γ1 3) (#[.int .i64 0, .slice none 0 0, .slice none 0 0]) 27, bx (γ1 2) (#[.int .i64 at_]) 2, bx (γ1 1) (#[.int .i64 k]) 3, bx (γ1 0) (#[.int .i64 now, .slice p n cap, .slice pa na ca]) 27]) ?_ (fun hmx5 => ?_)
    ·
     rintro γ141 _
     refine a1 3 rfl ?_
     refine qo0 1 [(3, .go (owns 2 2 1))] [2, 3, 6, 9, 22] [(24, .slice pa na ca)] ?_
     refine od_ ?_
     exact wk (hmx8 γ141 trivial) [2, 3, 6, 9, 22, 24] [[_], [_], [_], [_], [_], [_], [_]] [0, 1, 2, 3, 4, 5, 6] rfl rfl
    refine any_cutX (V := Unit) (fun _ => True) 4 #[true, true, true, true, false, false, false, false] (fun _ => [(2, .func (.func 41) #[] #[.pointer (some ⟨γ1 1, 0, none⟩), .pointer (some ⟨γ1 2, 0, none⟩)]), (3, .pointer (some ⟨γ3 0, 0, none⟩)), (6, .pointer (some ⟨γ3 1, 0, none⟩)), (22, .agg #[.int .i64 now, .slice p n cap]), (24, .slice pa na ca)]) (fun _ => [bx (γ3 1) (#[.int .i64 0, .slice none 0 0, .slice none 0 0]) 27, bx (γ3 0) (#[.int .i64 now, .slice p n cap, .slice pa na ca]) 27, bx (γ1 3) (#[.int .i64 0, .slice none 0 0, .slice none 0 0]) 27, bx (γ1 2) (#[.int .i64 at_]) 2, bx (γ1 1) (#[.int .i64 k]) 3, bx (γ1 0) (#[.int .i64 now, .slice p n cap, .slice pa na ca]) 27]) ?_ (fun hmx4 => ?_)
    ·
     rintro _ _
     refine any_fork [4, 6] (by kernel_rfl) (by simp) (each_cons _ rfl ?_ (each_cons _ rfl ?_ (each_nil)))
     ·
      refine cP (fun v L' => ∃ q_ c_ Y_, v = .slice q_ na c_ ∧ L' = List.take 6 ([bx (γ3 1) (#[.int .i64 0, .slice none 0 0, .slice none 0 0]) 27, bx (γ3 0) (#[.int .i64 now, .slice p n cap, .slice pa na ca]) 27, bx (γ1 3) (#[.int .i64 0, .slice none 0 0, .slice none 0 0]) 27, bx (γ1 2) (#[.int .i64 at_]) 2, bx (γ1 1) (#[.int .i64 k]) 3, bx (γ1 0) (#[.int .i64 now, .slice p n cap, .slice pa na ca]) 27]) ++ (Y_ ++ List.drop 6 ([bx (γ3 1) (#[.int .i64 0, .slice none 0 0, .slice none 0 0]) 27, bx (γ3 0) (#[.int .i64 now, .slice p n cap, .slice pa na ca]) 27, bx (γ1 3) (#[.int .i64 0, .slice none 0 0, .slice none 0 0]) 27, bx (γ1 2) (#[.int .i64 at_]) 2, bx (γ1 1) (#[.int .i64 k]) 3, bx (γ1 0) (#[.int .i64 now, .slice p n cap, .slice pa na ca]) 27])) ∧ SlO 32 Y_ q_ na c_ rs) (fun args w => Tryz.call57 args w) (fun w hw => (aclone_t pa na ca rs w (hrs.kept hw.below) hna (by omega)).mono fun e w' ⟨q_, c_, Y_, he, hO, hb, hY⟩ => ⟨_, _, he, ⟨q_, c_, Y_, rfl, rfl, hO⟩, hw.join hb hY 6⟩) ?_
      rintro v101 L101 ⟨q101, cq101, Y101, rfl, rfl, hO101⟩
      refine od_ ?_
      refine tk (m := 2) [5] [] [2, 3, 6] [(26, .agg #[.int .i64 now, .slice p n cap, .slice q101 na cq101])] ([]) #[true, true, true, true, true, true, false, false] al0 ?_
      exact wk (hmx10 (Y101, cq101, q101) hO101) [2, 3, 6, 26] [[_], [_], [_], [_], [_], [_], _] [0, 1, 2, 3, 4, 5, 6] rfl rfl
     ·
      refine mo0 1 [] [2, 3, 6, 22, 24] (fun γ141 => [(9, .pointer (some ⟨γ141 0, 0, none⟩))]) (fun γ141 L => bx (γ141 0) (#[.int .i64 0, .slice none 0 0, .slice none 0 0]) 27 :: L) (fun γ141 => ?_)
      refine od_ ?_
      exact wk (hmx8 γ141 trivial) [2, 3, 6, 9, 22, 24] [[_], [_], [_], [_], [_], [_], [_]] [0, 1, 2, 3, 4, 5, 6] rfl rfl
    refine any_cutX (V := (Nat → Nat)) (fun γ141 => True) 5 #[true, false, true, false, false, false, true, false] (fun γ141 => [(2, .func (.func 41) #[] #[.pointer (some ⟨γ1 1, 0, none⟩), .pointer (some ⟨γ1 2, 0, none⟩)]), (3, .pointer (some ⟨γ3 0, 0, none⟩)), (6, .pointer (some ⟨γ3 1, 0, none⟩)), (9, .pointer (some ⟨γ141 0, 0, none⟩)), (21, .pointer (some ⟨γ3 0, 0, none⟩)), (23, .pointer (some ⟨γ3 0, 2, none⟩))]) (fun γ141 => [bx (γ141 0) (#[.int .i64 0, .slice none 0 0, .slice none 0 0]) 27, bx (γ3 1) (#[.int .i64 0, .slice none 0 0, .slice none 0 0]) 27, bx (γ3 0) (#[.int .i64 now, .slice p n cap, .slice pa na ca]) 27, bx (γ1 3) (#[.int .i64 0, .slice none 0 0, .slice none 0 0]) 27, bx (γ1 2) (#[.int .i64 at_]) 2, bx (γ1 1) (#[.int .i64 k]) 3, bx (γ1 0) (#[.int .i64 now, .slice p n cap, .slice pa na ca]) 27]) ?_ (fun hmx3 => ?_)
    ·
     rintro γ141 _
     refine any_fork [1, 3] (by kernel_rfl) (by simp) (each_cons _ rfl ?_ (each_cons _ rfl ?_ (each_nil)))
     ·
      refine qo0 1 [(1, .go (owns 2 0 2))] [2, 3, 6, 9, 23] [(22, .agg #[.int .i64 now, .slice p n cap])] ?_
      refine od_ ?_
      exact wk (hmx5 γ141 trivial) [2, 3, 6, 9, 22, 23] [[_], [_], [_], [_], [_], [_], [_]] [0, 1, 2, 3, 4, 5, 6] rfl rfl
     ·
      refine qo0 1 [(3, .go (owns 2 2 1))] [2, 3, 6, 9, 21] [(24, .slice pa na ca)] ?_
      refine od_ ?_
      exact wk (hmx7 γ141 trivial) [2, 3, 6, 9, 21, 24] [[_], [_], [_], [_], [_], [_], [_]] [0, 1, 2, 3, 4, 5, 6] rfl rfl
    refine any_cutX (V := Unit) (fun _ => True) 5 #[true, false, true, true, false, false, false, false] (fun _ => [(2, .func (.func 41) #[] #[.pointer (some ⟨γ1 1, 0, none⟩), .pointer (some ⟨γ1 2, 0, none⟩)]), (3, .pointer (some ⟨γ3 0, 0, none⟩)), (6, .pointer (some ⟨γ3 1, 0, none⟩)), (21, .pointer (some ⟨γ3 0, 0, none⟩)), (24, .slice pa na ca)]) (fun _ => [bx (γ3 1) (#[.int .i64 0, .slice none 0 0, .slice none 0 0]) 27, bx (γ3 0) (#[.int .i64 now, .slice p n cap, .slice pa na ca]) 27, bx (γ1 3) (#[.int .i64 0, .slice none 0 0, .slice none 0 0]) 27, bx (γ1 2) (#[.int .i64 at_]) 2, bx (γ1 1) (#[.int .i64 k]) 3, bx (γ1 0) (#[.int .i64 now, .slice p n cap, .slice pa na ca]) 27]) ?_ (fun hmx2 => ?_)
    ·
     rintro _ _
     refine any_fork [1, 4, 6] (by kernel_rfl) (by simp) (each_cons _ rfl ?_ (each_cons _ rfl ?_ (each_cons _ rfl ?_ (each_nil))))
     ·
      refine qo0 1 [(1, .go (owns 1 0 2))] [2, 3, 6, 24] [(22, .agg #[.int .i64 now, .slice p n cap])] ?_
      refine od_ ?_
      exact wk (hmx4 () trivial) [2, 3, 6, 22, 24] [[_], [_], [_], [_], [_], [_]] [0, 1, 2, 3, 4, 5] rfl rfl
     ·
      refine cP (fun v L' => ∃ q_ c_ Y_, v = .slice q_ na c_ ∧ L' = List.take 6 ([bx (γ3 1) (#[.int .i64 0, .slice none 0 0, .slice none 0 0]) 27, bx (γ3 0) (#[.int .i64 now, .slice p n cap, .slice pa na ca]) 27, bx (γ1 3) (#[.int .i64 0, .slice none 0 0, .slice none 0 0]) 27, bx (γ1 2) (#[.int .i64 at_]) 2, bx (γ1 1) (#[.int .i64 k]) 3, bx (γ1 0) (#[.int .i64 now, .slice p n cap, .slice pa na ca]) 27]) ++ (Y_ ++ List.drop 6 ([bx (γ3 1) (#[.int .i64 0, .slice none 0 0, .slice none 0 0]) 27, bx (γ3 0) (#[.int .i64 now, .slice p n cap, .slice pa na ca]) 27, bx (γ1 3) (#[.int .i64 0, .slice none 0 0, .slice none 0 0]) 27, bx (γ1 2) (#[.int .i64 at_]) 2, bx (γ1 1) (#[.int .i64 k]) 3, bx (γ1 0) (#[.int .i64 now, .slice p n cap, .slice pa na ca]) 27])) ∧ SlO 32 Y_ q_ na c_ rs) (fun args w => Tryz.call57 args w) (fun w hw => (aclone_t pa na ca rs w (hrs.kept hw.below) hna (by omega)).mono fun e w' ⟨q_, c_, Y_, he, hO, hb, hY⟩ => ⟨_, _, he, ⟨q_, c_, Y_, rfl, rfl, hO⟩, hw.join hb hY 6⟩) ?_
      rintro v101 L101 ⟨q101, cq101, Y101, rfl, rfl, hO101⟩
      refine od_ ?_
      exact wk (hmx6 (Y101, cq101, q101) hO101) [2, 3, 6, 21, 25] [[_], [_], [_], [_], [_], [_], _] [0, 1, 2, 3, 4, 5, 6] rfl rfl
     ·
      refine mo0 1 [] [2, 3, 6, 21, 24] (fun γ141 => [(9, .pointer (some ⟨γ141 0, 0, none⟩))]) (fun γ141 L => bx (γ141 0) (#[.int .i64 0, .slice none 0 0, .slice none 0 0]) 27 :: L) (fun γ141 => ?_)
      refine od_ ?_
      exact wk (hmx7 γ141 trivial) [2, 3, 6, 9, 21, 24] [[_], [_], [_], [_], [_], [_], [_]] [0, 1, 2, 3, 4, 5, 6] rfl rfl
    refine any_cutX (V := Unit) (fun _ => True) 5 #[true, true, true, false, false, false, false, false] (fun _ => [(2, .func (.func 41) #[] #[.pointer (some ⟨γ1 1, 0, none⟩), .pointer (some ⟨γ1 2, 0, none⟩)]), (3, .pointer (some ⟨γ3 0, 0, none⟩)), (6, .pointer (some ⟨γ3 1, 0, none⟩)), (22, .agg #[.int .i64 now, .slice p n cap]), (23, .pointer (some ⟨γ3 0, 2, none⟩))]) (fun _ => [bx (γ3 1) (#[.int .i64 0, .slice none 0 0, .slice none 0 0]) 27, bx (γ3 0) (#[.int .i64 now, .slice p n cap, .slice pa na ca]) 27, bx (γ1 3) (#[.int .i64 0, .slice none 0 0, .slice none 0 0]) 27, bx (γ1 2) (#[.int .i64 at_]) 2, bx (γ1 1) (#[.int .i64 k]) 3, bx (γ1 0) (#[.int .i64 now, .slice p n cap, .slice pa na ca]) 27]) ?_ (fun hmx1 => ?_)
    ·
     rintro _ _
     refine any_fork [3, 6] (by kernel_rfl) (by simp) (each_cons _ rfl ?_ (each_cons _ rfl ?_ (each_nil)))
     ·
      refine qo0 1 [(3, .go (owns 1 2 1))] [2, 3, 6, 22] [(24, .slice pa na ca)] ?_
      refine od_ ?_
      exact wk (hmx4 () trivial) [2, 3, 6, 22, 24] [[_], [_], [_], [_], [_], [_]] [0, 1, 2, 3, 4, 5] rfl rfl
     ·
      refine mo0 1 [] [2, 3, 6, 22, 23] (fun γ141 => [(9, .pointer (some ⟨γ141 0, 0, none⟩))]) (fun γ141 L => bx (γ141 0) (#[.int .i64 0, .slice none 0 0, .slice none 0 0]) 27 :: L) (fun γ141 => ?_)
      refine od_ ?_
      exact wk (hmx5 γ141 trivial) [2, 3, 6, 9, 22, 23] [[_], [_], [_], [_], [_], [_], [_]] [0, 1, 2, 3, 4, 5, 6] rfl rfl
    refine any_fork [1, 3, 6] (by kernel_rfl) (by simp) (each_cons _ rfl ?_ (each_cons _ rfl ?_ (each_cons _ rfl ?_ (each_nil))))
    ·
     refine qo0 1 [(1, .go (owns 1 0 2))] [2, 3, 6, 23] [(22, .agg #[.int .i64 now, .slice p n cap])] ?_
     refine od_ ?_
     exact wk (hmx1 () trivial) [2, 3, 6, 22, 23] [[_], [_], [_], [_], [_], [_]] [0, 1, 2, 3, 4, 5] rfl rfl
    ·
     refine qo0 1 [(3, .go (owns 1 2 1))] [2, 3, 6, 21] [(24, .slice pa na ca)] ?_
     refine od_ ?_
     exact wk (hmx2 () trivial) [2, 3, 6, 21, 24] [[_], [_], [_], [_], [_], [_]] [0, 1, 2, 3, 4, 5] rfl rfl
    ·
     refine mo0 1 [] [2, 3, 6, 21, 23] (fun γ141 => [(9, .pointer (some ⟨γ141 0, 0, none⟩))]) (fun γ141 L => bx (γ141 0) (#[.int .i64 0, .slice none 0 0, .slice none 0 0]) 27 :: L) (fun γ141 => ?_)
     refine od_ ?_
     exact wk (hmx3 γ141 trivial) [2, 3, 6, 9, 21, 23] [[_], [_], [_], [_], [_], [_], [_]] [0, 1, 2, 3, 4, 5, 6] rfl rfl
   rintro ⟨Y101, cq101, q101, γ141⟩ hO101
   refine any_nil (by kernel_rfl) ?_
   refine ds_ (sq_ (ao_ (qo0 3 [(2, .go (owns 2 1 1))] [2, 6, 9] [(29, .slice p n cap)] (cP (fun v L' => ∃ q_ c_ Y_, v = .slice q_ n c_ ∧ L' = List.take 7 (bx (γ141 0) (#[.int .i64 now, .slice p n cap, .slice q101 na cq101]) 27 :: bx (γ3 1) (#[.int .i64 0, .slice none 0 0, .slice none 0 0]) 27 :: bx (γ3 0) (#[.int .i64 now, .slice p n cap, .slice pa na ca]) 27 :: bx (γ1 3) (#[.int .i64 0, .slice none 0 0, .slice none 0 0]) 27 :: bx (γ1 2) (#[.int .i64 at_]) 2 :: bx (γ1 1) (#[.int .i64 k]) 3 :: bx (γ1 0) (#[.int .i64 now, .slice p n cap, .slice pa na ca]) 27 :: (Y101 ++ [])) ++ (Y_ ++ List.drop 7 (bx (γ141 0) (#[.int .i64 now, .slice p n cap, .slice q101 na cq101]) 27 :: bx (γ3 1) (#[.int .i64 0, .slice none 0 0, .slice none 0 0]) 27 :: bx (γ3 0) (#[.int .i64 now, .slice p n cap, .slice pa na ca]) 27 :: bx (γ1 3) (#[.int .i64 0, .slice none 0 0, .slice none 0 0]) 27 :: bx (γ1 2) (#[.int .i64 at_]) 2 :: bx (γ1 1) (#[.int .i64 k]) 3 :: bx (γ1 0) (#[.int .i64 now, .slice p n cap, .slice pa na ca]) 27 :: (Y101 ++ []))) ∧ SlO 42 Y_ q_ n c_ ts) (fun args w => Tryz.call58 args w) (fun w hw => (clone_t p n cap ts w (hts.kept hw.below) hn (by omega)).mono fun e w' ⟨q_, c_, Y_, he, hO, hb, hY⟩ => ⟨_, _, he, ⟨q_, c_, Y_, rfl, rfl, hO⟩, hw.join hb hY 7⟩) ?_))))
   rintro v227 L227 ⟨q227, cq227, Y227, rfl, rfl, hO227⟩
   refine mo0 3 [(6, .go (owns 0 1 1))] [2, 6, 9] (fun _ => []) (fun _ L => (L.set 0 (bx (γ141 0) (#[.int .i64 now, .slice q227 n cq227, .slice q101 na cq101]) 27))) (fun _ => on_ (ds_ (sq_ (sq_ ?_))))
   have hvk := of_decide_eq_true q13
   refine ao_ (qo0 1 [] [6, 9] [(33, .func (.func 41) #[] #[.pointer (some ⟨γ1 1, 0, none⟩), .pointer (some ⟨γ1 2, 0, none⟩)])] (ops_inline (g := 41) (args := #[.pointer (some ⟨γ141 0, 0, none⟩), .pointer (some ⟨γ1 1, 0, none⟩), .pointer (some ⟨γ1 2, 0, none⟩)]) (by kernel_rfl) (by kernel_rfl) (by kernel_rfl) (fun args w => Tryz.call41 args w) Tryz.func41 rfl Tryz.ntmps41 rfl (sq_ (qa0 [] [0, 1, 2] [] (ds_ (sq_ ?_))))))
   rcases q231 : decide (aheadP now at_) with _ | _
   ·
    refine at_calmTo (f := 2) 4 rfl (by kernel_rfl) (by kernel_rfl) (by kernel_rfl) (by kernel_rfl) (by kernel_rfl) (by kernel_rfl) ?_
    refine cm 2 [(1, .go (owns 5 0 1))] [2] [(5, .pointer (some ⟨γ141 0, 0, none⟩)), (6, .int .i64 k)] ([]) (by kernel_rfl) rfl al0 ?_
    refine cK (.int .i64 (15 + k)) (fun args w => Tryz.call42 args w) (fun w hw => asleep_t k w (by omega) (by omega)) ?_
    refine cm 1 [(3, .go (owns 4 0 1))] [5, 7] [(8, .int .i64 at_)] ([]) (by kernel_rfl) rfl al0 ?_
    refine calm_nil' ?_
    refine done_pre (li' := #[true, true, true, true, false, false]) (by kernel_rfl) ?_
    refine any_cutX (V := Unit) (fun _ => True) 0 #[true, true, true, true, true, true] (fun _ => [(4, .int .i64 2)]) (fun _ => bx (γ141 0) (#[.int .i64 now, .slice q227 n cq227, .slice q101 na cq101]) 27 :: bx (γ3 1) (#[.int .i64 0, .slice none 0 0, .slice none 0 0]) 27 :: bx (γ3 0) (#[.int .i64 now, .slice p n cap, .slice pa na ca]) 27 :: bx (γ1 3) (#[.int .i64 0, .slice none 0 0, .slice none 0 0]) 27 :: bx (γ1 2) (#[.int .i64 at_]) 2 :: bx (γ1 1) (#[.int .i64 k]) 3 :: bx (γ1 0) (#[.int .i64 now, .slice p n cap, .slice pa na ca]) 27 :: (Y227 ++ (Y101 ++ []))) ?_ (fun hmx1 => ?_)
    rotate_left
    ·
     refine a1 4 rfl ?_
     refine cP (fun v L' => v = .int .i64 2 ∧ L' = (bx (γ141 0) (#[.int .i64 now, .slice q227 n cq227, .slice q101 na cq101]) 27 :: [bx (γ3 1) (#[.int .i64 0, .slice none 0 0, .slice none 0 0]) 27, bx (γ3 0) (#[.int .i64 now, .slice p n cap, .slice pa na ca]) 27, bx (γ1 3) (#[.int .i64 0, .slice none 0 0, .slice none 0 0]) 27, bx (γ1 2) (#[.int .i64 at_]) 2, bx (γ1 1) (#[.int .i64 k]) 3, bx (γ1 0) (#[.int .i64 now, .slice p n cap, .slice pa na ca]) 27]) ++ (Y227 ++ ((Y101 ++ [])))) (fun args w => Tryz.call28 args w) (fun w hw => (aset_no _ ([bx (γ3 1) (#[.int .i64 0, .slice none 0 0, .slice none 0 0]) 27, bx (γ3 0) (#[.int .i64 now, .slice p n cap, .slice pa na ca]) 27, bx (γ1 3) (#[.int .i64 0, .slice none 0 0, .slice none 0 0]) 27, bx (γ1 2) (#[.int .i64 at_]) 2, bx (γ1 1) (#[.int .i64 k]) 3, bx (γ1 0) (#[.int .i64 now, .slice p n cap, .slice pa na ca]) 27] ++ ((Y101 ++ []))) Y227 (γ141 0) now q227 n cq227 q101 na cq101 ts (15 + k) at_ w (hw.pull (A := [bx (γ3 1) (#[.int .i64 0, .slice none 0 0, .slice none 0 0]) 27, bx (γ3 0) (#[.int .i64 now, .slice p n cap, .slice pa na ca]) 27, bx (γ1 3) (#[.int .i64 0, .slice none 0 0, .slice none 0 0]) 27, bx (γ1 2) (#[.int .i64 at_]) 2, bx (γ1 1) (#[.int .i64 k]) 3, bx (γ1 0) (#[.int .i64 now, .slice p n cap, .slice pa na ca]) 27]) (Y := Y227) (R := ((Y101 ++ [])))) hO227 (by omega) (al_iff.1 q5).wh (of_decide_eq_false q231)).mono fun e w' ⟨he, hY⟩ => ⟨_, _, he, ⟨rfl, rfl⟩, hY.push (A := _ :: [bx (γ3 1) (#[.int .i64 0, .slice none 0 0, .slice none 0 0]) 27, bx (γ3 0) (#[.int .i64 now, .slice p n cap, .slice pa na ca]) 27, bx (γ1 3) (#[.int .i64 0, .slice none 0 0, .slice none 0 0]) 27, bx (γ1 2) (#[.int .i64 at_]) 2, bx (γ1 1) (#[.int .i64 k]) 3, bx (γ1 0) (#[.int .i64 now, .slice p n cap, .slice pa na ca]) 27])⟩) ?_
     rintro v316 L316 ⟨rfl, rfl⟩
     refine od_ ?_
     refine tk (m := 0) [5] [] [] [(4, .int .i64 2)] ([]) #[true, true, true, true, true, true] al0 ?_
     exact wk (hmx1 () trivial) [4] [[_], [_], [_], [_], [_], [_], [_], _, _] [0, 1, 2, 3, 4, 5, 6, 7, 8] rfl rfl
    rintro _ _
    refine any_nil (by kernel_rfl) ?_
    refine ds_ (bk ([]) (.int .i64 2) (qo0 1 [] [6, 9] [(10, .int .i64 2)] (on_ (ds_ (sq_ (qa0 [] [6, 9, 10] [(36, .bool true)] (ds_ (t_ (sq_ (qa0 [(2, .go (owns 1 0 3))] [6] [(7, .int .i64 2)] (ds_ (bk (owns 1 0 3) (.tuple #[.agg #[.int .i64 0, .slice none 0 0, .slice none 0 0], .int .i64 2]) (qo0 4 [(6, .go (owns 3 0 3))] [6] [(7, .int .i64 2)] (on_ (ds_ (rt (owns 3 0 3) (.tuple #[.agg #[.int .i64 0, .slice none 0 0, .slice none 0 0], .int .i64 2]) ?_))))))))))))))))
    exact fun w' hw => by rw [sleepV_nah q5  (of_decide_eq_false q231)]; exact ⟨none, 0, 0, [], none, 0, 0, [], rfl, SlO.nil, SlO.nil, hw.below, hw.sub (List.nil_sublist _)⟩
   ·
    refine at_calmTo (f := 2) 4 rfl (by kernel_rfl) (by kernel_rfl) (by kernel_rfl) (by kernel_rfl) (by kernel_rfl) (by kernel_rfl) ?_
    refine cm 2 [(1, .go (owns 5 0 1))] [2] [(5, .pointer (some ⟨γ141 0, 0, none⟩)), (6, .int .i64 k)] ([]) (by kernel_rfl) rfl al0 ?_
    refine cK (.int .i64 (15 + k)) (fun args w => Tryz.call42 args w) (fun w hw => asleep_t k w (by omega) (by omega)) ?_
    refine cm 1 [(3, .go (owns 4 0 1))] [5, 7] [(8, .int .i64 at_)] ([]) (by kernel_rfl) rfl al0 ?_
    refine calm_nil' ?_
    refine done_pre (li' := #[true, true, true, true, false, false]) (by kernel_rfl) ?_
    refine any_cutX (V := (List Ob) × (Nat) × (Nat) × (Option Addr)) (fun ⟨Y485, cq485, m485, q485⟩ => SlO 42 Y485 q485 m485 cq485 (tput ts (15 + k) at_)) 0 #[true, true, true, true, true, true] (fun ⟨Y485, cq485, m485, q485⟩ => [(4, .int .i64 0)]) (fun ⟨Y485, cq485, m485, q485⟩ => bx (γ141 0) (#[.int .i64 now, .slice q485 m485 cq485, .slice q101 na cq101]) 27 :: bx (γ3 1) (#[.int .i64 0, .slice none 0 0, .slice none 0 0]) 27 :: bx (γ3 0) (#[.int .i64 now, .slice p n cap, .slice pa na ca]) 27 :: bx (γ1 3) (#[.int .i64 0, .slice none 0 0, .slice none 0 0]) 27 :: bx (γ1 2) (#[.int .i64 at_]) 2 :: bx (γ1 1) (#[.int .i64 k]) 3 :: bx (γ1 0) (#[.int .i64 now, .slice p n cap, .slice pa na ca]) 27 :: (Y485 ++ (Y101 ++ []))) ?_ (fun hmx1 => ?_)
    rotate_left
    ·
     refine a1 4 rfl ?_
     refine cP (fun v L' => ∃ q_ m_ c_ Y_, v = (.int .i64 0) ∧ L' = (bx (γ141 0) #[.int .i64 now, .slice q_ m_ c_, .slice q101 na cq101] 27 :: [bx (γ3 1) (#[.int .i64 0, .slice none 0 0, .slice none 0 0]) 27, bx (γ3 0) (#[.int .i64 now, .slice p n cap, .slice pa na ca]) 27, bx (γ1 3) (#[.int .i64 0, .slice none 0 0, .slice none 0 0]) 27, bx (γ1 2) (#[.int .i64 at_]) 2, bx (γ1 1) (#[.int .i64 k]) 3, bx (γ1 0) (#[.int .i64 now, .slice p n cap, .slice pa na ca]) 27]) ++ (Y_ ++ ((Y101 ++ []))) ∧ SlO 42 Y_ q_ m_ c_ (tput ts (15 + k) at_)) (fun args w => Tryz.call28 args w) (fun w hw => (aset_t _ ([bx (γ3 1) (#[.int .i64 0, .slice none 0 0, .slice none 0 0]) 27, bx (γ3 0) (#[.int .i64 now, .slice p n cap, .slice pa na ca]) 27, bx (γ1 3) (#[.int .i64 0, .slice none 0 0, .slice none 0 0]) 27, bx (γ1 2) (#[.int .i64 at_]) 2, bx (γ1 1) (#[.int .i64 k]) 3, bx (γ1 0) (#[.int .i64 now, .slice p n cap, .slice pa na ca]) 27] ++ ((Y101 ++ []))) Y227 (γ141 0) now q227 n cq227 q101 na cq101 ts (15 + k) at_ w (hw.pull (A := [bx (γ3 1) (#[.int .i64 0, .slice none 0 0, .slice none 0 0]) 27, bx (γ3 0) (#[.int .i64 now, .slice p n cap, .slice pa na ca]) 27, bx (γ1 3) (#[.int .i64 0, .slice none 0 0, .slice none 0 0]) 27, bx (γ1 2) (#[.int .i64 at_]) 2, bx (γ1 1) (#[.int .i64 k]) 3, bx (γ1 0) (#[.int .i64 now, .slice p n cap, .slice pa na ca]) 27]) (Y := Y227) (R := ((Y101 ++ [])))) hO227 (by omega) (al_iff.1 q5).wh (by omega) (by omega) (of_decide_eq_true q231)).mono fun e w' ⟨q_, m_, c_, Y_, he, hO, hY⟩ => ⟨_, _, he, ⟨q_, m_, c_, Y_, rfl, rfl, hO⟩, hY.push (A := _ :: [bx (γ3 1) (#[.int .i64 0, .slice none 0 0, .slice none 0 0]) 27, bx (γ3 0) (#[.int .i64 now, .slice p n cap, .slice pa na ca]) 27, bx (γ1 3) (#[.int .i64 0, .slice none 0 0, .slice none 0 0]) 27, bx (γ1 2) (#[.int .i64 at_]) 2, bx (γ1 1) (#[.int .i64 k]) 3, bx (γ1 0) (#[.int .i64 now, .slice p n cap, .slice pa na ca]) 27])⟩) ?_
     rintro v485 L485 ⟨q485, m485, cq485, Y485, rfl, rfl, hO485⟩
     have hm485 := hO485.len
     refine od_ ?_
     refine tk (m := 0) [5] [] [] [(4, .int .i64 0)] ([]) #[true, true, true, true, true, true] al0 ?_
     exact wk (hmx1 (Y485, cq485, m485, q485) hO485) [4] [[_], [_], [_], [_], [_], [_], [_], _, _] [0, 1, 2, 3, 4, 5, 6, 7, 8] rfl rfl
    rintro ⟨Y485, cq485, m485, q485⟩ hO485
    refine any_nil (by kernel_rfl) ?_
    refine ds_ (bk ([]) (.int .i64 0) (qo0 1 [] [6, 9] [(10, .int .i64 0)] (on_ (ds_ (sq_ (qa0 [] [6, 9, 10] [(36, .bool false)] (ds_ (f_ (at_skip (ds_ (sq_ (ma0 [(0, .go (owns 0 0 3)), (1, .go (owns 1 0 3))] [6] (fun _ => [(7, .int .i64 0)]) (fun _ L => (L.set 1 (bx (γ3 1) (#[.int .i64 now, .slice q485 m485 cq485, .slice q101 na cq101]) 27))) (fun _ => ds_ (bk (owns 1 0 3) (.tuple #[.agg #[.int .i64 now, .slice q485 m485 cq485, .slice q101 na cq101], .int .i64 0]) (mo0 4 [(6, .go (owns 3 0 3))] [6] (fun _ => [(7, .int .i64 0)]) (fun _ L => (L.set 3 (bx (γ1 3) (#[.int .i64 now, .slice q485 m485 cq485, .slice q101 na cq101]) 27))) (fun _ => on_ (ds_ (rt (owns 3 0 3) (.tuple #[.agg #[.int .i64 now, .slice q485 m485 cq485, .slice q101 na cq101], .int .i64 0]) ?_))))))))))))))))))
    exact fun w' hw => by rw [sleepV_ok q5 q13 (of_decide_eq_true q231)]; exact ⟨_, _, _, _, _, _, _, _, rfl, hO485, hO101, hw.below, two_tails (Hs.pick [[bx (γ141 0) (#[.int .i64 now, .slice q485 m485 cq485, .slice q101 na cq101]) 27], [bx (γ3 1) (#[.int .i64 now, .slice q485 m485 cq485, .slice q101 na cq101]) 27], [bx (γ3 0) (#[.int .i64 now, .slice p n cap, .slice pa na ca]) 27], [bx (γ1 3) (#[.int .i64 now, .slice q485 m485 cq485, .slice q101 na cq101]) 27], [bx (γ1 2) (#[.int .i64 at_]) 2], [bx (γ1 1) (#[.int .i64 k]) 3], [bx (γ1 0) (#[.int .i64 now, .slice p n cap, .slice pa na ca]) 27], Y485, Y101] [7, 8] [0, 1, 2, 3, 4, 5, 6] (by kernel_rfl) hw)⟩
end Go.Proofs.YtdbamgbgnpadjaaGreat

/-! Alarms: time passes; plain. -/
namespace Go.Proofs.YtdbamgbgnpadjaaGreat
open Go Go.RowKit

section
variable {now k v at_ to nx : Int} {ts : List Tim} {rs : List Alm} {x y : Alm} {t : Tim} {j : Nat}
theorem miss_zero (h : x.every = 0) : missA x at_ to = 0 := if_pos h
theorem miss_bnd (h : almB x = true) (h1 : at_ ≤ to) : 0 ≤ missA x at_ to ∧ missA x at_ to * x.every ≤ to - at_ := by
  have ha := alm_every h
  unfold missA
  by_cases h0 : x.every = 0
  · rw [if_pos h0]; omega
  · rw [if_neg h0]
    have hp : 0 < x.every := by omega
    exact ⟨Int.ediv_nonneg (by omega) (by omega), Int.ediv_mul_le _ (by omega)⟩
theorem miss_mul (h : almB x = true) (h1 : at_ ≤ to) : 0 ≤ missA x at_ to * x.every := by
  have ha := alm_every h
  exact Int.mul_nonneg (miss_bnd h h1).1 (by omega)
theorem miss_le (h : almB x = true) (h1 : at_ ≤ to) : missA x at_ to ≤ to - at_ := by
  have ha := alm_every h
  unfold missA
  by_cases h0 : x.every = 0
  · rw [if_pos h0]; omega
  · rw [if_neg h0]; exact Int.ediv_le_self _ (by omega)
theorem miss_lt (h : almB x = true) (h0 : x.every ≠ 0) (h1 : at_ ≤ to) : to < againM x at_ to := by
  have ha := alm_every h
  unfold againM missA
  rw [if_neg h0, if_neg h0]
  have hp : 0 < x.every := by omega
  have := Int.lt_ediv_add_one_mul_self (to - at_) hp
  rw [Int.add_mul, Int.one_mul] at this
  omega
theorem miss_quo (h : almB x = true) (h0 : ¬ x.every = 0) (h1 : at_ ≤ to) (h2 : 0 ≤ at_) (h3 : to ≤ 1125899906842624) : IntKind.i64.wrap (Int.tdiv (to - at_) x.every) = missA x at_ to := by
  have e : Int.tdiv (to - at_) x.every = missA x at_ to := by unfold missA; rw [if_neg h0, Int.tdiv_eq_ediv_of_nonneg (by omega)]
  have hb := miss_bnd h h1
  have hl := miss_le h h1
  rw [e, wrap_fit (fit64 (by omega) (by omega))]
theorem next_some (h : nextA x at_ to = some nx) : x.every ≠ 0 ∧ nx = againM x at_ to ∧ nx ≤ 1125899906842624 := by
  unfold nextA at h
  split at h
  · rename_i hc; cases h; exact ⟨hc.1, rfl, hc.2⟩
  · cases h
theorem next_zero (h : x.every = 0) : nextA x at_ to = none := by simp [nextA, h]
theorem next_big (h : ¬ x.every = 0) (h2 : ¬ againM x at_ to ≤ 1125899906842624) : nextA x at_ to = none := by simp [nextA, h, h2]
theorem next_is (h : ¬ x.every = 0) (h2 : againM x at_ to ≤ 1125899906842624) : nextA x at_ to = some (againM x at_ to) := by simp [nextA, h, h2]
theorem againM_eq (h : ¬ x.every = 0) : againM x at_ to = at_ + missA x at_ to * x.every + x.every := if_neg h
theorem againM_zero (h : x.every = 0) : againM x at_ to = 0 := if_pos h
theorem next_ahead (h : almB x = true) (h1 : at_ ≤ to) (e : nextA x at_ to = some nx) : aheadP to nx := by
  obtain ⟨h0, h2, h3⟩ := next_some e
  exact ⟨by rw [h2]; exact miss_lt h h0 h1, h3⟩
theorem tm_lo {a : Int} (h0 : 0 ≤ a) (h : a < 16) : Int.tmod a 16 = a := by rw [Int.tmod_eq_emod_of_nonneg h0]; omega
theorem tm_hi {a : Int} (h0 : 16 ≤ a) (h : a < 32) : Int.tmod a 16 = a - 16 := by rw [Int.tmod_eq_emod_of_nonneg (by omega)]; omega
theorem mem_tput (hr : Ris Tim.id ts) : t ∈ tput ts k at_ ↔ t = ⟨k, at_⟩ ∨ (t ∈ ts ∧ t.id ≠ k) := by
  unfold tput
  cases e : getK Tim.id ts k with
  | some y => exact mem_putK hr (z := ⟨k, at_⟩) e
  | none =>
    rw [mem_insK]
    constructor
    · rintro (h | h)
      · exact .inl h
      · exact .inr ⟨h, getK_none.1 e t h⟩
    · rintro (h | h)
      · exact .inl h
      · exact .inr h.1
theorem ris_tput (hr : Ris Tim.id ts) : Ris Tim.id (tput ts k at_) := by
  unfold tput
  cases e : getK Tim.id ts k with
  | some y => exact ris_putK hr (z := ⟨k, at_⟩) e
  | none => exact ris_insK hr (z := ⟨k, at_⟩) e
theorem wheel_tput (g : wheelB now ts = true) (h0 : 0 ≤ k) (h1 : k < 32) (ha : aheadP now at_) : wheelB now (tput ts k at_) = true := by
  have hg := wheel_iff.1 g
  obtain ⟨ha1, ha2⟩ := ha
  refine wheel_iff.2 ⟨hg.n0, hg.n1, ris_tput hg.rs, fun t ht => ?_⟩
  rcases (mem_tput hg.rs).1 ht with e | ⟨h, _⟩
  · subst e; exact ⟨h0, h1, ha1, ha2⟩
  · exact hg.tm t h
theorem mem_rdrop : x ∈ rdrop rs v ↔ x ∈ rs ∧ x.vcpu ≠ v := by unfold rdrop; rw [List.mem_filter]; simp [isV]
theorem ris_rdrop (h : Ris Alm.vcpu rs) : Ris Alm.vcpu (rdrop rs v) := h.filter _
theorem get_rdrop (h : Ris Alm.vcpu rs) (hne : k ≠ v) : getK Alm.vcpu (rdrop rs v) k = getK Alm.vcpu rs k := by
  cases e : getK Alm.vcpu rs k with
  | none => exact getK_none.2 fun x hx => getK_none.1 e x (mem_rdrop.1 hx).1
  | some x => have := (getK_iff h).1 e; exact (getK_iff (ris_rdrop h)).2 ⟨mem_rdrop.2 ⟨this.1, by rw [this.2]; exact hne⟩, this.2⟩
theorem get_rdrop_self : getK Alm.vcpu (rdrop rs v) v = none := getK_none.2 fun _ hx => (mem_rdrop.1 hx).2
theorem get_tput (hr : Ris Tim.id ts) (hne : k ≠ v) : getK Tim.id (tput ts v at_) k = getK Tim.id ts k := by
  cases e : getK Tim.id ts k with
  | none =>
    refine getK_none.2 fun x hx => ?_
    rcases (mem_tput hr).1 hx with h | h
    · subst h; exact fun h => hne h.symm
    · exact getK_none.1 e x h.1
  | some x => have := (getK_iff hr).1 e; exact (getK_iff (ris_tput hr)).2 ⟨(mem_tput hr).2 (.inr ⟨this.1, by rw [this.2]; exact hne⟩), this.2⟩
theorem get_tput_self (hr : Ris Tim.id ts) : getK Tim.id (tput ts k at_) k = some ⟨k, at_⟩ := (getK_iff (ris_tput hr)).2 ⟨(mem_tput hr).2 (.inl rfl), rfl⟩
/-- The state of the rings' loop, j timers on. -/
def rgS (to : Int) (ts : List Tim) (rs : List Alm) (j : Nat) : R3 := ((sortT (duL ts to)).take j).foldl (ringS to) (leL ts to, rs, [])
theorem rg_zero : rgS to ts rs 0 = (leL ts to, rs, []) := rfl
theorem rg_on (hx : (sortT (duL ts to))[j]? = some t) : rgS to ts rs (j + 1) = ringS to (rgS to ts rs j) t := by unfold rgS; rw [List.take_add_one, hx]; simp
theorem rg_end (h : (sortT (duL ts to)).length ≤ j) : rgS to ts rs j = ringsV to ts rs := by unfold rgS ringsV; rw [List.take_of_length_le h]
structure RInv (to : Int) (ts : List Tim) (rs : List Alm) (j : Nat) : Prop where
  wh : wheelB to (rgS to ts rs j).1 = true
  rr : Ris Alm.vcpu (rgS to ts rs j).2.1
  al : ∀ x ∈ (rgS to ts rs j).2.1, almB x = true
  pn : ∀ t ∈ (sortT (duL ts to)).drop j, t.id < 16 → ∃ x, getK Alm.vcpu (rgS to ts rs j).2.1 (t.id + 1) = some x
  ol : (rgS to ts rs j).2.2.length ≤ j
theorem perm_sort (l : List Tim) : (sortT l).Perm l := List.mergeSort_perm ..
theorem mem_sortT {l : List Tim} : t ∈ sortT l ↔ t ∈ l := (perm_sort l).mem_iff
theorem fired_ids (hg : GoodW now ts) : (sortT (duL ts to)).Pairwise fun a b => a.id ≠ b.id := by
  have h1 : (duL ts to).Pairwise fun a b => a.id ≠ b.id := by
    rw [duL_filter]; exact (hg.rs.filter _).imp fun h => by omega
  exact (perm_sort _).symm.pairwise h1 (fun h => h.symm)
theorem fired_tm (hg : GoodW now ts) (h : t ∈ sortT (duL ts to)) : 0 ≤ t.id ∧ t.id < 32 ∧ now < t.due ∧ t.due ≤ to ∧ t ∈ ts := by
  have := mem_duL.1 (mem_sortT.1 h)
  have h2 := hg.tm t this.1
  exact ⟨h2.1, h2.2.1, h2.2.2.1, this.2, this.1⟩
theorem rinv_zero (g : GoodA now ts rs) (h1 : now ≤ to) (h2 : to ≤ 1125899906842624) : RInv to ts rs 0 := by
  have hg := g.gw
  refine ⟨?_, g.rr, g.al, fun t ht hi => ?_, Nat.le_refl _⟩
  · have h0 := hg.n0
    refine wheel_iff.2 ⟨by omega, h2, ?_, fun t ht => ?_⟩
    · rw [rg_zero, leL_filter]; exact hg.rs.filter _
    · have := mem_leL.1 ht; have h3 := hg.tm t this.1; exact ⟨h3.1, h3.2.1, this.2, h3.2.2.2⟩
  · rw [List.drop_zero] at ht
    have hf := fired_tm hg ht
    have := g.lk (t.id + 1) (by omega) (by omega)
    rw [show t.id + 1 - 1 = t.id by omega, (getK_iff hg.rs).2 ⟨hf.2.2.2.2, rfl⟩] at this
    exact Option.isSome_iff_exists.1 this.symm
theorem ring_hi (h : ¬ t.id < 16) (s : R3) : ringS to s t = (s.1, s.2.1, s.2.2 ++ [⟨t.id - 16 + 1, 0, t.due, 0⟩]) := if_neg h
theorem ring_go {s : R3} (h : t.id < 16) (hx : getK Alm.vcpu s.2.1 (t.id + 1) = some x) (hn : nextA x t.due to = some nx) : ringS to s t = (tput s.1 t.id nx, s.2.1, s.2.2 ++ [⟨t.id + 1, x.port, t.due, missA x t.due to⟩]) := by simp only [ringS, if_pos h, hx, hn]
theorem ring_end {s : R3} (h : t.id < 16) (hx : getK Alm.vcpu s.2.1 (t.id + 1) = some x) (hn : nextA x t.due to = none) : ringS to s t = (s.1, rdrop s.2.1 (t.id + 1), s.2.2 ++ [⟨t.id + 1, x.port, t.due, missA x t.due to⟩]) := by simp only [ringS, if_pos h, hx, hn]
theorem drop_mem {α : Type} {l : List α} {a : α} (h : a ∈ l.drop (j + 1)) : a ∈ l.drop j := by
  rw [show j + 1 = j + 1 from rfl, ← List.drop_drop (i := 1) (j := j)] at h
  exact List.mem_of_mem_drop h
theorem pair_at {α : Type} {R : α → α → Prop} {l : List α} {a b : α} (hp : l.Pairwise R) (hx : l[j]? = some a) (hb : b ∈ l.drop (j + 1)) : R a b := by
  obtain ⟨hl, e⟩ := List.getElem?_eq_some_iff.1 hx
  have h2 : (l.drop j).Pairwise R := hp.drop
  rw [List.drop_eq_getElem_cons hl, List.pairwise_cons] at h2
  rw [← e]
  exact h2.1 b hb
theorem rinv_on (g : GoodA now ts rs) (h : RInv to ts rs j) (hx : (sortT (duL ts to))[j]? = some t) : RInv to ts rs (j + 1) := by
  have hg := g.gw
  have hf := fired_tm hg (List.mem_of_getElem? hx)
  have hd := fun {b} (hb : b ∈ (sortT (duL ts to)).drop (j + 1)) => pair_at (fired_ids hg (to := to)) hx hb
  have hol := h.ol
  by_cases hi : t.id < 16
  · have hm : t ∈ (sortT (duL ts to)).drop j := by
      obtain ⟨hl, e⟩ := List.getElem?_eq_some_iff.1 hx
      rw [List.drop_eq_getElem_cons hl, e]; exact List.mem_cons_self
    obtain ⟨x, hxx⟩ := h.pn t hm hi
    have hxm := getK_mem hxx
    cases hn : nextA x t.due to with
    | some nx =>
      have e := ring_go hi hxx hn
      refine ⟨?_, ?_, ?_, ?_, ?_⟩ <;> rw [rg_on hx, e]
      · exact wheel_tput h.wh (by omega) (by omega) (next_ahead (h.al x hxm.1) (by omega) hn)
      · exact h.rr
      · exact h.al
      · exact fun b hb hi => h.pn b (drop_mem hb) hi
      · simp only [List.length_append, List.length_cons, List.length_nil]; omega
    | none =>
      have e := ring_end hi hxx hn
      refine ⟨?_, ?_, ?_, ?_, ?_⟩ <;> rw [rg_on hx, e]
      · exact h.wh
      · exact ris_rdrop h.rr
      · exact fun y hy => h.al y (mem_rdrop.1 hy).1
      · intro b hb hi2
        have hne := hd hb
        obtain ⟨y, hy⟩ := h.pn b (drop_mem hb) hi2
        exact ⟨y, by rw [get_rdrop h.rr (by omega)]; exact hy⟩
      · simp only [List.length_append, List.length_cons, List.length_nil]; omega
  · have e := ring_hi (to := to) hi (rgS to ts rs j)
    refine ⟨?_, ?_, ?_, ?_, ?_⟩ <;> rw [rg_on hx, e]
    · exact h.wh
    · exact h.rr
    · exact h.al
    · exact fun b hb hi => h.pn b (drop_mem hb) hi
    · simp only [List.length_append, List.length_cons, List.length_nil]; omega
def rgT (to : Int) (ts : List Tim) (rs : List Alm) (j : Nat) : List Tim := (rgS to ts rs j).1
def rgR (to : Int) (ts : List Tim) (rs : List Alm) (j : Nat) : List Alm := (rgS to ts rs j).2.1
def rgO (to : Int) (ts : List Tim) (rs : List Alm) (j : Nat) : List Rng := (rgS to ts rs j).2.2
theorem rgT_of {a : List Tim} {b : List Alm} {c : List Rng} (h : rgS to ts rs j = (a, b, c)) : rgT to ts rs j = a := by rw [rgT, h]
theorem rgR_of {a : List Tim} {b : List Alm} {c : List Rng} (h : rgS to ts rs j = (a, b, c)) : rgR to ts rs j = b := by rw [rgR, h]
theorem rgO_of {a : List Tim} {b : List Alm} {c : List Rng} (h : rgS to ts rs j = (a, b, c)) : rgO to ts rs j = c := by rw [rgO, h]
theorem RInv.wh' (h : RInv to ts rs j) : wheelB to (rgT to ts rs j) = true := h.wh
theorem RInv.rr' (h : RInv to ts rs j) : Ris Alm.vcpu (rgR to ts rs j) := h.rr
theorem RInv.al' (h : RInv to ts rs j) : ∀ x ∈ rgR to ts rs j, almB x = true := h.al
theorem RInv.pn' (h : RInv to ts rs j) : ∀ t ∈ (sortT (duL ts to)).drop j, t.id < 16 → ∃ x, getK Alm.vcpu (rgR to ts rs j) (t.id + 1) = some x := h.pn
theorem rg_go (hx : (sortT (duL ts to))[j]? = some t) (h : t.id < 16) (hz : getK Alm.vcpu (rgR to ts rs j) (t.id + 1) = some x) (hn : nextA x t.due to = some nx) : rgS to ts rs (j + 1) = (tput (rgT to ts rs j) t.id nx, rgR to ts rs j, rgO to ts rs j ++ [⟨t.id + 1, x.port, t.due, missA x t.due to⟩]) := by rw [rg_on hx, ring_go h hz hn]; rfl
theorem rg_no (hx : (sortT (duL ts to))[j]? = some t) (h : t.id < 16) (hz : getK Alm.vcpu (rgR to ts rs j) (t.id + 1) = some x) (hn : nextA x t.due to = none) : rgS to ts rs (j + 1) = (rgT to ts rs j, rdrop (rgR to ts rs j) x.vcpu, rgO to ts rs j ++ [⟨t.id + 1, x.port, t.due, missA x t.due to⟩]) := by rw [rg_on hx, ring_end h hz hn, (getK_mem hz).2]; rfl
theorem rg_hi (hx : (sortT (duL ts to))[j]? = some t) (h : ¬ t.id < 16) : rgS to ts rs (j + 1) = (rgT to ts rs j, rgR to ts rs j, rgO to ts rs j ++ [⟨t.id - 16 + 1, 0, t.due, 0⟩]) := by rw [rg_on hx, ring_hi h]; rfl
theorem mem_at {α : Type} {l : List α} {a : α} (hx : l[j]? = some a) : a ∈ l.drop j := by
  obtain ⟨hl, e⟩ := List.getElem?_eq_some_iff.1 hx
  rw [List.drop_eq_getElem_cons hl, e]; exact List.mem_cons_self
theorem passW_y (g : wheelB now ts = true) (h : now ≤ to ∧ to ≤ 1125899906842624) : passW now ts to = (to, leL ts to, 0) := passW_ok (passE_ok g (by omega))
theorem passD_y (g : wheelB now ts = true) (h : now ≤ to ∧ to ≤ 1125899906842624) : passD now ts to = sortT (duL ts to) := passD_ok (passE_ok g (by omega))
theorem passW_n (g : wheelB now ts = true) (h : ¬ (now ≤ to ∧ to ≤ 1125899906842624)) : passW now ts to = (0, [], 2) := by
  have e : passE now ts to = 2 := passE_arg g (by omega)
  rw [passW_no (by rw [e]; decide), e]
theorem passD_n (g : wheelB now ts = true) (h : ¬ (now ≤ to ∧ to ≤ 1125899906842624)) : passD now ts to = [] := passD_no (by rw [passE_arg g (by omega)]; decide)
theorem fired_len (hg : GoodW now ts) : (sortT (duL ts to)).length ≤ 32 := by
  have h1 := (perm_sort (duL ts to)).length_eq
  have h2 := duL_len (ts := ts) (to := to)
  have := hg.len
  omega
theorem passA_bad (g : alB now ts rs = false) : passA now ts rs to = (0, [], [], 280) := by simp [passA, g]
theorem passR_bad (g : alB now ts rs = false) : passR now ts rs to = [] := by simp [passR, g]
theorem passA_arg (g : alB now ts rs = true) (h : ¬ (now ≤ to ∧ to ≤ 1125899906842624)) : passA now ts rs to = (0, [], [], 2) := by simp only [passA, g, if_true, if_neg h]
theorem passR_arg (h : ¬ (now ≤ to ∧ to ≤ 1125899906842624)) : passR now ts rs to = [] := by simp only [passR]; rw [if_neg fun e => h e.2]
theorem passA_ok (g : alB now ts rs = true) (h : now ≤ to ∧ to ≤ 1125899906842624) : passA now ts rs to = (to, (ringsV to ts rs).1, (ringsV to ts rs).2.1, 0) := by simp only [passA, g, if_true, if_pos h]
theorem passR_ok (g : alB now ts rs = true) (h : now ≤ to ∧ to ≤ 1125899906842624) : passR now ts rs to = (ringsV to ts rs).2.2 := by simp only [passR]; rw [if_pos ⟨g, h⟩]
end
end Go.Proofs.YtdbamgbgnpadjaaGreat

/-! The walker: an operation whose answer is told (a shift); a range over a function whose body may return; a function that holds one. -/
namespace Go.Proofs.YtdbamgbgnpadjaaGreat
open Go Go.RowKit

section
variable {E : Env} {k : List Fr} {l : Sl} {L : List Ob} {all os : List Oper} {o : Oper} {i : Nat}
/-- An operation whose answer is told. -/
theorem ops_opv (v : Value) (hw : wantL all l o = some true) (hd : okD E.n o.dst = true) (hk : knownO l o = true) (h : ∀ w, (execOp (look l) o).run E.P w = .ok (.value v) w) (hn : Ops E k all os (i + 1) (putL o.dst v l) L) : Ops E k all (o :: os) i l L := by
  refine ⟨fun a w ha hs => ?_⟩
  have hg := wantL_spec ha hw
  refine wpListIn_step fun K hK => ?_
  rw [if_pos hg]
  refine ⟨fun _ _ => trivial, ?_⟩
  have hdf : ∀ c, o.op ≠ .defer c := fun c e => by simp [knownO, e] at hk
  rw [Oper.semAt_eq _ _ _ hdf, look_exec ha hk, h]
  exact hK _ _ (hn.out _ _ (ha.put hd v) hs)
end
end Go.Proofs.YtdbamgbgnpadjaaGreat

/-! A division whose divisor is not known. -/
namespace Go.Proofs.YtdbamgbgnpadjaaGreat
open Go Go.RowKit

theorem run_quo {P : Program} {ρ : Operand → Value} {T U : TypeId} {x y : Operand} {kd : IntKind} {a b : Int} (v : Int) {o : Oper} (ho : o.op = .binOp .quo T x y U) (hx : ρ x = .int kd a) (hy : ρ y = .int kd b) (h0 : ¬ b = 0) (hv : kd.wrap (a.tdiv b) = v) (w : World) :
    (execOp ρ o).run P w = .ok (.value (.int kd v)) w := by
  have g : (eqGuard .quo T x y (.int kd a) (.int kd b)) = (pure () : Sem Unit) := by unfold eqGuard; simp
  unfold execOp
  simp only [ho, hx, hy, g]
  subst hv
  simp [binOp, Op.intDiv, h0]
end Go.Proofs.YtdbamgbgnpadjaaGreat

/-! Alarms: how often one was missed. -/
namespace Go.Proofs.YtdbamgbgnpadjaaGreat
open Go Go.RowKit

set_option maxRecDepth 100000 in
theorem again_t (x : Alm) (at_ to : Int) (w : World)
 (ha : almB x = true) (h0 : 0 ≤ at_) (h1 : at_ ≤ to) (h2 : to ≤ 1125899906842624)
 : Calls Tryz.prog 67 #[.agg #[.int .i64 x.vcpu, .int .i64 x.port, .int .i64 x.every], .int .i64 at_, .int .i64 to] w fun e w' => e = .returned (.tuple #[.int .i64 (missA x at_ to), .int .i64 (againM x at_ to), .bool (nextA x at_ to).isSome]) ∧ Below w.heap.size w w' := by
 refine enter (Hs.start w) Tryz.func67 rfl Tryz.ntmps67 rfl (sq_ (ma0 [] [1, 2] (fun γ1 => [(3, .pointer (some ⟨γ1 0, 0, none⟩))]) (fun γ1 L => bx (γ1 0) (#[.int .i64 x.vcpu, .int .i64 x.port, .int .i64 x.every]) 32 :: L) (fun γ1 => ds_ (sq_ (sq_ ?_)))))
 by_cases q3 : (x.every : Int) = (0 : Int)
 ·
  refine qa [(1, .go (owns 0 2 1)), (2, .yes)] [1, 2, 3] [(11, .bool true)] ([(x.every : Int) = (0 : Int)]) (al1 q3) (ds_ (t_ (sq_ (qa0 [] [] [(6, .int .i64 0), (7, .int .i64 0), (8, .bool false)] (ds_ (rt ([]) (.tuple #[.int .i64 0, .int .i64 0, .bool false]) ?_))))))
  exact fun w' hw => ⟨by rw [miss_zero q3, againM_zero q3, next_zero q3]; rfl, hw.below⟩
 ·
  refine qa [(1, .go (owns 0 2 1)), (2, .no)] [1, 2, 3] [(11, .bool false)] ([¬ ((x.every : Int) = (0 : Int))]) (al1 q3) (ds_ (f_ (at_skip (ds_ (sq_ (ao_ (qo 5 [(2, .fit), (4, .go (owns 0 2 1))] [1, 3] [(14, .int .i64 (to - at_)), (16, .int .i64 x.every)] ([Fit .i64 (to - at_)]) (al1 (fit64 (by omega) (by omega))) ?_)))))))
  have hms := miss_bnd ha h1
  have hml := miss_le ha h1
  have hmm := miss_mul ha h1
  have hae := alm_every ha
  refine ops_opv (.int .i64 (missA x at_ to)) (by kernel_rfl) (by kernel_rfl) (by kernel_rfl) (fun w => run_quo (kd := .i64) (a := to - at_) (b := x.every) (missA x at_ to) rfl (by kernel_rfl) (by kernel_rfl) q3 (miss_quo ha q3 h1 h0 h2) w) (qo0 1 [] [1, 3] [(6, .int .i64 (missA x at_ to))] (on_ (ds_ (sq_ (qa [(3, .go (owns 0 2 1)), (4, .fit), (5, .fit)] [3, 6] [(7, .int .i64 (at_ + ((missA x at_ to) * x.every)))] ([Fit .i64 ((missA x at_ to) * x.every)] ++ ([Fit .i64 (at_ + ((missA x at_ to) * x.every))])) (alA (al1 (fit64 (by omega) (by omega))) (al1 (fit64 (by omega) (by omega)))) (ds_ (sq_ ?_)))))))
  by_cases q11 : (1125899906842624 - (at_ + ((missA x at_ to) * x.every)) : Int) ≥ (x.every : Int)
  ·
   refine cq [(3, .go (owns 0 2 1)), (4, .fit), (6, .fit), (8, .go (owns 0 2 1)), (9, .yes)] [] [(6, .int .i64 (missA x at_ to)), (7, .int .i64 ((at_ + ((missA x at_ to) * x.every)) + x.every)), (8, .bool true)] ([Fit .i64 ((at_ + ((missA x at_ to) * x.every)) + x.every)] ++ ([Fit .i64 (1125899906842624 - (at_ + ((missA x at_ to) * x.every)))] ++ ([(1125899906842624 - (at_ + ((missA x at_ to) * x.every)) : Int) ≥ (x.every : Int)]))) rfl (by kernel_rfl) (by kernel_rfl) (by kernel_rfl) (alA (al1 (fit64 (by omega) (by omega))) (alA (al1 (fit64 (by omega) (by omega))) (al1 q11))) (ds_ (rt ([]) (.tuple #[.int .i64 (missA x at_ to), .int .i64 ((at_ + ((missA x at_ to) * x.every)) + x.every), .bool true]) ?_))
   exact fun w' hw => ⟨by rw [next_is q3 (by rw [againM_eq q3]; omega), againM_eq q3]; rfl, hw.below⟩
  ·
   refine cq [(3, .go (owns 0 2 1)), (4, .fit), (6, .fit), (8, .go (owns 0 2 1)), (9, .no)] [] [(6, .int .i64 (missA x at_ to)), (7, .int .i64 ((at_ + ((missA x at_ to) * x.every)) + x.every)), (8, .bool false)] ([Fit .i64 ((at_ + ((missA x at_ to) * x.every)) + x.every)] ++ ([Fit .i64 (1125899906842624 - (at_ + ((missA x at_ to) * x.every)))] ++ ([¬ ((1125899906842624 - (at_ + ((missA x at_ to) * x.every)) : Int) ≥ (x.every : Int))]))) rfl (by kernel_rfl) (by kernel_rfl) (by kernel_rfl) (alA (al1 (fit64 (by omega) (by omega))) (alA (al1 (fit64 (by omega) (by omega))) (al1 q11))) (ds_ (rt ([]) (.tuple #[.int .i64 (missA x at_ to), .int .i64 ((at_ + ((missA x at_ to) * x.every)) + x.every), .bool false]) ?_))
   exact fun w' hw => ⟨by rw [next_big q3 (by rw [againM_eq q3]; omega), againM_eq q3]; rfl, hw.below⟩
end Go.Proofs.YtdbamgbgnpadjaaGreat

/-! Timers: time passes. -/
namespace Go.Proofs.YtdbamgbgnpadjaaGreat
open Go Go.RowKit

set_option maxRecDepth 100000 in
theorem sorted_t (w0 : World) (X Y : List Ob) (p : Option Addr) (n cap : Nat) (l : List Tim) (w : World)
 (hH : Hs w0 (Y ++ X) w) (hO : SlO 42 Y p n cap l) (hb : n ≤ 1000)
 : Calls Tryz.prog 65 #[.slice p n cap] w fun e w' => ∃ Y', e = .returned (.slice p n cap) ∧ SlO 42 Y' p n cap (sortT l) ∧ Hs w0 (Y' ++ X) w' := by
 rw [show Y ++ X = Y ++ (X ++ []) from by rw [List.append_nil]] at hH
 refine enter hH Tryz.func65 rfl Tryz.ntmps65 rfl (sq_ (qa0 [] [0] [] (ds_ (sq_ (ao_ (qo0 1 [] [0] [(3, .slice p n cap)] (cP (fun v L' => ∃ Y_, v = .tuple #[] ∧ L' = Y_ ++ (X ++ []) ∧ SlO 42 Y_ p n cap (sortT l)) (fun args w => Tryz.call76 args w) (fun w hw => (sortFunc_t hw hO (by omega)).mono fun e w' ⟨he, Y_, hO, hY⟩ => ⟨_, _, he, ⟨Y_, rfl, rfl, hO⟩, hY⟩) ?_)))))))
 rintro v3 L3 ⟨Y3, rfl, rfl, hO3⟩
 refine on_ (ds_ (sq_ (qa0 [] [] [(2, .slice p n cap)] (ds_ (rt ([]) (.slice p n cap) ?_)))))
 exact fun w' hw => ⟨_, rfl, hO3, by simpa using hw⟩

set_option maxRecDepth 100000 in
theorem pass_t (now : Int) (p : Option Addr) (n cap : Nat) (ts : List Tim) (to : Int) (w : World)
 (hts : Sv w p ts) (hn : n = ts.length) (hb : n ≤ 1000)
 : Calls Tryz.prog 33 #[.agg #[.int .i64 now, .slice p n cap], .int .i64 to] w fun e w' => ∃ q m capq Y q2 m2 capq2 X, e = .returned (.tuple #[.agg #[.int .i64 (passW now ts to).1, .slice q m capq], .slice q2 m2 capq2, .int .i64 (passW now ts to).2.2]) ∧ SlO 42 Y q m capq (passW now ts to).2.1 ∧ SlO 42 X q2 m2 capq2 (passD now ts to) ∧ Below w.heap.size w w' ∧ Hs w (Y ++ X) w' := by
 refine enter (Hs.start w) Tryz.func33 rfl Tryz.ntmps33 rfl (sq_ (ma0 [] [1] (fun γ1 => [(2, .pointer (some ⟨γ1 0, 0, none⟩)), (4, .pointer (some ⟨γ1 1, 0, none⟩))]) (fun γ1 L => bx (γ1 1) (#[.int .i64 0, .slice none 0 0]) 24 :: bx (γ1 0) (#[.int .i64 now, .slice p n cap]) 24 :: L) (fun γ1 => ds_ (sq_ (sq_ (ao_ (qo0 2 [(0, .go (owns 1 0 2))] [1, 2, 4] [(12, .agg #[.int .i64 now, .slice p n cap]), (13, .int .i64 to)] (cD (.int .i64 (passE now ts to)) (fun args w => Tryz.call64 args w) (fun w hw => passes_t now p n cap ts to w (hts.kept hw.below) hn (by omega)) (qo0 1 [] [1, 2, 4] [(7, .int .i64 (passE now ts to))] (on_ (ds_ (sq_ ?_))))))))))))
 by_cases q5 : (passE now ts to : Int) ≠ (0 : Int)
 ·
  refine qa [(1, .yes)] [1, 2, 4, 7] [(16, .bool true)] ([(passE now ts to : Int) ≠ (0 : Int)]) (al1 q5) (ds_ (t_ (sq_ (qa0 [(2, .go (owns 0 0 2))] [4] [(5, .slice none 0 0), (6, .int .i64 (passE now ts to))] (ds_ (rt (owns 0 0 2) (.tuple #[.agg #[.int .i64 0, .slice none 0 0], .slice none 0 0, .int .i64 (passE now ts to)]) ?_))))))
  exact fun w' hw => by rw [passW_no q5, passD_no q5]; exact ⟨none, 0, 0, [], none, 0, 0, [], rfl, SlO.nil, SlO.nil, hw.below, hw.sub (List.nil_sublist _)⟩
 ·
  refine qa [(1, .no)] [1, 2, 4, 7] [(16, .bool false)] ([¬ ((passE now ts to : Int) ≠ (0 : Int))]) (al1 q5) (ds_ (f_ (at_skip (ds_ (sq_ (qa0 [] [1, 2, 4] [(8, .slice none 0 0), (9, .slice none 0 0)] (ds_ (sq_ (sq_ (qa0 [(1, .go (owns 1 1 1))] [1, 4, 8, 9] [(20, .slice p n cap), (21, .int .i64 ((n : Nat))), (22, .int .i64 0)] (ds_ (at_block (at_loop (α := Nat × List Ob × Option Addr × Nat × Nat × List Ob × Option Addr × Nat × Nat) [1, 4, 8, 9, 20, 21, 22] (fun ⟨j, Yo, po, nu, co, Yd, pd, nd, cd⟩ => [(1, .int .i64 to), (4, .pointer (some ⟨γ1 1, 0, none⟩)), (8, .slice po nu co), (9, .slice pd nd cd), (20, .slice p n cap), (21, .int .i64 ((n : Nat))), (22, .int .i64 ((j : Nat)))]) (fun ⟨j, Yo, po, nu, co, Yd, pd, nd, cd⟩ => bx (γ1 1) (#[.int .i64 0, .slice none 0 0]) 24 :: bx (γ1 0) (#[.int .i64 now, .slice p n cap]) 24 :: (Yo ++ (Yd ++ []))) (fun ⟨j, Yo, po, nu, co, Yd, pd, nd, cd⟩ => j ≤ n ∧ nu ≤ j ∧ nd ≤ j ∧ SlO 42 Yo po nu co ((ts.take j).flatMap (leF to)) ∧ SlO 42 Yd pd nd cd ((ts.take j).flatMap (duF to))) (fun ⟨j, Yo, po, nu, co, Yd, pd, nd, cd⟩ => n - j) (0, [], none, 0, 0, [], none, 0, 0) (by kernel_rfl) rfl ⟨Nat.zero_le _, Nat.le_refl _, Nat.le_refl _, by rw [List.take_zero]; exact SlO.nil, by rw [List.take_zero]; exact SlO.nil⟩ ?_)))))))))))))
  rintro ⟨j, Yo, po, nu, co, Yd, pd, nd, cd⟩
  rintro ⟨hj, hnu, hnd, hO, hP⟩
  refine sq_ ?_
  by_cases q12 : ((j : Nat) : Int) < ((n : Nat) : Int)
  ·
   refine qa [(0, .yes)] [1, 4, 8, 9, 20, 21, 22] [(23, .bool true)] ([((j : Nat) : Int) < ((n : Nat) : Int)]) (al1 q12) (ds_ (sq_ (t_ (at_skip (ds_ (sq_ (at_block (sq_ ?_))))))))
   obtain ⟨b15, o15, rfl⟩ := hts.pos (i := j) (by omega)
   obtain ⟨x17, hx17⟩ := get_some (l := ts) (m := j) (by omega)
   refine ma [(0, .at b15 o15 j), (1, .go (outs b15 (o15 + j * 2) [.int .i64 x17.id, .int .i64 x17.due])), (3, .go (owns 0 0 2))] [1, 4, 8, 9, 20, 21, 22] (fun γ18 => [(11, .pointer (some ⟨γ18 0, 0, none⟩))]) (fun γ18 L => bx (γ18 0) (#[.int .i64 x17.id, .int .i64 x17.due]) 42 :: L) (fun γ18 => [(some ⟨b15, o15, none⟩ : Option Addr) = some ⟨b15, o15, none⟩, ((j : Nat)) = ((j : Nat) : Int), j < n] ++ (cellsP w b15 (o15 + j * 2) [.int .i64 x17.id, .int .i64 x17.due])) (fun γ18 => (alA (al2 rfl (al2 rfl (al1 (by omega)))) (rd_pre (hts.get hx17) _ rfl))) (fun γ18 => ds_ (sq_ ?_))
   by_cases q20 : (x17.due : Int) ≤ (to : Int)
   ·
    refine qa [(1, .go (owns 0 1 1)), (3, .yes)] [1, 4, 8, 9, 11, 20, 21, 22] [(29, .bool true)] ([(x17.due : Int) ≤ (to : Int)]) (al1 q20) (ds_ (t_ (ao_ (mo0 3 [(1, .go (owns 0 0 2))] [1, 4, 8, 20, 21, 22] (fun γ22 => [(30, .slice pd nd cd), (32, .slice (some ⟨γ22 0, 0, none⟩) 1 1)]) (fun γ22 L => bx (γ22 0) (#[.int .i64 x17.id, .int .i64 x17.due]) 42 :: L) (fun γ22 => Ops.pick [[bx (γ22 0) (#[.int .i64 x17.id, .int .i64 x17.due]) 42], [bx (γ18 0) (#[.int .i64 x17.id, .int .i64 x17.due]) 42], [bx (γ1 1) (#[.int .i64 0, .slice none 0 0]) 24], [bx (γ1 0) (#[.int .i64 now, .slice (some ⟨b15, o15, none⟩) n cap]) 24], Yo, Yd] [0, 1, 2, 3, 5, 4] [] (bx (γ22 0) (#[.int .i64 x17.id, .int .i64 x17.due]) 42 :: bx (γ18 0) (#[.int .i64 x17.id, .int .i64 x17.due]) 42 :: bx (γ1 1) (#[.int .i64 0, .slice none 0 0]) 24 :: bx (γ1 0) (#[.int .i64 now, .slice (some ⟨b15, o15, none⟩) n cap]) 24 :: (Yd ++ (Yo ++ []))) (by kernel_rfl) rfl rfl (ops_append (α := Tim) [bx (γ22 0) (#[.int .i64 x17.id, .int .i64 x17.due]) 42, bx (γ18 0) (#[.int .i64 x17.id, .int .i64 x17.due]) 42, bx (γ1 1) (#[.int .i64 0, .slice none 0 0]) 24, bx (γ1 0) (#[.int .i64 now, .slice (some ⟨b15, o15, none⟩) n cap]) 24] Yd ((Yo ++ [])) (.refl _) rfl (by kernel_rfl) (by kernel_rfl) (p := pd) (n := nd) (cap := cd) (m := 1) (yv := .slice (some ⟨γ22 0, 0, none⟩) 1 1) (by kernel_rfl) (by kernel_rfl) (T := 42) (by_ := 16) (by kernel_rfl) (((ts.take j).flatMap (duF to))) ([⟨x17.id, x17.due⟩]) hP (fun w hw => src_svn Tryz.underlying22 (sv_row (hw.row 0 rfl) (by rfl)) (by rfl)) (by rfl) (by have hmx : maxLen = 9223372036854775807 := rfl; omega) (by have hmx : maxLen = 9223372036854775807 := rfl; omega) (fun Y23 p23 cap23 hO23 => qo0 1 [] [1, 4, 8, 20, 21, 22] [(9, .slice p23 (nd + 1) cap23)] (on_ (done_block (ds_ (qa [(0, .fit)] [1, 4, 8, 9, 20, 21] [(22, .int .i64 ((j + 1 : Nat)))] ([Fit .i64 ((j + 1 : Nat))]) (al1 (fit64 (by omega) (by omega))) (Done.pick [[bx (γ22 0) (#[.int .i64 x17.id, .int .i64 x17.due]) 42], [bx (γ18 0) (#[.int .i64 x17.id, .int .i64 x17.due]) 42], [bx (γ1 1) (#[.int .i64 0, .slice none 0 0]) 24], [bx (γ1 0) (#[.int .i64 now, .slice (some ⟨b15, o15, none⟩) n cap]) 24], Y23, Yo] [2, 3, 5, 4] [0, 1] (bx (γ1 1) (#[.int .i64 0, .slice none 0 0]) 24 :: bx (γ1 0) (#[.int .i64 now, .slice (some ⟨b15, o15, none⟩) n cap]) 24 :: (Yo ++ (Y23 ++ []))) (by kernel_rfl) rfl rfl ?_))))))))))))
    exact dr [1, 4, 8, 9, 20, 21, 22] (j + 1, Yo, po, nu, co, Y23, p23, (nd + 1), cap23) ⟨by omega, by omega, by omega, by rw [gath_onT hx17 (leF_no (by omega)), List.append_nil]; exact hO, by rw [gath_onT hx17 (duF_no (by omega))]; exact hO23⟩
   ·
    refine qa [(1, .go (owns 0 1 1)), (3, .no)] [1, 4, 8, 9, 11, 20, 21, 22] [(29, .bool false)] ([¬ ((x17.due : Int) ≤ (to : Int))]) (al1 q20) (ds_ (f_ (ao_ (mo0 3 [(1, .go (owns 0 0 2))] [1, 4, 9, 20, 21, 22] (fun γ27 => [(34, .slice po nu co), (36, .slice (some ⟨γ27 0, 0, none⟩) 1 1)]) (fun γ27 L => bx (γ27 0) (#[.int .i64 x17.id, .int .i64 x17.due]) 42 :: L) (fun γ27 => ops_append (α := Tim) [bx (γ27 0) (#[.int .i64 x17.id, .int .i64 x17.due]) 42, bx (γ18 0) (#[.int .i64 x17.id, .int .i64 x17.due]) 42, bx (γ1 1) (#[.int .i64 0, .slice none 0 0]) 24, bx (γ1 0) (#[.int .i64 now, .slice (some ⟨b15, o15, none⟩) n cap]) 24] Yo ((Yd ++ [])) (.refl _) rfl (by kernel_rfl) (by kernel_rfl) (p := po) (n := nu) (cap := co) (m := 1) (yv := .slice (some ⟨γ27 0, 0, none⟩) 1 1) (by kernel_rfl) (by kernel_rfl) (T := 42) (by_ := 16) (by kernel_rfl) (((ts.take j).flatMap (leF to))) ([⟨x17.id, x17.due⟩]) hO (fun w hw => src_svn Tryz.underlying22 (sv_row (hw.row 0 rfl) (by rfl)) (by rfl)) (by rfl) (by have hmx : maxLen = 9223372036854775807 := rfl; omega) (by have hmx : maxLen = 9223372036854775807 := rfl; omega) (fun Y28 p28 cap28 hO28 => qo0 1 [] [1, 4, 9, 20, 21, 22] [(8, .slice p28 (nu + 1) cap28)] (on_ (done_block (ds_ (qa [(0, .fit)] [1, 4, 8, 9, 20, 21] [(22, .int .i64 ((j + 1 : Nat)))] ([Fit .i64 ((j + 1 : Nat))]) (al1 (fit64 (by omega) (by omega))) (Done.pick [[bx (γ27 0) (#[.int .i64 x17.id, .int .i64 x17.due]) 42], [bx (γ18 0) (#[.int .i64 x17.id, .int .i64 x17.due]) 42], [bx (γ1 1) (#[.int .i64 0, .slice none 0 0]) 24], [bx (γ1 0) (#[.int .i64 now, .slice (some ⟨b15, o15, none⟩) n cap]) 24], Y28, Yd] [2, 3, 4, 5] [0, 1] (bx (γ1 1) (#[.int .i64 0, .slice none 0 0]) 24 :: bx (γ1 0) (#[.int .i64 now, .slice (some ⟨b15, o15, none⟩) n cap]) 24 :: (Y28 ++ (Yd ++ []))) (by kernel_rfl) rfl rfl ?_)))))))))))
    exact dr [1, 4, 8, 9, 20, 21, 22] (j + 1, Y28, p28, (nu + 1), cap28, Yd, pd, nd, cd) ⟨by omega, by omega, by omega, by rw [gath_onT hx17 (leF_yes (by omega))]; exact hO28, by rw [gath_onT hx17 (duF_yes (by omega)), List.append_nil]; exact hP⟩
  ·
   refine qa [(0, .no)] [1, 4, 8, 9, 20, 21, 22] [(23, .bool false)] ([¬ (((j : Nat) : Int) < ((n : Nat) : Int))]) (al1 q12) (ds_ (sq_ (f_ (at_leave _ rfl (ds_ (sq_ ?_))))))
   rw [List.take_of_length_le (by omega)] at hO hP
   refine ao_ (qo0 4 [] [4] [(41, .agg #[.int .i64 to, .slice po nu co]), (42, .slice pd nd cd)] (Ops.pick [[bx (γ1 1) (#[.int .i64 0, .slice none 0 0]) 24], [bx (γ1 0) (#[.int .i64 now, .slice p n cap]) 24], Yo, Yd] [0, 1, 3, 2] [] (bx (γ1 1) (#[.int .i64 0, .slice none 0 0]) 24 :: bx (γ1 0) (#[.int .i64 now, .slice p n cap]) 24 :: (Yd ++ (Yo ++ []))) (by kernel_rfl) rfl rfl (cP (fun v L' => ∃ Y_, v = .slice pd nd cd ∧ L' = [bx (γ1 1) (#[.int .i64 0, .slice none 0 0]) 24, bx (γ1 0) (#[.int .i64 now, .slice p n cap]) 24] ++ (Y_ ++ ((Yo ++ []))) ∧ SlO 42 Y_ pd nd cd (sortT ((ts.flatMap (duF to))))) (fun args w => Tryz.call65 args w) (fun w hw => (sorted_t _ ([bx (γ1 1) (#[.int .i64 0, .slice none 0 0]) 24, bx (γ1 0) (#[.int .i64 now, .slice p n cap]) 24] ++ ((Yo ++ []))) Yd pd nd cd ((ts.flatMap (duF to))) w (Hs.front (A := [bx (γ1 1) (#[.int .i64 0, .slice none 0 0]) 24, bx (γ1 0) (#[.int .i64 now, .slice p n cap]) 24]) (Y := Yd) (R := ((Yo ++ []))) hw) hP (by omega)).mono fun e w' ⟨Y_, he, hO, hY⟩ => ⟨_, _, he, ⟨Y_, rfl, rfl, hO⟩, hY.push⟩) ?_)))
   rintro v33 L33 ⟨Y33, rfl, rfl, hO33⟩
   refine mo0 3 [(5, .go (owns 0 0 2))] [4] (fun _ => [(5, .slice pd nd cd), (6, .int .i64 0)]) (fun _ L => (L.set 0 (bx (γ1 1) (#[.int .i64 to, .slice po nu co]) 24))) (fun _ => on_ (ds_ (rt (owns 0 0 2) (.tuple #[.agg #[.int .i64 to, .slice po nu co], .slice pd nd cd, .int .i64 0]) ?_)))
   exact fun w' hw => by rw [passW_ok (Classical.not_not.1 q5), passD_ok (Classical.not_not.1 q5)]; exact ⟨_, _, _, _, _, _, _, _, rfl, hO, hO33, hw.below, two_tails (Hs.pick [[bx (γ1 1) (#[.int .i64 to, .slice po nu co]) 24], [bx (γ1 0) (#[.int .i64 now, .slice p n cap]) 24], Y33, Yo] [3, 2] [0, 1] (by kernel_rfl) hw)⟩
end Go.Proofs.YtdbamgbgnpadjaaGreat
