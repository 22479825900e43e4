/- Texts of this proof, one behind the other. -/
import Derived.Test.YtahccegfahghfaaDoorZb
/-! Gangs: what changes a copy. -/
namespace Go.Proofs.YtahccegfahghfaaDoor
open Go Go.RowKit

set_option maxRecDepth 100000 in
theorem with_t (w0 : World) (YX : List Ob) (pg : FuncId) (pcb : Array Value) (P : Int → Gs → List Ob → Prop) (q : Option Addr) (m capq : Nat) (al : List GngA) (w : World)
 (he : ∀ args w, (callFunc pg args).run Tryd.prog w = .ok (.enter pg args) w) (hH : Hs w0 YX w) (hal : Sv w0 q al) (hma : m = al.length) (hbm : m ≤ 1000) (hnm : ∀ x ∈ al, x.Reads w0) (hm9 : ∀ x ∈ al, x.n ≤ 1000)
 (hc : gangB (al.map GngA.val) = true → ∀ (gb : Nat) (q' : Option Addr) (c' : Nat) (Y Yi R : List Ob) (bl : List GngA) (w' : World), SlO 62 Y q' m c' bl → GotG 3 Yi bl → bl.map GngA.val = (al.map GngA.val) → Hs w0 (bx gb #[.slice q' m c'] 36 :: (Y ++ (Yi ++ (YX ++ R)))) w' →
  Calls Tryd.prog pg (#[.pointer (some ⟨gb, 0, none⟩)] ++ pcb) w' fun e w'' => ∃ er q2 n2 c2 Y2 Yi2 bl2 YX2, e = .returned (.int .i64 er) ∧ P er (bl2.map GngA.val) YX2 ∧ SlO 62 Y2 q2 n2 c2 bl2 ∧ GotG 3 Yi2 bl2 ∧ Hs w0 (bx gb #[.slice q2 n2 c2] 36 :: (Y2 ++ (Yi2 ++ (YX2 ++ R)))) w'')
 : Calls Tryd.prog 25 #[.agg #[.slice q m capq], .func (.func pg) #[] pcb] w fun e w' => ∃ er q2 n2 c2 Y2 Yi2 bl2 YX2, e = .returned (.tuple #[.agg #[.slice q2 n2 c2], .int .i64 er]) ∧ SlO 62 Y2 q2 n2 c2 bl2 ∧ GotG 3 Yi2 bl2 ∧ Hs w0 (Y2 ++ (Yi2 ++ YX2)) w' ∧
  ((gangB (al.map GngA.val) = false ∧ er = 240 ∧ bl2 = [] ∧ YX2 = YX) ∨ (gangB (al.map GngA.val) = true ∧ er ≠ 0 ∧ bl2 = [] ∧ ∃ gs, P er gs YX2) ∨ (gangB (al.map GngA.val) = true ∧ er = 0 ∧ P 0 (bl2.map GngA.val) YX2)) := by
 rw [show YX = YX ++ [] from (List.append_nil _).symm] at hH
 refine enter hH Tryd.func25 rfl Tryd.ntmps25 rfl (sq_ (ma0 [] [1] (fun γ1 => [(2, .pointer (some ⟨γ1 0, 0, none⟩)), (4, .pointer (some ⟨γ1 1, 0, none⟩))]) (fun γ1 L => bx (γ1 1) (#[.slice none 0 0]) 36 :: bx (γ1 0) (#[.slice q m capq]) 36 :: L) (fun γ1 => ds_ (sq_ (sq_ (ao_ (qo0 1 [(0, .go (owns 1 0 1))] [1, 2, 4] [(10, .agg #[.slice q m capq])] ?_)))))))
 rcases q3 : gangB (al.map GngA.val) with _ | _
 ·
  refine cD (.int .i64 240) (fun args w => Tryd.call45 args w) (fun w hw => by have := gcheck_t q m capq al w (hal.kept hw.below) hma (by omega) (fun x hx => (hnm x hx).kept hw.below) hm9; rw [q3] at this; exact this) (qo0 1 [] [1, 2, 4] [(6, .int .i64 240)] (on_ (ds_ (sq_ (qa0 [] [1, 2, 4, 6] [(13, .bool true)] (ds_ (t_ (sq_ (qa0 [(2, .go (owns 0 0 1))] [4] [(5, .int .i64 240)] (ds_ (rt (owns 0 0 1) (.tuple #[.agg #[.slice none 0 0], .int .i64 240]) ?_)))))))))))
  exact fun w' hw => ⟨_, none, 0, 0, [], [], [], YX, rfl, SlO.nil, GotG.nil, one_tail14 (Hs.pick [[bx (γ1 1) (#[.slice none 0 0]) 36], [bx (γ1 0) (#[.slice q m capq]) 36], YX] [2] [0, 1] (by kernel_rfl) hw), .inl ⟨(by first | assumption | rfl), rfl, rfl, rfl⟩⟩
 ·
  refine cD (.int .i64 0) (fun args w => Tryd.call45 args w) (fun w hw => by have := gcheck_t q m capq al w (hal.kept hw.below) hma (by omega) (fun x hx => (hnm x hx).kept hw.below) hm9; rw [q3] at this; exact this) (qo0 1 [] [1, 2, 4] [(6, .int .i64 0)] (on_ (ds_ (sq_ (qa0 [] [1, 2, 4, 6] [(13, .bool false)] (ds_ (f_ (at_skip (ds_ (sq_ (ao_ (qo0 2 [(1, .go (owns 1 0 1))] [1, 4] [(17, .slice q m capq)] (cP (fun v L' => ∃ q_ c_ Y_, v = .slice q_ m c_ ∧ L' = List.take 2 (bx (γ1 1) (#[.slice none 0 0]) 36 :: bx (γ1 0) (#[.slice q m capq]) 36 :: (YX ++ [])) ++ (Y_ ++ List.drop 2 (bx (γ1 1) (#[.slice none 0 0]) 36 :: bx (γ1 0) (#[.slice q m capq]) 36 :: (YX ++ []))) ∧ SlO 62 Y_ q_ m c_ al) (fun args w => Tryd.call46 args w) (fun w hw => (gclone_t q m capq al w (hal.kept hw.below) hma (by omega)).mono fun e w' ⟨q_, c_, Y_, he, hO, hb, hY⟩ => ⟨_, _, he, ⟨q_, c_, Y_, rfl, rfl, hO⟩, hw.join hb hY 2⟩) ?_)))))))))))))
  rintro v10 L10 ⟨q10, cq10, Y10, rfl, rfl, hO10⟩
  refine mo0 3 [(5, .go (owns 0 0 1))] [1, 4] (fun γ11 => [(7, .pointer (some ⟨γ11 0, 0, none⟩))]) (fun γ11 L => bx (γ11 0) (#[.slice q10 m cq10]) 36 :: L) (fun γ11 => on_ (ds_ (sq_ (sq_ (qa0 [(1, .go (owns 0 0 1))] [1, 4, 7] [(22, .int .i64 (m : Nat)), (23, .int .i64 0)] (ds_ (at_block (At.pick [[bx (γ11 0) (#[.slice q10 m cq10]) 36], [bx (γ1 1) (#[.slice none 0 0]) 36], [bx (γ1 0) (#[.slice q m capq]) 36], Y10, YX] [0, 1, 2, 3, 4] [] (bx (γ11 0) (#[.slice q10 m cq10]) 36 :: bx (γ1 1) (#[.slice none 0 0]) 36 :: bx (γ1 0) (#[.slice q m capq]) 36 :: (Y10 ++ (YX ++ []))) (by kernel_rfl) rfl rfl (at_loop (α := Nat × List GngA × List Ob × Option Addr × Nat × List Ob) [1, 4, 7, 22, 23] (fun ⟨j, bl, Yg, pq, cq, Yi⟩ => [(1, .func (.func pg) #[] pcb), (4, .pointer (some ⟨γ1 1, 0, none⟩)), (7, .pointer (some ⟨γ11 0, 0, none⟩)), (22, .int .i64 (m : Nat)), (23, .int .i64 (j : Nat))]) (fun ⟨j, bl, Yg, pq, cq, Yi⟩ => bx (γ11 0) (#[.slice pq m cq]) 36 :: bx (γ1 1) (#[.slice none 0 0]) 36 :: bx (γ1 0) (#[.slice q m capq]) 36 :: (Yg ++ (Yi ++ (YX ++ [])))) (fun ⟨j, bl, Yg, pq, cq, Yi⟩ => j ≤ m ∧ SlO 62 Yg pq m cq bl ∧ GotR 3 Yi ((bl.take j).map GngA.row) ∧ bl.drop j = al.drop j ∧ bl.map GngA.val = (al.map GngA.val)) (fun ⟨j, bl, Yg, pq, cq, Yi⟩ => m - j) (0, al, Y10, q10, cq10, []) (by kernel_rfl) rfl ⟨Nat.zero_le _, hO10, GotR.nil, rfl, rfl⟩ ?_)))))))))
  rintro ⟨j, bl, Yg, pq, cq, Yi⟩
  rintro ⟨hj, hO, hG, hD, hV⟩
  have hlb := hO.len
  refine sq_ ?_
  by_cases q14 : ((j : Nat) : Int) < ((m : Nat) : Int)
  ·
   refine qa [(0, .yes)] [1, 4, 7, 22, 23] [(24, .bool true)] ([((j : Nat) : Int) < ((m : Nat) : Int)]) (al1 q14) (ds_ (sq_ (t_ (at_skip (ds_ (sq_ (at_block (sq_ (qa0 [] [1, 4, 7, 22, 23] [(8, .int .i64 (j : Nat))] (ds_ ?_))))))))))
   have hln18 := hO.len
   obtain ⟨g18, cs18, rfl, rfl, hOw18⟩ := hO.rowOf (i := j) (by omega)
   obtain ⟨x20, hx20⟩ := get_some (l := bl) (m := j) (by omega)
   have halx20 := wt_get hD hx20
   have hsx20 : Sv w0 x20.p x20.l := (hnm x20 (List.mem_of_getElem? halx20)).sv
   have hnx20 : x20.n = x20.l.length := (hnm x20 (List.mem_of_getElem? halx20)).hn
   have hm9x20 := hm9 x20 (List.mem_of_getElem? halx20)
   refine at_any (by kernel_rfl) ?_
   refine tk (m := 9) [0, 2, 3, 5] [] [1, 4, 7, 22, 23] [(26, .pointer (some ⟨γ11 0, 0, none⟩)), (28, .int .i64 (j : Nat)), (29, .pointer (some ⟨γ11 0, 0, none⟩)), (31, .int .i64 (j : Nat))] ([]) #[true, false, true, true, false, true, false, false, false, false, false, false, false] al0 ?_
   refine any_cutX (V := (List Ob) × (Nat) × (Option Addr)) (fun ⟨Y204, cq204, q204⟩ => SlO 3 Y204 q204 x20.n cq204 x20.l) 0 #[true, true, true, true, true, true, true, true, true, true, true, true, true] (fun ⟨Y204, cq204, q204⟩ => [(1, .func (.func pg) #[] pcb), (4, .pointer (some ⟨γ1 1, 0, none⟩)), (7, .pointer (some ⟨γ11 0, 0, none⟩)), (22, .int .i64 (m : Nat)), (23, .int .i64 (j : Nat))]) (fun ⟨Y204, cq204, q204⟩ => bx (γ11 0) (#[.slice (some ⟨g18, 0, none⟩) m cq]) 36 :: bx (γ1 1) (#[.slice none 0 0]) 36 :: bx (γ1 0) (#[.slice q m capq]) 36 :: bx g18 ((cs18).setIfInBounds (0 + j * 2 + 1) (.slice q204 x20.n cq204)) 62 :: (Y204 ++ (Yi ++ (YX ++ [])))) ?_ (fun hmx8 => ?_)
   rotate_left
   ·
    refine any_cutX (V := (List Ob) × (Nat) × (Option Addr)) (fun ⟨Y204, cq204, q204⟩ => SlO 3 Y204 q204 x20.n cq204 x20.l) 1 #[true, true, true, true, true, true, true, true, true, true, true, true, false] (fun ⟨Y204, cq204, q204⟩ => [(1, .func (.func pg) #[] pcb), (4, .pointer (some ⟨γ1 1, 0, none⟩)), (7, .pointer (some ⟨γ11 0, 0, none⟩)), (22, .int .i64 (m : Nat)), (23, .int .i64 (j : Nat)), (35, .slice q204 x20.n cq204), (37, .pointer (some ⟨g18, 0 + j * 2 + 1, none⟩))]) (fun ⟨Y204, cq204, q204⟩ => bx (γ11 0) (#[.slice (some ⟨g18, 0, none⟩) m cq]) 36 :: bx (γ1 1) (#[.slice none 0 0]) 36 :: bx (γ1 0) (#[.slice q m capq]) 36 :: bx g18 cs18 62 :: (Y204 ++ (Yi ++ (YX ++ [])))) ?_ (fun hmx7 => ?_)
    ·
     rintro ⟨Y204, cq204, q204⟩ hO204
     refine a1 12 rfl ?_
     refine mo 1 [(12, .go (ownps 3 (0 + j * 2 + 1) [undef]))] [1, 4, 7, 22, 23] (fun _ => []) (fun _ L => (L.set 3 (bx g18 ((cs18).setIfInBounds (0 + j * 2 + 1) (.slice q204 x20.n cq204)) 62))) (fun _ => [0 + j * 2 + 1 < (cs18).size]) (fun _ => (al1 (hOw18.room hO.len hx20 (f := 1) (by decide)))) (fun _ => ?_)
     refine od_ ?_
     exact wk (hmx8 (Y204, cq204, q204) hO204) [1, 4, 7, 22, 23] [[_], [_], [_], [_], _, _, _] [0, 1, 2, 3, 4, 5, 6] rfl rfl
    refine any_cutX (V := (List Ob) × (Nat) × (Option Addr)) (fun ⟨Y204, cq204, q204⟩ => SlO 3 Y204 q204 x20.n cq204 x20.l) 4 #[true, false, true, true, true, true, true, true, true, true, false, false, false] (fun ⟨Y204, cq204, q204⟩ => [(1, .func (.func pg) #[] pcb), (4, .pointer (some ⟨γ1 1, 0, none⟩)), (7, .pointer (some ⟨γ11 0, 0, none⟩)), (22, .int .i64 (m : Nat)), (23, .int .i64 (j : Nat)), (26, .pointer (some ⟨γ11 0, 0, none⟩)), (28, .int .i64 (j : Nat)), (35, .slice q204 x20.n cq204)]) (fun ⟨Y204, cq204, q204⟩ => bx (γ11 0) (#[.slice (some ⟨g18, 0, none⟩) m cq]) 36 :: bx (γ1 1) (#[.slice none 0 0]) 36 :: bx (γ1 0) (#[.slice q m capq]) 36 :: bx g18 cs18 62 :: (Y204 ++ (Yi ++ (YX ++ [])))) ?_ (fun hmx6 => ?_)
    ·
     rintro ⟨Y204, cq204, q204⟩ hO204
     refine a1 1 rfl ?_
     refine qo0 1 [(1, .go (owns 0 0 1))] [1, 4, 7, 22, 23, 28, 35] [(27, .slice (some ⟨g18, 0, none⟩) m cq)] ?_
     refine od_ ?_
     refine tk (m := 1) [10, 11] [(10, .at g18 0 j)] [1, 4, 7, 22, 23, 35] [(37, .pointer (some ⟨g18, 0 + j * 2 + 1, none⟩))] ([(some ⟨g18, 0, none⟩ : Option Addr) = some ⟨g18, 0, none⟩, (j : Nat) = ((j : Nat) : Int), j < m]) #[true, true, true, true, true, true, true, true, true, true, true, true, false] (al2 rfl (al2 rfl (al1 (by omega)))) ?_
     exact wk (hmx7 (Y204, cq204, q204) hO204) [1, 4, 7, 22, 23, 35, 37] [[_], [_], [_], [_], _, _, _] [0, 1, 2, 3, 4, 5, 6] rfl rfl
    refine any_cutX (V := Unit) (fun _ => True) 4 #[true, true, true, true, true, true, true, true, true, false, false, false, false] (fun _ => [(1, .func (.func pg) #[] pcb), (4, .pointer (some ⟨γ1 1, 0, none⟩)), (7, .pointer (some ⟨γ11 0, 0, none⟩)), (22, .int .i64 (m : Nat)), (23, .int .i64 (j : Nat)), (27, .slice (some ⟨g18, 0, none⟩) m cq), (28, .int .i64 (j : Nat)), (34, .slice x20.p x20.n x20.cap)]) (fun _ => bx (γ11 0) (#[.slice (some ⟨g18, 0, none⟩) m cq]) 36 :: bx (γ1 1) (#[.slice none 0 0]) 36 :: bx (γ1 0) (#[.slice q m capq]) 36 :: bx g18 cs18 62 :: (Yi ++ (YX ++ []))) ?_ (fun hmx5 => ?_)
    ·
     rintro _ _
     refine a1 9 rfl ?_
     refine cP (fun v L' => ∃ q_ c_ Y_, v = .slice q_ x20.n c_ ∧ L' = List.take 4 (bx (γ11 0) (#[.slice (some ⟨g18, 0, none⟩) m cq]) 36 :: bx (γ1 1) (#[.slice none 0 0]) 36 :: bx (γ1 0) (#[.slice q m capq]) 36 :: bx g18 cs18 62 :: (Yi ++ (YX ++ []))) ++ (Y_ ++ List.drop 4 (bx (γ11 0) (#[.slice (some ⟨g18, 0, none⟩) m cq]) 36 :: bx (γ1 1) (#[.slice none 0 0]) 36 :: bx (γ1 0) (#[.slice q m capq]) 36 :: bx g18 cs18 62 :: (Yi ++ (YX ++ [])))) ∧ SlO 3 Y_ q_ x20.n c_ x20.l) (fun args w => Tryd.call32 args w) (fun w hw => (cloneints_t x20.p x20.n x20.cap x20.l w (hsx20.kept hw.below) hnx20 (by omega)).mono fun e w' ⟨q_, c_, Y_, he, hO, hb, hY⟩ => ⟨_, _, he, ⟨q_, c_, Y_, rfl, rfl, hO⟩, hw.join hb hY 4⟩) ?_
     rintro v204 L204 ⟨q204, cq204, Y204, rfl, rfl, hO204⟩
     refine od_ ?_
     refine tk (m := 1) [10, 11] [(10, .at g18 0 j)] [1, 4, 7, 22, 23, 35] [(37, .pointer (some ⟨g18, 0 + j * 2 + 1, none⟩))] ([(some ⟨g18, 0, none⟩ : Option Addr) = some ⟨g18, 0, none⟩, (j : Nat) = ((j : Nat) : Int), j < m]) #[true, true, true, true, true, true, true, true, true, true, true, true, false] (al2 rfl (al2 rfl (al1 (by omega)))) ?_
     exact wk (hmx7 (Y204, cq204, q204) hO204) [1, 4, 7, 22, 23, 35, 37] [[_], [_], [_], [_], _, _, _] [0, 1, 2, 3, 4, 5, 6] rfl rfl
    refine any_cutX (V := Unit) (fun _ => True) 5 #[true, false, true, true, true, true, true, true, true, false, false, false, false] (fun _ => [(1, .func (.func pg) #[] pcb), (4, .pointer (some ⟨γ1 1, 0, none⟩)), (7, .pointer (some ⟨γ11 0, 0, none⟩)), (22, .int .i64 (m : Nat)), (23, .int .i64 (j : Nat)), (26, .pointer (some ⟨γ11 0, 0, none⟩)), (28, .int .i64 (j : Nat)), (34, .slice x20.p x20.n x20.cap)]) (fun _ => bx (γ11 0) (#[.slice (some ⟨g18, 0, none⟩) m cq]) 36 :: bx (γ1 1) (#[.slice none 0 0]) 36 :: bx (γ1 0) (#[.slice q m capq]) 36 :: bx g18 cs18 62 :: (Yi ++ (YX ++ []))) ?_ (fun hmx4 => ?_)
    ·
     rintro _ _
     refine any_fork [1, 9] (by kernel_rfl) (by simp) (each_cons _ rfl ?_ (each_cons _ rfl ?_ (each_nil)))
     ·
      refine qo0 1 [(1, .go (owns 0 0 1))] [1, 4, 7, 22, 23, 28, 34] [(27, .slice (some ⟨g18, 0, none⟩) m cq)] ?_
      refine od_ ?_
      exact wk (hmx5 () trivial) [1, 4, 7, 22, 23, 27, 28, 34] [[_], [_], [_], [_], _, _] [0, 1, 2, 3, 4, 5] rfl rfl
     ·
      refine cP (fun v L' => ∃ q_ c_ Y_, v = .slice q_ x20.n c_ ∧ L' = List.take 4 (bx (γ11 0) (#[.slice (some ⟨g18, 0, none⟩) m cq]) 36 :: bx (γ1 1) (#[.slice none 0 0]) 36 :: bx (γ1 0) (#[.slice q m capq]) 36 :: bx g18 cs18 62 :: (Yi ++ (YX ++ []))) ++ (Y_ ++ List.drop 4 (bx (γ11 0) (#[.slice (some ⟨g18, 0, none⟩) m cq]) 36 :: bx (γ1 1) (#[.slice none 0 0]) 36 :: bx (γ1 0) (#[.slice q m capq]) 36 :: bx g18 cs18 62 :: (Yi ++ (YX ++ [])))) ∧ SlO 3 Y_ q_ x20.n c_ x20.l) (fun args w => Tryd.call32 args w) (fun w hw => (cloneints_t x20.p x20.n x20.cap x20.l w (hsx20.kept hw.below) hnx20 (by omega)).mono fun e w' ⟨q_, c_, Y_, he, hO, hb, hY⟩ => ⟨_, _, he, ⟨q_, c_, Y_, rfl, rfl, hO⟩, hw.join hb hY 4⟩) ?_
      rintro v204 L204 ⟨q204, cq204, Y204, rfl, rfl, hO204⟩
      refine od_ ?_
      exact wk (hmx6 (Y204, cq204, q204) hO204) [1, 4, 7, 22, 23, 26, 28, 35] [[_], [_], [_], [_], _, _, _] [0, 1, 2, 3, 4, 5, 6] rfl rfl
    refine any_cutX (V := Unit) (fun _ => True) 5 #[true, true, true, true, true, true, true, true, false, false, false, false, false] (fun _ => [(1, .func (.func pg) #[] pcb), (4, .pointer (some ⟨γ1 1, 0, none⟩)), (7, .pointer (some ⟨γ11 0, 0, none⟩)), (22, .int .i64 (m : Nat)), (23, .int .i64 (j : Nat)), (27, .slice (some ⟨g18, 0, none⟩) m cq), (28, .int .i64 (j : Nat)), (33, .pointer (some ⟨g18, 0 + j * 2 + 1, none⟩))]) (fun _ => bx (γ11 0) (#[.slice (some ⟨g18, 0, none⟩) m cq]) 36 :: bx (γ1 1) (#[.slice none 0 0]) 36 :: bx (γ1 0) (#[.slice q m capq]) 36 :: bx g18 cs18 62 :: (Yi ++ (YX ++ []))) ?_ (fun hmx3 => ?_)
    ·
     rintro _ _
     refine a1 8 rfl ?_
     refine qo 1 [(8, .go (ownps 3 (0 + j * 2 + 1) [.slice x20.p x20.n x20.cap]))] [1, 4, 7, 22, 23, 27, 28] [(34, .slice x20.p x20.n x20.cap)] (acellsP cs18 (0 + j * 2 + 1) [.slice x20.p x20.n x20.cap]) (rda_part (hOw18.rdx hO.len hx20) 1 _ rfl) ?_
     refine od_ ?_
     exact wk (hmx5 () trivial) [1, 4, 7, 22, 23, 27, 28, 34] [[_], [_], [_], [_], _, _] [0, 1, 2, 3, 4, 5] rfl rfl
    refine any_cutX (V := Unit) (fun _ => True) 6 #[true, false, true, true, true, true, true, true, false, false, false, false, false] (fun _ => [(1, .func (.func pg) #[] pcb), (4, .pointer (some ⟨γ1 1, 0, none⟩)), (7, .pointer (some ⟨γ11 0, 0, none⟩)), (22, .int .i64 (m : Nat)), (23, .int .i64 (j : Nat)), (26, .pointer (some ⟨γ11 0, 0, none⟩)), (28, .int .i64 (j : Nat)), (33, .pointer (some ⟨g18, 0 + j * 2 + 1, none⟩))]) (fun _ => bx (γ11 0) (#[.slice (some ⟨g18, 0, none⟩) m cq]) 36 :: bx (γ1 1) (#[.slice none 0 0]) 36 :: bx (γ1 0) (#[.slice q m capq]) 36 :: bx g18 cs18 62 :: (Yi ++ (YX ++ []))) ?_ (fun hmx2 => ?_)
    ·
     rintro _ _
     refine any_fork [1, 8] (by kernel_rfl) (by simp) (each_cons _ rfl ?_ (each_cons _ rfl ?_ (each_nil)))
     ·
      refine qo0 1 [(1, .go (owns 0 0 1))] [1, 4, 7, 22, 23, 28, 33] [(27, .slice (some ⟨g18, 0, none⟩) m cq)] ?_
      refine od_ ?_
      exact wk (hmx3 () trivial) [1, 4, 7, 22, 23, 27, 28, 33] [[_], [_], [_], [_], _, _] [0, 1, 2, 3, 4, 5] rfl rfl
     ·
      refine qo 1 [(8, .go (ownps 3 (0 + j * 2 + 1) [.slice x20.p x20.n x20.cap]))] [1, 4, 7, 22, 23, 26, 28] [(34, .slice x20.p x20.n x20.cap)] (acellsP cs18 (0 + j * 2 + 1) [.slice x20.p x20.n x20.cap]) (rda_part (hOw18.rdx hO.len hx20) 1 _ rfl) ?_
      refine od_ ?_
      exact wk (hmx4 () trivial) [1, 4, 7, 22, 23, 26, 28, 34] [[_], [_], [_], [_], _, _] [0, 1, 2, 3, 4, 5] rfl rfl
    refine any_cutX (V := Unit) (fun _ => True) 8 #[true, true, true, true, false, true, false, false, false, false, false, false, false] (fun _ => [(1, .func (.func pg) #[] pcb), (4, .pointer (some ⟨γ1 1, 0, none⟩)), (7, .pointer (some ⟨γ11 0, 0, none⟩)), (22, .int .i64 (m : Nat)), (23, .int .i64 (j : Nat)), (27, .slice (some ⟨g18, 0, none⟩) m cq), (28, .int .i64 (j : Nat)), (29, .pointer (some ⟨γ11 0, 0, none⟩)), (31, .int .i64 (j : Nat))]) (fun _ => bx (γ11 0) (#[.slice (some ⟨g18, 0, none⟩) m cq]) 36 :: bx (γ1 1) (#[.slice none 0 0]) 36 :: bx (γ1 0) (#[.slice q m capq]) 36 :: bx g18 cs18 62 :: (Yi ++ (YX ++ []))) ?_ (fun hmx1 => ?_)
    ·
     rintro _ _
     refine a1 4 rfl ?_
     refine qo0 1 [(4, .go (owns 0 0 1))] [1, 4, 7, 22, 23, 27, 28, 31] [(30, .slice (some ⟨g18, 0, none⟩) m cq)] ?_
     refine od_ ?_
     refine tk (m := 5) [6, 7] [(6, .at g18 0 j)] [1, 4, 7, 22, 23, 27, 28] [(33, .pointer (some ⟨g18, 0 + j * 2 + 1, none⟩))] ([(some ⟨g18, 0, none⟩ : Option Addr) = some ⟨g18, 0, none⟩, (j : Nat) = ((j : Nat) : Int), j < m]) #[true, true, true, true, true, true, true, true, false, false, false, false, false] (al2 rfl (al2 rfl (al1 (by omega)))) ?_
     exact wk (hmx3 () trivial) [1, 4, 7, 22, 23, 27, 28, 33] [[_], [_], [_], [_], _, _] [0, 1, 2, 3, 4, 5] rfl rfl
    refine any_fork [1, 4] (by kernel_rfl) (by simp) (each_cons _ rfl ?_ (each_cons _ rfl ?_ (each_nil)))
    ·
     refine qo0 1 [(1, .go (owns 0 0 1))] [1, 4, 7, 22, 23, 28, 29, 31] [(27, .slice (some ⟨g18, 0, none⟩) m cq)] ?_
     refine od_ ?_
     exact wk (hmx1 () trivial) [1, 4, 7, 22, 23, 27, 28, 29, 31] [[_], [_], [_], [_], _, _] [0, 1, 2, 3, 4, 5] rfl rfl
    ·
     refine qo0 1 [(4, .go (owns 0 0 1))] [1, 4, 7, 22, 23, 26, 28, 31] [(30, .slice (some ⟨g18, 0, none⟩) m cq)] ?_
     refine od_ ?_
     refine tk (m := 6) [6, 7] [(6, .at g18 0 j)] [1, 4, 7, 22, 23, 26, 28] [(33, .pointer (some ⟨g18, 0 + j * 2 + 1, none⟩))] ([(some ⟨g18, 0, none⟩ : Option Addr) = some ⟨g18, 0, none⟩, (j : Nat) = ((j : Nat) : Int), j < m]) #[true, false, true, true, true, true, true, true, false, false, false, false, false] (al2 rfl (al2 rfl (al1 (by omega)))) ?_
     exact wk (hmx2 () trivial) [1, 4, 7, 22, 23, 26, 28, 33] [[_], [_], [_], [_], _, _] [0, 1, 2, 3, 4, 5] rfl rfl
   rintro ⟨Y204, cq204, q204⟩ hO204
   refine any_nil (by kernel_rfl) ?_
   refine done_block (ds_ (qa [(0, .fit)] [1, 4, 7, 22] [(23, .int .i64 (j + 1 : Nat))] ([Fit .i64 ((j + 1 : Nat))]) (al1 (fit64 (by omega) (by omega))) (Done.pick [[bx (γ11 0) (#[.slice (some ⟨g18, 0, none⟩) m cq]) 36], [bx (γ1 1) (#[.slice none 0 0]) 36], [bx (γ1 0) (#[.slice q m capq]) 36], [bx g18 ((cs18).setIfInBounds (0 + j * 2 + 1) (.slice q204 x20.n cq204)) 62], Y204, Yi, YX] [0, 1, 2, 3, 5, 4, 6] [] (bx (γ11 0) (#[.slice (some ⟨g18, 0, none⟩) m cq]) 36 :: bx (γ1 1) (#[.slice none 0 0]) 36 :: bx (γ1 0) (#[.slice q m capq]) 36 :: ([bx g18 ((cs18).setIfInBounds (0 + j * 2 + 1) (.slice q204 x20.n cq204)) 62] ++ (Yi ++ (Y204 ++ (YX ++ []))))) (by kernel_rfl) rfl rfl (Done.as (L' := bx (γ11 0) (#[.slice (some ⟨g18, 0, none⟩) m cq]) 36 :: bx (γ1 1) (#[.slice none 0 0]) 36 :: bx (γ1 0) (#[.slice q m capq]) 36 :: ([bx g18 ((cs18).setIfInBounds (0 + j * 2 + 1) (.slice q204 x20.n cq204)) 62] ++ ((Yi ++ Y204) ++ (YX ++ [])))) (by simp only [List.append_assoc]) ?_))))
   exact dr [1, 4, 7, 22, 23] (j + 1, (bl.set j (⟨x20.id, q204, x20.n, cq204, x20.l⟩ : GngA)), ([bx g18 ((cs18).setIfInBounds (0 + j * 2 + 1) (.slice q204 x20.n cq204)) 62]), (some ⟨g18, 0, none⟩), cq, Yi ++ Y204) ⟨by omega, (SlO.ofOwn (hOw18.put (x' := (⟨x20.id, q204, x20.n, cq204, x20.l⟩ : GngA)) hO.len hx20 (f := 1) (by decide) rfl) (len_set hO.len)), wt_own hG hx20 hO204, wt_drop hD, wt_val hx20 hV rfl⟩
  ·
   refine qa [(0, .no)] [1, 4, 7, 22, 23] [(24, .bool false)] ([¬ (((j : Nat) : Int) < ((m : Nat) : Int))]) (al1 q14) (ds_ (sq_ (f_ (at_leave _ rfl (ds_ (sq_ (sq_ (ao_ (qo0 1 [] [4, 7] [(39, .func (.func pg) #[] pcb)] (cP (fun v L' => ∃ er q_ n_ c_ Y_ Z_ bl_ X_, v = .int .i64 er ∧ L' = bx (γ11 0) #[.slice q_ n_ c_] 36 :: ([bx (γ1 1) (#[.slice none 0 0]) 36, bx (γ1 0) (#[.slice q m capq]) 36] ++ (Y_ ++ (Z_ ++ (X_ ++ [])))) ∧ P er (bl_.map GngA.val) X_ ∧ SlO 62 Y_ q_ n_ c_ bl_ ∧ GotG 3 Z_ bl_) he (fun w hw => (hc q3 (γ11 0) pq cq Yg Yi [bx (γ1 1) (#[.slice none 0 0]) 36, bx (γ1 0) (#[.slice q m capq]) 36] bl w hO (by rw [← List.take_of_length_le (show bl.length ≤ j by omega)]; exact hG) hV (wt_in (A := [bx (γ1 1) (#[.slice none 0 0]) 36, bx (γ1 0) (#[.slice q m capq]) 36]) hw)).mono fun e w' ⟨er, q_, n_, c_, Y_, Z_, bl_, X_, he, h1, h2, h3, hX⟩ => ⟨_, _, he, ⟨er, q_, n_, c_, Y_, Z_, bl_, X_, rfl, rfl, h1, h2, h3⟩, wt_out (A := [bx (γ1 1) (#[.slice none 0 0]) 36, bx (γ1 0) (#[.slice q m capq]) 36]) hX⟩) ?_))))))))))
   rintro v333 L333 ⟨er333, q333, n333, c333, Y333, Yz333, bl333, YX333, rfl, rfl, hP333, hO333, hG333⟩
   refine qo0 1 [] [4, 7] [(9, .int .i64 er333)] (on_ (ds_ (sq_ ?_)))
   by_cases q336 : (er333 : Int) ≠ (0 : Int)
   ·
    refine qa [(1, .yes)] [4, 7, 9] [(42, .bool true)] ([(er333 : Int) ≠ (0 : Int)]) (al1 q336) (ds_ (t_ (sq_ (qa0 [(2, .go (owns 1 0 1))] [4] [(5, .int .i64 er333)] (ds_ (rt (owns 1 0 1) (.tuple #[.agg #[.slice none 0 0], .int .i64 er333]) ?_))))))
    exact fun w' hw => ⟨_, none, 0, 0, [], [], [], YX333, rfl, SlO.nil, GotG.nil, one_tail14 (Hs.pick [[bx (γ11 0) (#[.slice q333 n333 c333]) 36], [bx (γ1 1) (#[.slice none 0 0]) 36], [bx (γ1 0) (#[.slice q m capq]) 36], Y333, Yz333, YX333] [5] [0, 1, 2, 3, 4] (by kernel_rfl) hw), .inr (.inl ⟨(by first | assumption | rfl), by omega, rfl, _, hP333⟩)⟩
   ·
    refine qa [(1, .no)] [4, 7, 9] [(42, .bool false)] ([¬ ((er333 : Int) ≠ (0 : Int))]) (al1 q336) (ds_ (f_ (at_skip (ds_ (sq_ (ma0 [(0, .go (owns 0 0 1)), (1, .go (owns 1 0 1))] [4] (fun _ => [(5, .int .i64 0)]) (fun _ L => (L.set 1 (bx (γ1 1) (#[.slice q333 n333 c333]) 36))) (fun _ => ds_ (rt (owns 1 0 1) (.tuple #[.agg #[.slice q333 n333 c333], .int .i64 0]) ?_))))))))
    obtain rfl : er333 = 0 := by omega
    exact fun w' hw => ⟨_, _, _, _, _, _, _, _, rfl, hO333, hG333, wt_tail (Hs.pick [[bx (γ11 0) (#[.slice q333 n333 c333]) 36], [bx (γ1 1) (#[.slice q333 n333 c333]) 36], [bx (γ1 0) (#[.slice q m capq]) 36], Y333, Yz333, YX333] [3, 4, 5] [0, 1, 2] (by kernel_rfl) hw), .inr (.inr ⟨(by first | assumption | rfl), rfl, hP333⟩)⟩
end Go.Proofs.YtahccegfahghfaaDoor

/-! Gangs: Form; plain. -/
namespace Go.Proofs.YtahccegfahghfaaDoor
open Go Go.RowKit
/-- The first number that is free, from i on. -/
def gapV : Nat → Gs → Nat
  | i, [] => i
  | i, g :: t => if g.1 = (i : Int) + 1 then gapV (i + 1) t else i
/-- It is in one of these gangs. -/
def inV (gs : Gs) (k : Int) : Bool := gs.any fun g => decide (k ∈ g.2)
/-- What Form does to a copy: gangs, the number, the error. -/
def formC (gs : Gs) (l : List Int) : Gs × Int × Int :=
  if mayB l = false then (gs, 0, 2) else if l.any (inV gs) = true then (gs, 0, 5) else if gapV 0 gs = 8 then (gs, 0, 6)
  else (gs.take (gapV 0 gs) ++ [(((gapV 0 gs : Nat) : Int) + 1, l)] ++ gs.drop (gapV 0 gs), ((gapV 0 gs : Nat) : Int) + 1, 0)
/-- What Form answers. -/
def formV (gs : Gs) (l : List Int) : Gs × Int × Int :=
  if gangB gs = false then ([], 0, 240) else if (formC gs l).2.2 = 0 then formC gs l else ([], (formC gs l).2.1, (formC gs l).2.2)
theorem drop_atG {α : Type} {l : List α} {x : α} {j : Nat} (hx : l[j]? = some x) : l.drop j = x :: l.drop (j + 1) := by
  obtain ⟨hl, he⟩ := List.getElem?_eq_some_iff.1 hx
  rw [← he]; exact List.drop_eq_getElem_cons hl
section
variable {gs : Gs} {l : List Int} {T : TypeId} {Yi Y : List Ob} {bl : List GngA} {x : GngA} {j : Nat} {k : Int} {g : Int × List Int} {t : Gs}
theorem fc_arg (h : mayB l = false) : formC gs l = (gs, 0, 2) := by rw [formC, if_pos h]
theorem fc_there (h : mayB l = true) (h2 : l.any (inV gs) = true) : formC gs l = (gs, 0, 5) := by rw [formC, if_neg (by rw [h]; decide), if_pos h2]
theorem fc_full (h : mayB l = true) (h2 : l.any (inV gs) = false) (hg : j = gapV 0 gs) (h3 : j = 8) : formC gs l = (gs, 0, 6) := by rw [formC, if_neg (by rw [h]; decide), if_neg (by rw [h2]; decide), if_pos (by omega)]
theorem fc_ok (h : mayB l = true) (h2 : l.any (inV gs) = false) (hg : j = gapV 0 gs) (h3 : ¬ j = 8) : formC gs l = (gs.take j ++ [((j : Int) + 1, l)] ++ gs.drop j, (j : Int) + 1, 0) := by
  subst hg; rw [formC, if_neg (by rw [h]; decide), if_neg (by rw [h2]; decide), if_neg h3]
theorem gap_on (h : g.1 = (j : Int) + 1) : gapV j (g :: t) = gapV (j + 1) t := by rw [gapV, if_pos h]
theorem gap_no (h : ¬ g.1 = (j : Int) + 1) : gapV j (g :: t) = j := by rw [gapV, if_neg h]
theorem inG_val : inG bl = inV (bl.map GngA.val) := by
  funext k
  unfold inG inV
  rw [List.any_map]
  show decide (0 ≤ idxF (hasG k) bl) = bl.any (hasG k)
  rcases idxF_cases (hasG k) bl with ⟨hix, hn⟩ | ⟨i0, x0, hix, hx0, hp0, _⟩
  · rw [hix]
    rw [List.any_eq_false.2 (fun x hx h => Bool.false_ne_true ((hn x hx).symm.trans h))]
    rfl
  · rw [hix, List.any_eq_true.2 ⟨x0, List.mem_of_getElem? hx0, hp0⟩]
    exact decide_eq_true (by omega)
theorem val_ins : (bl.take j ++ [x] ++ bl.drop j).map GngA.val = (bl.map GngA.val).take j ++ [x.val] ++ (bl.map GngA.val).drop j := by
  rw [List.map_append, List.map_append, List.map_take, List.map_drop]; rfl
theorem GotG.ins (h : GotG T Yi bl) (hx : SlO T Y x.p x.n x.cap x.l) (hj : j ≤ bl.length) : ∃ Yi2, (Yi ++ Y).Perm Yi2 ∧ GotG T Yi2 (bl.take j ++ [x] ++ bl.drop j) := by
  obtain ⟨Ys, rfl, hl, hs⟩ := h
  rw [List.length_map] at hl
  refine ⟨(Ys.take j ++ [Y] ++ Ys.drop j).flatten, ?_, Ys.take j ++ [Y] ++ Ys.drop j, rfl, by simp [hl], fun i Z z h1 h2 => ?_⟩
  · conv => lhs; rw [← List.take_append_drop j Ys]
    simp only [List.flatten_append, List.flatten_cons, List.flatten_nil, List.append_nil, List.append_assoc]
    exact List.Perm.append_left _ List.perm_append_comm
  · rw [List.getElem?_map] at h2
    have ht : (Ys.take j).length = j := by rw [List.length_take]; omega
    have ht2 : (bl.take j).length = j := by rw [List.length_take]; omega
    by_cases hi : i < j
    · rw [List.append_assoc, List.getElem?_append_left (by omega), List.getElem?_take, if_pos hi] at h1 h2
      exact hs i Z z h1 (by rw [List.getElem?_map]; exact h2)
    · rw [List.append_assoc, List.getElem?_append_right (by omega)] at h1 h2
      rw [ht] at h1; rw [ht2] at h2
      by_cases he : i = j
      · subst he
        simp at h1 h2
        subst h1; subst h2
        exact hx
      · obtain ⟨d, hd⟩ : ∃ d, i - j = d + 1 := ⟨i - j - 1, by omega⟩
        rw [hd] at h1 h2
        simp only [List.cons_append, List.nil_append, List.getElem?_cons_succ, List.getElem?_drop] at h1 h2
        exact hs (j + d) Z z h1 (by rw [List.getElem?_map]; exact h2)
theorem got_small (h : GotG T Yi bl) (hg : gangB (bl.map GngA.val) = true) : ∀ x ∈ bl, x.n ≤ 1000 := fun x hx => by
  obtain ⟨Z, _, hz⟩ := GotR.own h (List.mem_map_of_mem (f := GngA.row) hx)
  have h1 := (gang_pre hg 0).2.1 x.val (List.mem_map_of_mem hx)
  have h2 := may_len h1
  have h3 : x.row.n = x.row.l.length := hz.facts.1
  have h4 : x.n = x.l.length := h3
  have h5 : x.l.length ≤ 8 := h2.2
  omega
end
end Go.Proofs.YtahccegfahghfaaDoor

/-! Gangs: what Form does to a copy. -/
namespace Go.Proofs.YtahccegfahghfaaDoor
open Go Go.RowKit
theorem form_perm {w0 w : World} {a b c : Ob} {Y Yi Yc Yq YR : List Ob} (hp : (Yi ++ Yc).Perm Yq) (h : Hs w0 (a :: b :: c :: (Y ++ (Yi ++ (Yc ++ YR)))) w) : Hs w0 (a :: b :: c :: (Y ++ (Yq ++ YR))) w := by
 refine h.perm (.cons _ (.cons _ (.cons _ (List.Perm.append_left _ ?_))))
 rw [← List.append_assoc]
 exact hp.append_right _

set_option maxRecDepth 100000 in
theorem form1_t (w0 : World) (Y Yi YR : List Ob) (gb gm gi : Nat) (q : Option Addr) (m capq : Nat) (bl : List GngA) (p : Option Addr) (n cap : Nat) (l : List Int) (w : World)
 (hsl : Sv w0 p l) (hn : n = l.length) (hb : n ≤ 1000) (hbm : m ≤ 1000) (hO : SlO 62 Y q m capq bl) (hG : GotG 3 Yi bl) (hgd : gangB (bl.map GngA.val) = true) (hH : Hs w0 (bx gb #[.slice q m capq] 36 :: bx gm #[.slice p n cap] 27 :: bx gi #[.int .i64 0] 3 :: (Y ++ (Yi ++ YR))) w)
 : Calls Tryd.prog 26 #[.pointer (some ⟨gb, 0, none⟩), .pointer (some ⟨gm, 0, none⟩), .pointer (some ⟨gi, 0, none⟩)] w fun e w' => ∃ er q2 n2 c2 Y2 Yi2 bl2 idn, e = .returned (.int .i64 er) ∧ (bl2.map GngA.val, idn, er) = formC (bl.map GngA.val) l ∧ SlO 62 Y2 q2 n2 c2 bl2 ∧ GotG 3 Yi2 bl2 ∧ Hs w0 (bx gb #[.slice q2 n2 c2] 36 :: bx gm #[.slice p n cap] 27 :: bx gi #[.int .i64 idn] 3 :: (Y2 ++ (Yi2 ++ YR))) w' := by
 have hma := hO.len
 have hm9 := got_small hG hgd
 rw [show YR = YR ++ [] from (List.append_nil _).symm] at hH
 refine enter hH Tryd.func26 rfl Tryd.ntmps26 rfl (sq_ (ma0 [] [1, 2] (fun γ1 => [(3, .pointer (some ⟨γ1 0, 0, none⟩))]) (fun γ1 L => bx (γ1 0) (#[.pointer (some ⟨gb, 0, none⟩)]) 56 :: L) (fun γ1 => ds_ (sq_ (sq_ (ao_ (qo0 1 [(0, .go (owns 2 0 1))] [1, 2, 3] [(6, .slice p n cap)] ?_)))))))
 rcases q3 : mayB l with _ | _
 ·
  refine cD (.bool false) (fun args w => Tryd.call27 args w) (fun w hw => by have := may_t p n cap l w (hsl.kept hw.below) hn (by omega); rw [q3] at this; exact this) (qo0 1 [] [1, 2, 3] [(8, .bool true)] (on_ (ds_ (t_ (sq_ (qa0 [] [] [(4, .int .i64 2)] (ds_ (rt ([]) (.int .i64 2) ?_))))))))
  exact fun w' hw => ⟨_, _, _, _, _, _, bl, 0, rfl, (fc_arg q3).symm, hO, hG, (by have := Hs.pick [[bx (γ1 0) (#[.pointer (some ⟨gb, 0, none⟩)]) 56], [bx gb (#[.slice q m capq]) 36], [bx gm (#[.slice p n cap]) 27], [bx gi (#[.int .i64 0]) 3], Y, Yi, YR] [1, 2, 3, 4, 5, 6] [0] (by kernel_rfl) hw; simpa [chunk] using this)⟩
 ·
  refine cD (.bool true) (fun args w => Tryd.call27 args w) (fun w hw => by have := may_t p n cap l w (hsl.kept hw.below) hn (by omega); rw [q3] at this; exact this) (qo0 1 [] [1, 2, 3] [(8, .bool false)] (on_ (ds_ (f_ (at_skip (ds_ (sq_ (sq_ (ao_ (qo0 2 [(0, .go (owns 2 0 1))] [1, 2, 3] [(9, .slice p n cap), (10, .func (.func 29) #[] #[.pointer (some ⟨γ1 0, 0, none⟩)])] ?_))))))))))
  rcases q8 : l.any (inG bl) with _ | _
  ·
   refine cD (.bool false) (fun args w => Tryd.call28 args w) (fun w hw => by have := containsf_t _ (bx (γ1 0) (#[.pointer (some ⟨gb, 0, none⟩)]) 56 :: bx gb (#[.slice q m capq]) 36 :: bx gm (#[.slice p n cap]) 27 :: bx gi (#[.int .i64 0]) 3 :: (Y ++ (Yi ++ (YR ++ [])))) 29 #[.pointer (some ⟨γ1 0, 0, none⟩)] (inG bl) p n cap l w (fun args w => Tryd.call29 args w) hw (hsl.kept hw.below) hn (by omega) (fun x hx w' hX => form11_t q m capq bl (γ1 0) gb x w' (SlO.sub hO hX (List.Sublist.cons _ (List.Sublist.cons _ (List.Sublist.cons _ (List.Sublist.cons _ (List.sublist_append_left Y _)))))) hma (by omega) (GotG.reads hG hX (List.Sublist.cons _ (List.Sublist.cons _ (List.Sublist.cons _ (List.Sublist.cons _ (List.Sublist.trans (List.sublist_append_left Yi _) (List.sublist_append_right Y _))))))) hm9 (rd_one14 (hX.row 0 rfl)) (rd_one14 (hX.row 1 rfl))); rw [q8] at this; exact this) (on_ (ds_ (f_ (at_skip (ds_ (sq_ (qa0 [] [1, 2, 3] [(5, .int .i64 0)] (ds_ (sq_ (at_block (at_loop (α := Nat) [1, 2, 3, 5] (fun j => [(1, .pointer (some ⟨gm, 0, none⟩)), (2, .pointer (some ⟨gi, 0, none⟩)), (3, .pointer (some ⟨γ1 0, 0, none⟩)), (5, .int .i64 (j : Nat))]) (fun j => bx (γ1 0) (#[.pointer (some ⟨gb, 0, none⟩)]) 56 :: bx gb (#[.slice q m capq]) 36 :: bx gm (#[.slice p n cap]) 27 :: bx gi (#[.int .i64 0]) 3 :: (Y ++ (Yi ++ (YR ++ [])))) (fun j => j ≤ m ∧ gapV j ((bl.map GngA.val).drop j) = gapV 0 (bl.map GngA.val)) (fun j => m - j) 0 (by kernel_rfl) rfl ⟨Nat.zero_le _, rfl⟩ ?_)))))))))))
   rintro j
   rintro ⟨hj, hI⟩
   refine sq_ (sq_ ?_)
   by_cases q12 : ((j : Nat) : Int) < ((m : Nat) : Int)
   ·
    have hln14 := hO.len
    obtain ⟨g14, cs14, rfl, rfl, hOw14⟩ := hO.rowOf (i := j) (by omega)
    refine ao_ (qo 14 [(1, .go (owns 0 0 1)), (4, .go (owns 1 0 1)), (6, .yes), (8, .go (owns 0 0 1)), (11, .go (owns 1 0 1)), (13, .at g14 0 j)] [1, 2, 3, 5] [(19, .bool true), (25, .pointer (some ⟨g14, 0 + j * 2, none⟩))] ([((j : Nat) : Int) < ((m : Nat) : Int)] ++ ([(some ⟨g14, 0, none⟩ : Option Addr) = some ⟨g14, 0, none⟩, (j : Nat) = ((j : Nat) : Int), j < m])) (alA (al1 q12) (al2 rfl (al2 rfl (al1 (by omega))))) ?_)
    obtain ⟨x17, hx17⟩ := get_some (l := bl) (m := j) (by omega)
    by_cases q19 : (x17.id : Int) = ((j + 1 : Nat) : Int)
    ·
     refine qo 6 [(15, .go (ownps 4 (0 + j * 2) [.int .i64 x17.id])), (17, .fit), (18, .yes)] [1, 2, 3, 5] [(31, .bool true)] (acellsP cs14 (0 + j * 2) [.int .i64 x17.id] ++ ([Fit .i64 ((j + 1 : Nat))] ++ ([(x17.id : Int) = ((j + 1 : Nat) : Int)]))) (alA (rda_pre (hOw14.rdx hO.len hx17) _ rfl) (alA (al1 (fit64 (by omega) (by omega))) (al1 q19))) (on_ (ds_ (t_ (at_skip (ds_ (at_block (qa [(1, .fit)] [1, 2, 3] [(5, .int .i64 (j + 1 : Nat))] ([Fit .i64 ((j + 1 : Nat))]) (al1 (fit64 (by omega) (by omega))) (done_block ?_))))))))
     exact dr [1, 2, 3, 5] (j + 1) ⟨by omega, by rw [drop_atG (val_at hx17), gap_on (show x17.id = _ by omega)] at hI; exact hI⟩
    ·
     refine qo 6 [(15, .go (ownps 4 (0 + j * 2) [.int .i64 x17.id])), (17, .fit), (18, .no)] [1, 2, 3, 5] [(31, .bool false)] (acellsP cs14 (0 + j * 2) [.int .i64 x17.id] ++ ([Fit .i64 ((j + 1 : Nat))] ++ ([¬ ((x17.id : Int) = ((j + 1 : Nat) : Int))]))) (alA (rda_pre (hOw14.rdx hO.len hx17) _ rfl) (alA (al1 (fit64 (by omega) (by omega))) (al1 q19))) (on_ (ds_ (f_ (at_leave _ rfl (ds_ (sq_ (sq_ ?_)))))))
     rw [drop_atG (val_at hx17), gap_no (show ¬ x17.id = _ by omega)] at hI
     refine At.pick [[bx (γ1 0) (#[.pointer (some ⟨gb, 0, none⟩)]) 56], [bx gb (#[.slice (some ⟨g14, 0, none⟩) m capq]) 36], [bx gm (#[.slice p n cap]) 27], [bx gi (#[.int .i64 0]) 3], [bx g14 cs14 62], Yi, YR] [0, 1, 2, 3, 4, 5, 6] [] (bx (γ1 0) (#[.pointer (some ⟨gb, 0, none⟩)]) 56 :: bx gb (#[.slice (some ⟨g14, 0, none⟩) m capq]) 36 :: bx gm (#[.slice p n cap]) 27 :: bx gi (#[.int .i64 0]) 3 :: ([bx g14 cs14 62] ++ (Yi ++ (YR ++ [])))) (by kernel_rfl) rfl rfl ?_
     by_cases q24 : ((j : Nat) : Int) = (8 : Int)
     ·
      refine qa [(1, .yes)] [1, 2, 3, 5] [(35, .bool true)] ([((j : Nat) : Int) = (8 : Int)]) (al1 q24) (ds_ (t_ (sq_ (qa0 [] [] [(4, .int .i64 6)] (ds_ (rt ([]) (.int .i64 6) ?_))))))
      exact fun w' hw => ⟨_, _, _, _, _, _, bl, 0, rfl, by rw [inG_val] at q8; exact (fc_full q3 q8 hI (by omega)).symm, hO, hG, (by have := Hs.pick [[bx (γ1 0) (#[.pointer (some ⟨gb, 0, none⟩)]) 56], [bx gb (#[.slice (some ⟨g14, 0, none⟩) m capq]) 36], [bx gm (#[.slice p n cap]) 27], [bx gi (#[.int .i64 0]) 3], [bx g14 cs14 62], Yi, YR] [1, 2, 3, 4, 5, 6] [0] (by kernel_rfl) hw; simpa [chunk] using this)⟩
     ·
      refine qa [(1, .no)] [1, 2, 3, 5] [(35, .bool false)] ([¬ (((j : Nat) : Int) = (8 : Int))]) (al1 q24) (ds_ (f_ (at_skip (ds_ (sq_ (ma [(1, .fit), (2, .go (owns 3 0 1))] [1, 2, 3, 5] (fun _ => []) (fun _ L => (L.set 3 (bx gi (#[.int .i64 (j + 1 : Nat)]) 3))) (fun _ => [Fit .i64 ((j + 1 : Nat))]) (fun _ => (al1 (fit64 (by omega) (by omega)))) (fun _ => ds_ (sq_ ?_))))))))
      refine at_any (by kernel_rfl) ?_
      refine tk (m := 14) [5] [] [1, 2, 3] [(43, .int .i64 (j : Nat))] ([]) #[false, false, false, false, false, true, false, false, false, false, false, false, false, false, false] al0 ?_
      refine any_cutX (V := (List Ob) × (List Ob) × (Nat) × (Nat) × (Option Addr) × (Option Addr) × (Nat → Nat)) (fun ⟨Y192, Y252, cq192, cq252, q192, q252, γ232⟩ => SlO 3 Y192 q192 n cq192 l ∧ SlO 62 Y252 q252 (m + 1) cq252 (bl.take j ++ [(⟨(j + 1 : Nat), q192, n, cq192, l⟩ : GngA)] ++ bl.drop j)) 0 #[true, true, true, true, true, true, true, true, true, true, true, true, true, true, true] (fun ⟨Y192, Y252, cq192, cq252, q192, q252, γ232⟩ => []) (fun ⟨Y192, Y252, cq192, cq252, q192, q252, γ232⟩ => bx (γ1 0) (#[.pointer (some ⟨gb, 0, none⟩)]) 56 :: bx gb (#[.slice q252 (m + 1) cq252]) 36 :: bx gm (#[.slice p n cap]) 27 :: bx gi (#[.int .i64 (j + 1 : Nat)]) 3 :: (Y192 ++ (Y252 ++ (Yi ++ (YR ++ []))))) ?_ (fun hmx44 => ?_)
      rotate_left
      ·
       refine any_cutX (V := (List Ob) × (List Ob) × (Nat) × (Nat) × (Option Addr) × (Option Addr) × (Nat → Nat)) (fun ⟨Y192, Y252, cq192, cq252, q192, q252, γ232⟩ => SlO 3 Y192 q192 n cq192 l ∧ SlO 62 Y252 q252 (m + 1) cq252 (bl.take j ++ [(⟨(j + 1 : Nat), q192, n, cq192, l⟩ : GngA)] ++ bl.drop j)) 1 #[true, true, true, true, true, true, true, true, true, true, true, true, true, true, false] (fun ⟨Y192, Y252, cq192, cq252, q192, q252, γ232⟩ => [(49, .slice q252 (m + 1) cq252), (51, .pointer (some ⟨gb, 0, none⟩))]) (fun ⟨Y192, Y252, cq192, cq252, q192, q252, γ232⟩ => bx (γ1 0) (#[.pointer (some ⟨gb, 0, none⟩)]) 56 :: bx gb (#[.slice (some ⟨g14, 0, none⟩) m capq]) 36 :: bx gm (#[.slice p n cap]) 27 :: bx gi (#[.int .i64 (j + 1 : Nat)]) 3 :: (Y192 ++ (Y252 ++ (Yi ++ (YR ++ []))))) ?_ (fun hmx43 => ?_)
       ·
        rintro ⟨Y192, Y252, cq192, cq252, q192, q252, γ232⟩ ⟨hO192, hO252⟩
        refine a1 14 rfl ?_
        refine mo0 1 [(14, .go (owns 1 0 1))] [] (fun _ => []) (fun _ L => (L.set 1 (bx gb (#[.slice q252 (m + 1) cq252]) 36))) (fun _ => ?_)
        refine od_ ?_
        exact wk (hmx44 (Y192, Y252, cq192, cq252, q192, q252, γ232) ⟨hO192, hO252⟩) [] [[_], [_], [_], [_], _, _, _, _] [0, 1, 2, 3, 4, 5, 6, 7] rfl rfl
       refine any_cutX (V := (List Ob) × (List Ob) × (Nat) × (Nat) × (Option Addr) × (Option Addr) × (Nat → Nat)) (fun ⟨Y192, Y252, cq192, cq252, q192, q252, γ232⟩ => SlO 3 Y192 q192 n cq192 l ∧ SlO 62 Y252 q252 (m + 1) cq252 (bl.take j ++ [(⟨(j + 1 : Nat), q192, n, cq192, l⟩ : GngA)] ++ bl.drop j)) 4 #[false, true, true, true, true, true, true, true, true, true, true, true, false, false, false] (fun ⟨Y192, Y252, cq192, cq252, q192, q252, γ232⟩ => [(3, .pointer (some ⟨γ1 0, 0, none⟩)), (49, .slice q252 (m + 1) cq252)]) (fun ⟨Y192, Y252, cq192, cq252, q192, q252, γ232⟩ => bx (γ1 0) (#[.pointer (some ⟨gb, 0, none⟩)]) 56 :: bx gb (#[.slice (some ⟨g14, 0, none⟩) m capq]) 36 :: bx gm (#[.slice p n cap]) 27 :: bx gi (#[.int .i64 (j + 1 : Nat)]) 3 :: (Y192 ++ (Y252 ++ (Yi ++ (YR ++ []))))) ?_ (fun hmx42 => ?_)
       ·
        rintro ⟨Y192, Y252, cq192, cq252, q192, q252, γ232⟩ ⟨hO192, hO252⟩
        refine a1 0 rfl ?_
        refine qo0 1 [(0, .go (owns 0 0 1))] [49] [(38, .pointer (some ⟨gb, 0, none⟩))] ?_
        refine od_ ?_
        refine tk (m := 1) [12, 13] [] [49] [(51, .pointer (some ⟨gb, 0, none⟩))] ([]) #[true, true, true, true, true, true, true, true, true, true, true, true, true, true, false] al0 ?_
        exact wk (hmx43 (Y192, Y252, cq192, cq252, q192, q252, γ232) ⟨hO192, hO252⟩) [49, 51] [[_], [_], [_], [_], _, _, _, _] [0, 1, 2, 3, 4, 5, 6, 7] rfl rfl
       refine any_cutX (V := (List Ob) × (Nat) × (Option Addr) × (Nat → Nat)) (fun ⟨Y192, cq192, q192, γ232⟩ => SlO 3 Y192 q192 n cq192 l) 4 #[true, true, true, true, true, true, true, true, true, true, true, false, false, false, false] (fun ⟨Y192, cq192, q192, γ232⟩ => [(38, .pointer (some ⟨gb, 0, none⟩)), (42, .slice (some ⟨g14, 0, none⟩) m capq), (43, .int .i64 (j : Nat)), (48, .slice (some ⟨γ232 0, 0, none⟩) 1 1)]) (fun ⟨Y192, cq192, q192, γ232⟩ => bx (γ232 0) (#[.int .i64 (j + 1 : Nat), .slice q192 n cq192]) 62 :: bx (γ1 0) (#[.pointer (some ⟨gb, 0, none⟩)]) 56 :: bx gb (#[.slice (some ⟨g14, 0, none⟩) m capq]) 36 :: bx gm (#[.slice p n cap]) 27 :: bx gi (#[.int .i64 (j + 1 : Nat)]) 3 :: (Y192 ++ ([bx g14 cs14 62] ++ (Yi ++ (YR ++ []))))) ?_ (fun hmx41 => ?_)
       ·
        rintro ⟨Y192, cq192, q192, γ232⟩ hO192
        refine a1 11 rfl ?_
        refine Ops.pick [[bx (γ232 0) (#[.int .i64 (j + 1 : Nat), .slice q192 n cq192]) 62], [bx (γ1 0) (#[.pointer (some ⟨gb, 0, none⟩)]) 56], [bx gb (#[.slice (some ⟨g14, 0, none⟩) m capq]) 36], [bx gm (#[.slice p n cap]) 27], [bx gi (#[.int .i64 (j + 1 : Nat)]) 3], Y192, [bx g14 cs14 62], Yi, YR] [0, 1, 2, 3, 4, 6, 5, 7, 8] [] (bx (γ232 0) (#[.int .i64 (j + 1 : Nat), .slice q192 n cq192]) 62 :: bx (γ1 0) (#[.pointer (some ⟨gb, 0, none⟩)]) 56 :: bx gb (#[.slice (some ⟨g14, 0, none⟩) m capq]) 36 :: bx gm (#[.slice p n cap]) 27 :: bx gi (#[.int .i64 (j + 1 : Nat)]) 3 :: ([bx g14 cs14 62] ++ (Y192 ++ (Yi ++ (YR ++ []))))) (by kernel_rfl) rfl rfl (cP (fun v L' => ∃ q_ capq_ Y_, v = .slice q_ (m + 1) capq_ ∧ L' = [bx (γ1 0) (#[.pointer (some ⟨gb, 0, none⟩)]) 56, bx gb (#[.slice (some ⟨g14, 0, none⟩) m capq]) 36, bx gm (#[.slice p n cap]) 27, bx gi (#[.int .i64 (j + 1 : Nat)]) 3] ++ (Y_ ++ (Y192 ++ (Yi ++ (YR ++ [])))) ∧ SlO 62 Y_ q_ (m + 1) capq_ (bl.take j ++ [(⟨(j + 1 : Nat), q192, n, cq192, l⟩ : GngA)] ++ bl.drop j)) (fun args w => Tryd.call31 args w) (fun w hw => (ginsert_t _ ([bx (γ1 0) (#[.pointer (some ⟨gb, 0, none⟩)]) 56, bx gb (#[.slice (some ⟨g14, 0, none⟩) m capq]) 36, bx gm (#[.slice p n cap]) 27, bx gi (#[.int .i64 (j + 1 : Nat)]) 3] ++ (Y192 ++ (Yi ++ (YR ++ [])))) [bx g14 cs14 62] (some ⟨g14, 0, none⟩) m capq bl j (γ232 0) (#[.int .i64 (j + 1 : Nat), .slice q192 n cq192]) 1 ([(⟨(j + 1 : Nat), q192, n, cq192, l⟩ : GngA)]) w (hw.pull (A := [bx (γ1 0) (#[.pointer (some ⟨gb, 0, none⟩)]) 56, bx gb (#[.slice (some ⟨g14, 0, none⟩) m capq]) 36, bx gm (#[.slice p n cap]) 27, bx gi (#[.int .i64 (j + 1 : Nat)]) 3]) (Y := [bx g14 cs14 62]) (R := (Y192 ++ (Yi ++ (YR ++ []))))) hO (by rfl) (by rfl) (by omega) (by omega) (by omega) (by omega)).mono fun e w' ⟨q_, capq_, Y_, he, hO, hY⟩ => ⟨_, _, he, ⟨q_, capq_, Y_, rfl, rfl, hO⟩, hY.push⟩) ?_)
        rintro v252 L252 ⟨q252, cq252, Y252, rfl, rfl, hO252⟩
        refine od_ ?_
        refine tk (m := 1) [12, 13] [] [49] [(51, .pointer (some ⟨gb, 0, none⟩))] ([]) #[true, true, true, true, true, true, true, true, true, true, true, true, true, true, false] al0 ?_
        exact wk (hmx43 (Y192, Y252, cq192, cq252, q192, q252, γ232) ⟨hO192, hO252⟩) [49, 51] [[_], [_], [_], [_], _, _, _, _] [0, 1, 2, 3, 5, 4, 6, 7] rfl rfl
       refine any_cutX (V := (List Ob) × (Nat) × (Option Addr) × (Nat → Nat)) (fun ⟨Y192, cq192, q192, γ232⟩ => SlO 3 Y192 q192 n cq192 l) 5 #[false, true, true, true, true, true, true, true, true, true, true, false, false, false, false] (fun ⟨Y192, cq192, q192, γ232⟩ => [(3, .pointer (some ⟨γ1 0, 0, none⟩)), (42, .slice (some ⟨g14, 0, none⟩) m capq), (43, .int .i64 (j : Nat)), (48, .slice (some ⟨γ232 0, 0, none⟩) 1 1)]) (fun ⟨Y192, cq192, q192, γ232⟩ => bx (γ232 0) (#[.int .i64 (j + 1 : Nat), .slice q192 n cq192]) 62 :: bx (γ1 0) (#[.pointer (some ⟨gb, 0, none⟩)]) 56 :: bx gb (#[.slice (some ⟨g14, 0, none⟩) m capq]) 36 :: bx gm (#[.slice p n cap]) 27 :: bx gi (#[.int .i64 (j + 1 : Nat)]) 3 :: (Y192 ++ ([bx g14 cs14 62] ++ (Yi ++ (YR ++ []))))) ?_ (fun hmx40 => ?_)
       ·
        rintro ⟨Y192, cq192, q192, γ232⟩ hO192
        refine any_fork [0, 11] (by kernel_rfl) (by simp) (each_cons _ rfl ?_ (each_cons _ rfl ?_ (each_nil)))
        ·
         refine qo0 1 [(0, .go (owns 1 0 1))] [42, 43, 48] [(38, .pointer (some ⟨gb, 0, none⟩))] ?_
         refine od_ ?_
         exact wk (hmx41 (Y192, cq192, q192, γ232) hO192) [38, 42, 43, 48] [[_], [_], [_], [_], [_], _, [bx g14 cs14 62], _, _] [0, 1, 2, 3, 4, 5, 6, 7, 8] rfl rfl
        ·
         refine Ops.pick [[bx (γ232 0) (#[.int .i64 (j + 1 : Nat), .slice q192 n cq192]) 62], [bx (γ1 0) (#[.pointer (some ⟨gb, 0, none⟩)]) 56], [bx gb (#[.slice (some ⟨g14, 0, none⟩) m capq]) 36], [bx gm (#[.slice p n cap]) 27], [bx gi (#[.int .i64 (j + 1 : Nat)]) 3], Y192, [bx g14 cs14 62], Yi, YR] [0, 1, 2, 3, 4, 6, 5, 7, 8] [] (bx (γ232 0) (#[.int .i64 (j + 1 : Nat), .slice q192 n cq192]) 62 :: bx (γ1 0) (#[.pointer (some ⟨gb, 0, none⟩)]) 56 :: bx gb (#[.slice (some ⟨g14, 0, none⟩) m capq]) 36 :: bx gm (#[.slice p n cap]) 27 :: bx gi (#[.int .i64 (j + 1 : Nat)]) 3 :: ([bx g14 cs14 62] ++ (Y192 ++ (Yi ++ (YR ++ []))))) (by kernel_rfl) rfl rfl (cP (fun v L' => ∃ q_ capq_ Y_, v = .slice q_ (m + 1) capq_ ∧ L' = [bx (γ1 0) (#[.pointer (some ⟨gb, 0, none⟩)]) 56, bx gb (#[.slice (some ⟨g14, 0, none⟩) m capq]) 36, bx gm (#[.slice p n cap]) 27, bx gi (#[.int .i64 (j + 1 : Nat)]) 3] ++ (Y_ ++ (Y192 ++ (Yi ++ (YR ++ [])))) ∧ SlO 62 Y_ q_ (m + 1) capq_ (bl.take j ++ [(⟨(j + 1 : Nat), q192, n, cq192, l⟩ : GngA)] ++ bl.drop j)) (fun args w => Tryd.call31 args w) (fun w hw => (ginsert_t _ ([bx (γ1 0) (#[.pointer (some ⟨gb, 0, none⟩)]) 56, bx gb (#[.slice (some ⟨g14, 0, none⟩) m capq]) 36, bx gm (#[.slice p n cap]) 27, bx gi (#[.int .i64 (j + 1 : Nat)]) 3] ++ (Y192 ++ (Yi ++ (YR ++ [])))) [bx g14 cs14 62] (some ⟨g14, 0, none⟩) m capq bl j (γ232 0) (#[.int .i64 (j + 1 : Nat), .slice q192 n cq192]) 1 ([(⟨(j + 1 : Nat), q192, n, cq192, l⟩ : GngA)]) w (hw.pull (A := [bx (γ1 0) (#[.pointer (some ⟨gb, 0, none⟩)]) 56, bx gb (#[.slice (some ⟨g14, 0, none⟩) m capq]) 36, bx gm (#[.slice p n cap]) 27, bx gi (#[.int .i64 (j + 1 : Nat)]) 3]) (Y := [bx g14 cs14 62]) (R := (Y192 ++ (Yi ++ (YR ++ []))))) hO (by rfl) (by rfl) (by omega) (by omega) (by omega) (by omega)).mono fun e w' ⟨q_, capq_, Y_, he, hO, hY⟩ => ⟨_, _, he, ⟨q_, capq_, Y_, rfl, rfl, hO⟩, hY.push⟩) ?_)
         rintro v252 L252 ⟨q252, cq252, Y252, rfl, rfl, hO252⟩
         refine od_ ?_
         exact wk (hmx42 (Y192, Y252, cq192, cq252, q192, q252, γ232) ⟨hO192, hO252⟩) [3, 49] [[_], [_], [_], [_], _, _, _, _] [0, 1, 2, 3, 5, 4, 6, 7] rfl rfl
       refine any_cutX (V := (List Ob) × (Nat) × (Option Addr)) (fun ⟨Y192, cq192, q192⟩ => SlO 3 Y192 q192 n cq192 l) 5 #[true, true, true, true, true, true, true, true, true, true, false, false, false, false, false] (fun ⟨Y192, cq192, q192⟩ => [(38, .pointer (some ⟨gb, 0, none⟩)), (42, .slice (some ⟨g14, 0, none⟩) m capq), (43, .int .i64 (j : Nat)), (47, .agg #[.int .i64 (j + 1 : Nat), .slice q192 n cq192])]) (fun ⟨Y192, cq192, q192⟩ => bx (γ1 0) (#[.pointer (some ⟨gb, 0, none⟩)]) 56 :: bx gb (#[.slice (some ⟨g14, 0, none⟩) m capq]) 36 :: bx gm (#[.slice p n cap]) 27 :: bx gi (#[.int .i64 (j + 1 : Nat)]) 3 :: (Y192 ++ ([bx g14 cs14 62] ++ (Yi ++ (YR ++ []))))) ?_ (fun hmx39 => ?_)
       ·
        rintro ⟨Y192, cq192, q192⟩ hO192
        refine a1 10 rfl ?_
        refine mo0 1 [] [38, 42, 43] (fun γ232 => [(48, .slice (some ⟨γ232 0, 0, none⟩) 1 1)]) (fun γ232 L => bx (γ232 0) (#[.int .i64 (j + 1 : Nat), .slice q192 n cq192]) 62 :: L) (fun γ232 => ?_)
        refine od_ ?_
        exact wk (hmx41 (Y192, cq192, q192, γ232) hO192) [38, 42, 43, 48] [[_], [_], [_], [_], [_], _, [bx g14 cs14 62], _, _] [0, 1, 2, 3, 4, 5, 6, 7, 8] rfl rfl
       refine any_cutX (V := (List Ob) × (Nat) × (Option Addr) × (Nat → Nat)) (fun ⟨Y192, cq192, q192, γ232⟩ => SlO 3 Y192 q192 n cq192 l) 5 #[true, true, true, true, false, true, true, true, true, true, true, false, false, false, false] (fun ⟨Y192, cq192, q192, γ232⟩ => [(38, .pointer (some ⟨gb, 0, none⟩)), (41, .pointer (some ⟨gb, 0, none⟩)), (43, .int .i64 (j : Nat)), (48, .slice (some ⟨γ232 0, 0, none⟩) 1 1)]) (fun ⟨Y192, cq192, q192, γ232⟩ => bx (γ232 0) (#[.int .i64 (j + 1 : Nat), .slice q192 n cq192]) 62 :: bx (γ1 0) (#[.pointer (some ⟨gb, 0, none⟩)]) 56 :: bx gb (#[.slice (some ⟨g14, 0, none⟩) m capq]) 36 :: bx gm (#[.slice p n cap]) 27 :: bx gi (#[.int .i64 (j + 1 : Nat)]) 3 :: (Y192 ++ ([bx g14 cs14 62] ++ (Yi ++ (YR ++ []))))) ?_ (fun hmx38 => ?_)
       ·
        rintro ⟨Y192, cq192, q192, γ232⟩ hO192
        refine a1 4 rfl ?_
        refine qo0 1 [(4, .go (owns 2 0 1))] [38, 43, 48] [(42, .slice (some ⟨g14, 0, none⟩) m capq)] ?_
        refine od_ ?_
        exact wk (hmx41 (Y192, cq192, q192, γ232) hO192) [38, 42, 43, 48] [[_], [_], [_], [_], [_], _, [bx g14 cs14 62], _, _] [0, 1, 2, 3, 4, 5, 6, 7, 8] rfl rfl
       refine any_cutX (V := (List Ob) × (Nat) × (Option Addr)) (fun ⟨Y192, cq192, q192⟩ => SlO 3 Y192 q192 n cq192 l) 6 #[false, true, true, true, true, true, true, true, true, true, false, false, false, false, false] (fun ⟨Y192, cq192, q192⟩ => [(3, .pointer (some ⟨γ1 0, 0, none⟩)), (42, .slice (some ⟨g14, 0, none⟩) m capq), (43, .int .i64 (j : Nat)), (47, .agg #[.int .i64 (j + 1 : Nat), .slice q192 n cq192])]) (fun ⟨Y192, cq192, q192⟩ => bx (γ1 0) (#[.pointer (some ⟨gb, 0, none⟩)]) 56 :: bx gb (#[.slice (some ⟨g14, 0, none⟩) m capq]) 36 :: bx gm (#[.slice p n cap]) 27 :: bx gi (#[.int .i64 (j + 1 : Nat)]) 3 :: (Y192 ++ ([bx g14 cs14 62] ++ (Yi ++ (YR ++ []))))) ?_ (fun hmx37 => ?_)
       ·
        rintro ⟨Y192, cq192, q192⟩ hO192
        refine any_fork [0, 10] (by kernel_rfl) (by simp) (each_cons _ rfl ?_ (each_cons _ rfl ?_ (each_nil)))
        ·
         refine qo0 1 [(0, .go (owns 0 0 1))] [42, 43, 47] [(38, .pointer (some ⟨gb, 0, none⟩))] ?_
         refine od_ ?_
         exact wk (hmx39 (Y192, cq192, q192) hO192) [38, 42, 43, 47] [[_], [_], [_], [_], _, [bx g14 cs14 62], _, _] [0, 1, 2, 3, 4, 5, 6, 7] rfl rfl
        ·
         refine mo0 1 [] [3, 42, 43] (fun γ232 => [(48, .slice (some ⟨γ232 0, 0, none⟩) 1 1)]) (fun γ232 L => bx (γ232 0) (#[.int .i64 (j + 1 : Nat), .slice q192 n cq192]) 62 :: L) (fun γ232 => ?_)
         refine od_ ?_
         exact wk (hmx40 (Y192, cq192, q192, γ232) hO192) [3, 42, 43, 48] [[_], [_], [_], [_], [_], _, [bx g14 cs14 62], _, _] [0, 1, 2, 3, 4, 5, 6, 7, 8] rfl rfl
       refine any_cutX (V := (List Ob) × (Nat) × (Option Addr) × (Nat → Nat)) (fun ⟨Y192, cq192, q192, γ232⟩ => SlO 3 Y192 q192 n cq192 l) 6 #[false, true, true, true, false, true, true, true, true, true, true, false, false, false, false] (fun ⟨Y192, cq192, q192, γ232⟩ => [(3, .pointer (some ⟨γ1 0, 0, none⟩)), (41, .pointer (some ⟨gb, 0, none⟩)), (43, .int .i64 (j : Nat)), (48, .slice (some ⟨γ232 0, 0, none⟩) 1 1)]) (fun ⟨Y192, cq192, q192, γ232⟩ => bx (γ232 0) (#[.int .i64 (j + 1 : Nat), .slice q192 n cq192]) 62 :: bx (γ1 0) (#[.pointer (some ⟨gb, 0, none⟩)]) 56 :: bx gb (#[.slice (some ⟨g14, 0, none⟩) m capq]) 36 :: bx gm (#[.slice p n cap]) 27 :: bx gi (#[.int .i64 (j + 1 : Nat)]) 3 :: (Y192 ++ ([bx g14 cs14 62] ++ (Yi ++ (YR ++ []))))) ?_ (fun hmx36 => ?_)
       ·
        rintro ⟨Y192, cq192, q192, γ232⟩ hO192
        refine any_fork [0, 4] (by kernel_rfl) (by simp) (each_cons _ rfl ?_ (each_cons _ rfl ?_ (each_nil)))
        ·
         refine qo0 1 [(0, .go (owns 1 0 1))] [41, 43, 48] [(38, .pointer (some ⟨gb, 0, none⟩))] ?_
         refine od_ ?_
         exact wk (hmx38 (Y192, cq192, q192, γ232) hO192) [38, 41, 43, 48] [[_], [_], [_], [_], [_], _, [bx g14 cs14 62], _, _] [0, 1, 2, 3, 4, 5, 6, 7, 8] rfl rfl
        ·
         refine qo0 1 [(4, .go (owns 2 0 1))] [3, 43, 48] [(42, .slice (some ⟨g14, 0, none⟩) m capq)] ?_
         refine od_ ?_
         exact wk (hmx40 (Y192, cq192, q192, γ232) hO192) [3, 42, 43, 48] [[_], [_], [_], [_], [_], _, [bx g14 cs14 62], _, _] [0, 1, 2, 3, 4, 5, 6, 7, 8] rfl rfl
       refine any_cutX (V := (List Ob) × (Nat) × (Option Addr)) (fun ⟨Y192, cq192, q192⟩ => SlO 3 Y192 q192 n cq192 l) 6 #[true, true, true, true, false, true, true, true, true, true, false, false, false, false, false] (fun ⟨Y192, cq192, q192⟩ => [(38, .pointer (some ⟨gb, 0, none⟩)), (41, .pointer (some ⟨gb, 0, none⟩)), (43, .int .i64 (j : Nat)), (47, .agg #[.int .i64 (j + 1 : Nat), .slice q192 n cq192])]) (fun ⟨Y192, cq192, q192⟩ => bx (γ1 0) (#[.pointer (some ⟨gb, 0, none⟩)]) 56 :: bx gb (#[.slice (some ⟨g14, 0, none⟩) m capq]) 36 :: bx gm (#[.slice p n cap]) 27 :: bx gi (#[.int .i64 (j + 1 : Nat)]) 3 :: (Y192 ++ ([bx g14 cs14 62] ++ (Yi ++ (YR ++ []))))) ?_ (fun hmx35 => ?_)
       ·
        rintro ⟨Y192, cq192, q192⟩ hO192
        refine any_fork [4, 10] (by kernel_rfl) (by simp) (each_cons _ rfl ?_ (each_cons _ rfl ?_ (each_nil)))
        ·
         refine qo0 1 [(4, .go (owns 1 0 1))] [38, 43, 47] [(42, .slice (some ⟨g14, 0, none⟩) m capq)] ?_
         refine od_ ?_
         exact wk (hmx39 (Y192, cq192, q192) hO192) [38, 42, 43, 47] [[_], [_], [_], [_], _, [bx g14 cs14 62], _, _] [0, 1, 2, 3, 4, 5, 6, 7] rfl rfl
        ·
         refine mo0 1 [] [38, 41, 43] (fun γ232 => [(48, .slice (some ⟨γ232 0, 0, none⟩) 1 1)]) (fun γ232 L => bx (γ232 0) (#[.int .i64 (j + 1 : Nat), .slice q192 n cq192]) 62 :: L) (fun γ232 => ?_)
         refine od_ ?_
         exact wk (hmx38 (Y192, cq192, q192, γ232) hO192) [38, 41, 43, 48] [[_], [_], [_], [_], [_], _, [bx g14 cs14 62], _, _] [0, 1, 2, 3, 4, 5, 6, 7, 8] rfl rfl
       refine any_cutX (V := (List Ob) × (Nat) × (Option Addr)) (fun ⟨Y192, cq192, q192⟩ => SlO 3 Y192 q192 n cq192 l) 7 #[true, true, true, true, true, true, false, true, true, false, false, false, false, false, false] (fun ⟨Y192, cq192, q192⟩ => [(2, .pointer (some ⟨gi, 0, none⟩)), (38, .pointer (some ⟨gb, 0, none⟩)), (42, .slice (some ⟨g14, 0, none⟩) m capq), (43, .int .i64 (j : Nat)), (46, .slice q192 n cq192)]) (fun ⟨Y192, cq192, q192⟩ => bx (γ1 0) (#[.pointer (some ⟨gb, 0, none⟩)]) 56 :: bx gb (#[.slice (some ⟨g14, 0, none⟩) m capq]) 36 :: bx gm (#[.slice p n cap]) 27 :: bx gi (#[.int .i64 (j + 1 : Nat)]) 3 :: (Y192 ++ ([bx g14 cs14 62] ++ (Yi ++ (YR ++ []))))) ?_ (fun hmx34 => ?_)
       ·
        rintro ⟨Y192, cq192, q192⟩ hO192
        refine a1 6 rfl ?_
        refine qo0 1 [(6, .go (owns 3 0 1))] [38, 42, 43, 46] [(44, .int .i64 (j + 1 : Nat))] ?_
        refine od_ ?_
        refine tk (m := 5) [9] [] [38, 42, 43] [(47, .agg #[.int .i64 (j + 1 : Nat), .slice q192 n cq192])] ([]) #[true, true, true, true, true, true, true, true, true, true, false, false, false, false, false] al0 ?_
        exact wk (hmx39 (Y192, cq192, q192) hO192) [38, 42, 43, 47] [[_], [_], [_], [_], _, [bx g14 cs14 62], _, _] [0, 1, 2, 3, 4, 5, 6, 7] rfl rfl
       refine any_cutX (V := Unit) (fun _ => True) 7 #[true, true, true, true, true, true, true, true, false, false, false, false, false, false, false] (fun _ => [(38, .pointer (some ⟨gb, 0, none⟩)), (42, .slice (some ⟨g14, 0, none⟩) m capq), (43, .int .i64 (j : Nat)), (44, .int .i64 (j + 1 : Nat)), (45, .slice p n cap)]) (fun _ => bx (γ1 0) (#[.pointer (some ⟨gb, 0, none⟩)]) 56 :: bx gb (#[.slice (some ⟨g14, 0, none⟩) m capq]) 36 :: bx gm (#[.slice p n cap]) 27 :: bx gi (#[.int .i64 (j + 1 : Nat)]) 3 :: ([bx g14 cs14 62] ++ (Yi ++ (YR ++ [])))) ?_ (fun hmx33 => ?_)
       ·
        rintro _ _
        refine a1 8 rfl ?_
        refine cP (fun v L' => ∃ q_ c_ Y_, v = .slice q_ n c_ ∧ L' = List.take 4 (bx (γ1 0) (#[.pointer (some ⟨gb, 0, none⟩)]) 56 :: bx gb (#[.slice (some ⟨g14, 0, none⟩) m capq]) 36 :: bx gm (#[.slice p n cap]) 27 :: bx gi (#[.int .i64 (j + 1 : Nat)]) 3 :: ([bx g14 cs14 62] ++ (Yi ++ (YR ++ [])))) ++ (Y_ ++ List.drop 4 (bx (γ1 0) (#[.pointer (some ⟨gb, 0, none⟩)]) 56 :: bx gb (#[.slice (some ⟨g14, 0, none⟩) m capq]) 36 :: bx gm (#[.slice p n cap]) 27 :: bx gi (#[.int .i64 (j + 1 : Nat)]) 3 :: ([bx g14 cs14 62] ++ (Yi ++ (YR ++ []))))) ∧ SlO 3 Y_ q_ n c_ l) (fun args w => Tryd.call32 args w) (fun w hw => (cloneints_t p n cap l w (hsl.kept hw.below) hn (by omega)).mono fun e w' ⟨q_, c_, Y_, he, hO, hb, hY⟩ => ⟨_, _, he, ⟨q_, c_, Y_, rfl, rfl, hO⟩, hw.join hb hY 4⟩) ?_
        rintro v192 L192 ⟨q192, cq192, Y192, rfl, rfl, hO192⟩
        refine od_ ?_
        refine tk (m := 5) [9] [] [38, 42, 43] [(47, .agg #[.int .i64 (j + 1 : Nat), .slice q192 n cq192])] ([]) #[true, true, true, true, true, true, true, true, true, true, false, false, false, false, false] al0 ?_
        exact wk (hmx39 (Y192, cq192, q192) hO192) [38, 42, 43, 47] [[_], [_], [_], [_], _, [bx g14 cs14 62], _, _] [0, 1, 2, 3, 4, 5, 6, 7] rfl rfl
       refine any_cutX (V := (List Ob) × (Nat) × (Option Addr)) (fun ⟨Y192, cq192, q192⟩ => SlO 3 Y192 q192 n cq192 l) 7 #[false, true, true, true, false, true, true, true, true, true, false, false, false, false, false] (fun ⟨Y192, cq192, q192⟩ => [(3, .pointer (some ⟨γ1 0, 0, none⟩)), (41, .pointer (some ⟨gb, 0, none⟩)), (43, .int .i64 (j : Nat)), (47, .agg #[.int .i64 (j + 1 : Nat), .slice q192 n cq192])]) (fun ⟨Y192, cq192, q192⟩ => bx (γ1 0) (#[.pointer (some ⟨gb, 0, none⟩)]) 56 :: bx gb (#[.slice (some ⟨g14, 0, none⟩) m capq]) 36 :: bx gm (#[.slice p n cap]) 27 :: bx gi (#[.int .i64 (j + 1 : Nat)]) 3 :: (Y192 ++ ([bx g14 cs14 62] ++ (Yi ++ (YR ++ []))))) ?_ (fun hmx32 => ?_)
       ·
        rintro ⟨Y192, cq192, q192⟩ hO192
        refine any_fork [0, 4, 10] (by kernel_rfl) (by simp) (each_cons _ rfl ?_ (each_cons _ rfl ?_ (each_cons _ rfl ?_ (each_nil))))
        ·
         refine qo0 1 [(0, .go (owns 0 0 1))] [41, 43, 47] [(38, .pointer (some ⟨gb, 0, none⟩))] ?_
         refine od_ ?_
         exact wk (hmx35 (Y192, cq192, q192) hO192) [38, 41, 43, 47] [[_], [_], [_], [_], _, [bx g14 cs14 62], _, _] [0, 1, 2, 3, 4, 5, 6, 7] rfl rfl
        ·
         refine qo0 1 [(4, .go (owns 1 0 1))] [3, 43, 47] [(42, .slice (some ⟨g14, 0, none⟩) m capq)] ?_
         refine od_ ?_
         exact wk (hmx37 (Y192, cq192, q192) hO192) [3, 42, 43, 47] [[_], [_], [_], [_], _, [bx g14 cs14 62], _, _] [0, 1, 2, 3, 4, 5, 6, 7] rfl rfl
        ·
         refine mo0 1 [] [3, 41, 43] (fun γ232 => [(48, .slice (some ⟨γ232 0, 0, none⟩) 1 1)]) (fun γ232 L => bx (γ232 0) (#[.int .i64 (j + 1 : Nat), .slice q192 n cq192]) 62 :: L) (fun γ232 => ?_)
         refine od_ ?_
         exact wk (hmx36 (Y192, cq192, q192, γ232) hO192) [3, 41, 43, 48] [[_], [_], [_], [_], [_], _, [bx g14 cs14 62], _, _] [0, 1, 2, 3, 4, 5, 6, 7, 8] rfl rfl
       refine any_cutX (V := (List Ob) × (Nat) × (Option Addr) × (Nat → Nat)) (fun ⟨Y192, cq192, q192, γ232⟩ => SlO 3 Y192 q192 n cq192 l) 8 #[true, false, false, false, false, true, true, true, true, true, true, false, false, false, false] (fun ⟨Y192, cq192, q192, γ232⟩ => [(3, .pointer (some ⟨γ1 0, 0, none⟩)), (38, .pointer (some ⟨gb, 0, none⟩)), (43, .int .i64 (j : Nat)), (48, .slice (some ⟨γ232 0, 0, none⟩) 1 1)]) (fun ⟨Y192, cq192, q192, γ232⟩ => bx (γ232 0) (#[.int .i64 (j + 1 : Nat), .slice q192 n cq192]) 62 :: bx (γ1 0) (#[.pointer (some ⟨gb, 0, none⟩)]) 56 :: bx gb (#[.slice (some ⟨g14, 0, none⟩) m capq]) 36 :: bx gm (#[.slice p n cap]) 27 :: bx gi (#[.int .i64 (j + 1 : Nat)]) 3 :: (Y192 ++ ([bx g14 cs14 62] ++ (Yi ++ (YR ++ []))))) ?_ (fun hmx31 => ?_)
       ·
        rintro ⟨Y192, cq192, q192, γ232⟩ hO192
        refine a1 1 rfl ?_
        refine qo0 1 [(1, .go (owns 1 0 1))] [38, 43, 48] [(39, .pointer (some ⟨gb, 0, none⟩))] ?_
        refine od_ ?_
        refine tk (m := 5) [2, 3] [] [38, 43, 48] [(41, .pointer (some ⟨gb, 0, none⟩))] ([]) #[true, true, true, true, false, true, true, true, true, true, true, false, false, false, false] al0 ?_
        exact wk (hmx38 (Y192, cq192, q192, γ232) hO192) [38, 41, 43, 48] [[_], [_], [_], [_], [_], _, [bx g14 cs14 62], _, _] [0, 1, 2, 3, 4, 5, 6, 7, 8] rfl rfl
       refine any_cutX (V := (List Ob) × (Nat) × (Option Addr)) (fun ⟨Y192, cq192, q192⟩ => SlO 3 Y192 q192 n cq192 l) 8 #[false, true, true, true, true, true, false, true, true, false, false, false, false, false, false] (fun ⟨Y192, cq192, q192⟩ => [(2, .pointer (some ⟨gi, 0, none⟩)), (3, .pointer (some ⟨γ1 0, 0, none⟩)), (42, .slice (some ⟨g14, 0, none⟩) m capq), (43, .int .i64 (j : Nat)), (46, .slice q192 n cq192)]) (fun ⟨Y192, cq192, q192⟩ => bx (γ1 0) (#[.pointer (some ⟨gb, 0, none⟩)]) 56 :: bx gb (#[.slice (some ⟨g14, 0, none⟩) m capq]) 36 :: bx gm (#[.slice p n cap]) 27 :: bx gi (#[.int .i64 (j + 1 : Nat)]) 3 :: (Y192 ++ ([bx g14 cs14 62] ++ (Yi ++ (YR ++ []))))) ?_ (fun hmx30 => ?_)
       ·
        rintro ⟨Y192, cq192, q192⟩ hO192
        refine any_fork [0, 6] (by kernel_rfl) (by simp) (each_cons _ rfl ?_ (each_cons _ rfl ?_ (each_nil)))
        ·
         refine qo0 1 [(0, .go (owns 0 0 1))] [2, 42, 43, 46] [(38, .pointer (some ⟨gb, 0, none⟩))] ?_
         refine od_ ?_
         exact wk (hmx34 (Y192, cq192, q192) hO192) [2, 38, 42, 43, 46] [[_], [_], [_], [_], _, [bx g14 cs14 62], _, _] [0, 1, 2, 3, 4, 5, 6, 7] rfl rfl
        ·
         refine qo0 1 [(6, .go (owns 3 0 1))] [3, 42, 43, 46] [(44, .int .i64 (j + 1 : Nat))] ?_
         refine od_ ?_
         refine tk (m := 6) [9] [] [3, 42, 43] [(47, .agg #[.int .i64 (j + 1 : Nat), .slice q192 n cq192])] ([]) #[false, true, true, true, true, true, true, true, true, true, false, false, false, false, false] al0 ?_
         exact wk (hmx37 (Y192, cq192, q192) hO192) [3, 42, 43, 47] [[_], [_], [_], [_], _, [bx g14 cs14 62], _, _] [0, 1, 2, 3, 4, 5, 6, 7] rfl rfl
       refine any_cutX (V := Unit) (fun _ => True) 8 #[false, true, true, true, true, true, true, true, false, false, false, false, false, false, false] (fun _ => [(3, .pointer (some ⟨γ1 0, 0, none⟩)), (42, .slice (some ⟨g14, 0, none⟩) m capq), (43, .int .i64 (j : Nat)), (44, .int .i64 (j + 1 : Nat)), (45, .slice p n cap)]) (fun _ => bx (γ1 0) (#[.pointer (some ⟨gb, 0, none⟩)]) 56 :: bx gb (#[.slice (some ⟨g14, 0, none⟩) m capq]) 36 :: bx gm (#[.slice p n cap]) 27 :: bx gi (#[.int .i64 (j + 1 : Nat)]) 3 :: ([bx g14 cs14 62] ++ (Yi ++ (YR ++ [])))) ?_ (fun hmx29 => ?_)
       ·
        rintro _ _
        refine any_fork [0, 8] (by kernel_rfl) (by simp) (each_cons _ rfl ?_ (each_cons _ rfl ?_ (each_nil)))
        ·
         refine qo0 1 [(0, .go (owns 0 0 1))] [42, 43, 44, 45] [(38, .pointer (some ⟨gb, 0, none⟩))] ?_
         refine od_ ?_
         exact wk (hmx33 () trivial) [38, 42, 43, 44, 45] [[_], [_], [_], [_], [bx g14 cs14 62], _, _] [0, 1, 2, 3, 4, 5, 6] rfl rfl
        ·
         refine cP (fun v L' => ∃ q_ c_ Y_, v = .slice q_ n c_ ∧ L' = List.take 4 (bx (γ1 0) (#[.pointer (some ⟨gb, 0, none⟩)]) 56 :: bx gb (#[.slice (some ⟨g14, 0, none⟩) m capq]) 36 :: bx gm (#[.slice p n cap]) 27 :: bx gi (#[.int .i64 (j + 1 : Nat)]) 3 :: ([bx g14 cs14 62] ++ (Yi ++ (YR ++ [])))) ++ (Y_ ++ List.drop 4 (bx (γ1 0) (#[.pointer (some ⟨gb, 0, none⟩)]) 56 :: bx gb (#[.slice (some ⟨g14, 0, none⟩) m capq]) 36 :: bx gm (#[.slice p n cap]) 27 :: bx gi (#[.int .i64 (j + 1 : Nat)]) 3 :: ([bx g14 cs14 62] ++ (Yi ++ (YR ++ []))))) ∧ SlO 3 Y_ q_ n c_ l) (fun args w => Tryd.call32 args w) (fun w hw => (cloneints_t p n cap l w (hsl.kept hw.below) hn (by omega)).mono fun e w' ⟨q_, c_, Y_, he, hO, hb, hY⟩ => ⟨_, _, he, ⟨q_, c_, Y_, rfl, rfl, hO⟩, hw.join hb hY 4⟩) ?_
         rintro v192 L192 ⟨q192, cq192, Y192, rfl, rfl, hO192⟩
         refine od_ ?_
         refine tk (m := 6) [9] [] [3, 42, 43] [(47, .agg #[.int .i64 (j + 1 : Nat), .slice q192 n cq192])] ([]) #[false, true, true, true, true, true, true, true, true, true, false, false, false, false, false] al0 ?_
         exact wk (hmx37 (Y192, cq192, q192) hO192) [3, 42, 43, 47] [[_], [_], [_], [_], _, [bx g14 cs14 62], _, _] [0, 1, 2, 3, 4, 5, 6, 7] rfl rfl
       refine any_cutX (V := Unit) (fun _ => True) 8 #[true, true, true, true, true, true, false, true, false, false, false, false, false, false, false] (fun _ => [(2, .pointer (some ⟨gi, 0, none⟩)), (38, .pointer (some ⟨gb, 0, none⟩)), (42, .slice (some ⟨g14, 0, none⟩) m capq), (43, .int .i64 (j : Nat)), (45, .slice p n cap)]) (fun _ => bx (γ1 0) (#[.pointer (some ⟨gb, 0, none⟩)]) 56 :: bx gb (#[.slice (some ⟨g14, 0, none⟩) m capq]) 36 :: bx gm (#[.slice p n cap]) 27 :: bx gi (#[.int .i64 (j + 1 : Nat)]) 3 :: ([bx g14 cs14 62] ++ (Yi ++ (YR ++ [])))) ?_ (fun hmx28 => ?_)
       ·
        rintro _ _
        refine any_fork [6, 8] (by kernel_rfl) (by simp) (each_cons _ rfl ?_ (each_cons _ rfl ?_ (each_nil)))
        ·
         refine qo0 1 [(6, .go (owns 3 0 1))] [38, 42, 43, 45] [(44, .int .i64 (j + 1 : Nat))] ?_
         refine od_ ?_
         exact wk (hmx33 () trivial) [38, 42, 43, 44, 45] [[_], [_], [_], [_], [bx g14 cs14 62], _, _] [0, 1, 2, 3, 4, 5, 6] rfl rfl
        ·
         refine cP (fun v L' => ∃ q_ c_ Y_, v = .slice q_ n c_ ∧ L' = List.take 4 (bx (γ1 0) (#[.pointer (some ⟨gb, 0, none⟩)]) 56 :: bx gb (#[.slice (some ⟨g14, 0, none⟩) m capq]) 36 :: bx gm (#[.slice p n cap]) 27 :: bx gi (#[.int .i64 (j + 1 : Nat)]) 3 :: ([bx g14 cs14 62] ++ (Yi ++ (YR ++ [])))) ++ (Y_ ++ List.drop 4 (bx (γ1 0) (#[.pointer (some ⟨gb, 0, none⟩)]) 56 :: bx gb (#[.slice (some ⟨g14, 0, none⟩) m capq]) 36 :: bx gm (#[.slice p n cap]) 27 :: bx gi (#[.int .i64 (j + 1 : Nat)]) 3 :: ([bx g14 cs14 62] ++ (Yi ++ (YR ++ []))))) ∧ SlO 3 Y_ q_ n c_ l) (fun args w => Tryd.call32 args w) (fun w hw => (cloneints_t p n cap l w (hsl.kept hw.below) hn (by omega)).mono fun e w' ⟨q_, c_, Y_, he, hO, hb, hY⟩ => ⟨_, _, he, ⟨q_, c_, Y_, rfl, rfl, hO⟩, hw.join hb hY 4⟩) ?_
         rintro v192 L192 ⟨q192, cq192, Y192, rfl, rfl, hO192⟩
         refine od_ ?_
         exact wk (hmx34 (Y192, cq192, q192) hO192) [2, 38, 42, 43, 46] [[_], [_], [_], [_], _, [bx g14 cs14 62], _, _] [0, 1, 2, 3, 4, 5, 6, 7] rfl rfl
       refine any_cutX (V := Unit) (fun _ => True) 8 #[true, true, true, true, true, true, true, false, false, false, false, false, false, false, false] (fun _ => [(1, .pointer (some ⟨gm, 0, none⟩)), (38, .pointer (some ⟨gb, 0, none⟩)), (42, .slice (some ⟨g14, 0, none⟩) m capq), (43, .int .i64 (j : Nat)), (44, .int .i64 (j + 1 : Nat))]) (fun _ => bx (γ1 0) (#[.pointer (some ⟨gb, 0, none⟩)]) 56 :: bx gb (#[.slice (some ⟨g14, 0, none⟩) m capq]) 36 :: bx gm (#[.slice p n cap]) 27 :: bx gi (#[.int .i64 (j + 1 : Nat)]) 3 :: ([bx g14 cs14 62] ++ (Yi ++ (YR ++ [])))) ?_ (fun hmx27 => ?_)
       ·
        rintro _ _
        refine a1 7 rfl ?_
        refine qo0 1 [(7, .go (owns 2 0 1))] [38, 42, 43, 44] [(45, .slice p n cap)] ?_
        refine od_ ?_
        exact wk (hmx33 () trivial) [38, 42, 43, 44, 45] [[_], [_], [_], [_], [bx g14 cs14 62], _, _] [0, 1, 2, 3, 4, 5, 6] rfl rfl
       refine any_cutX (V := (List Ob) × (Nat) × (Option Addr)) (fun ⟨Y192, cq192, q192⟩ => SlO 3 Y192 q192 n cq192 l) 8 #[true, true, true, true, false, true, false, true, true, false, false, false, false, false, false] (fun ⟨Y192, cq192, q192⟩ => [(2, .pointer (some ⟨gi, 0, none⟩)), (38, .pointer (some ⟨gb, 0, none⟩)), (41, .pointer (some ⟨gb, 0, none⟩)), (43, .int .i64 (j : Nat)), (46, .slice q192 n cq192)]) (fun ⟨Y192, cq192, q192⟩ => bx (γ1 0) (#[.pointer (some ⟨gb, 0, none⟩)]) 56 :: bx gb (#[.slice (some ⟨g14, 0, none⟩) m capq]) 36 :: bx gm (#[.slice p n cap]) 27 :: bx gi (#[.int .i64 (j + 1 : Nat)]) 3 :: (Y192 ++ ([bx g14 cs14 62] ++ (Yi ++ (YR ++ []))))) ?_ (fun hmx26 => ?_)
       ·
        rintro ⟨Y192, cq192, q192⟩ hO192
        refine any_fork [4, 6] (by kernel_rfl) (by simp) (each_cons _ rfl ?_ (each_cons _ rfl ?_ (each_nil)))
        ·
         refine qo0 1 [(4, .go (owns 1 0 1))] [2, 38, 43, 46] [(42, .slice (some ⟨g14, 0, none⟩) m capq)] ?_
         refine od_ ?_
         exact wk (hmx34 (Y192, cq192, q192) hO192) [2, 38, 42, 43, 46] [[_], [_], [_], [_], _, [bx g14 cs14 62], _, _] [0, 1, 2, 3, 4, 5, 6, 7] rfl rfl
        ·
         refine qo0 1 [(6, .go (owns 3 0 1))] [38, 41, 43, 46] [(44, .int .i64 (j + 1 : Nat))] ?_
         refine od_ ?_
         refine tk (m := 6) [9] [] [38, 41, 43] [(47, .agg #[.int .i64 (j + 1 : Nat), .slice q192 n cq192])] ([]) #[true, true, true, true, false, true, true, true, true, true, false, false, false, false, false] al0 ?_
         exact wk (hmx35 (Y192, cq192, q192) hO192) [38, 41, 43, 47] [[_], [_], [_], [_], _, [bx g14 cs14 62], _, _] [0, 1, 2, 3, 4, 5, 6, 7] rfl rfl
       refine any_cutX (V := Unit) (fun _ => True) 8 #[true, true, true, true, false, true, true, true, false, false, false, false, false, false, false] (fun _ => [(38, .pointer (some ⟨gb, 0, none⟩)), (41, .pointer (some ⟨gb, 0, none⟩)), (43, .int .i64 (j : Nat)), (44, .int .i64 (j + 1 : Nat)), (45, .slice p n cap)]) (fun _ => bx (γ1 0) (#[.pointer (some ⟨gb, 0, none⟩)]) 56 :: bx gb (#[.slice (some ⟨g14, 0, none⟩) m capq]) 36 :: bx gm (#[.slice p n cap]) 27 :: bx gi (#[.int .i64 (j + 1 : Nat)]) 3 :: ([bx g14 cs14 62] ++ (Yi ++ (YR ++ [])))) ?_ (fun hmx25 => ?_)
       ·
        rintro _ _
        refine any_fork [4, 8] (by kernel_rfl) (by simp) (each_cons _ rfl ?_ (each_cons _ rfl ?_ (each_nil)))
        ·
         refine qo0 1 [(4, .go (owns 1 0 1))] [38, 43, 44, 45] [(42, .slice (some ⟨g14, 0, none⟩) m capq)] ?_
         refine od_ ?_
         exact wk (hmx33 () trivial) [38, 42, 43, 44, 45] [[_], [_], [_], [_], [bx g14 cs14 62], _, _] [0, 1, 2, 3, 4, 5, 6] rfl rfl
        ·
         refine cP (fun v L' => ∃ q_ c_ Y_, v = .slice q_ n c_ ∧ L' = List.take 4 (bx (γ1 0) (#[.pointer (some ⟨gb, 0, none⟩)]) 56 :: bx gb (#[.slice (some ⟨g14, 0, none⟩) m capq]) 36 :: bx gm (#[.slice p n cap]) 27 :: bx gi (#[.int .i64 (j + 1 : Nat)]) 3 :: ([bx g14 cs14 62] ++ (Yi ++ (YR ++ [])))) ++ (Y_ ++ List.drop 4 (bx (γ1 0) (#[.pointer (some ⟨gb, 0, none⟩)]) 56 :: bx gb (#[.slice (some ⟨g14, 0, none⟩) m capq]) 36 :: bx gm (#[.slice p n cap]) 27 :: bx gi (#[.int .i64 (j + 1 : Nat)]) 3 :: ([bx g14 cs14 62] ++ (Yi ++ (YR ++ []))))) ∧ SlO 3 Y_ q_ n c_ l) (fun args w => Tryd.call32 args w) (fun w hw => (cloneints_t p n cap l w (hsl.kept hw.below) hn (by omega)).mono fun e w' ⟨q_, c_, Y_, he, hO, hb, hY⟩ => ⟨_, _, he, ⟨q_, c_, Y_, rfl, rfl, hO⟩, hw.join hb hY 4⟩) ?_
         rintro v192 L192 ⟨q192, cq192, Y192, rfl, rfl, hO192⟩
         refine od_ ?_
         refine tk (m := 6) [9] [] [38, 41, 43] [(47, .agg #[.int .i64 (j + 1 : Nat), .slice q192 n cq192])] ([]) #[true, true, true, true, false, true, true, true, true, true, false, false, false, false, false] al0 ?_
         exact wk (hmx35 (Y192, cq192, q192) hO192) [38, 41, 43, 47] [[_], [_], [_], [_], _, [bx g14 cs14 62], _, _] [0, 1, 2, 3, 4, 5, 6, 7] rfl rfl
       refine any_cutX (V := (List Ob) × (Nat) × (Option Addr) × (Nat → Nat)) (fun ⟨Y192, cq192, q192, γ232⟩ => SlO 3 Y192 q192 n cq192 l) 9 #[false, false, false, false, false, true, true, true, true, true, true, false, false, false, false] (fun ⟨Y192, cq192, q192, γ232⟩ => [(3, .pointer (some ⟨γ1 0, 0, none⟩)), (43, .int .i64 (j : Nat)), (48, .slice (some ⟨γ232 0, 0, none⟩) 1 1)]) (fun ⟨Y192, cq192, q192, γ232⟩ => bx (γ232 0) (#[.int .i64 (j + 1 : Nat), .slice q192 n cq192]) 62 :: bx (γ1 0) (#[.pointer (some ⟨gb, 0, none⟩)]) 56 :: bx gb (#[.slice (some ⟨g14, 0, none⟩) m capq]) 36 :: bx gm (#[.slice p n cap]) 27 :: bx gi (#[.int .i64 (j + 1 : Nat)]) 3 :: (Y192 ++ ([bx g14 cs14 62] ++ (Yi ++ (YR ++ []))))) ?_ (fun hmx24 => ?_)
       ·
        rintro ⟨Y192, cq192, q192, γ232⟩ hO192
        refine any_fork [0, 1] (by kernel_rfl) (by simp) (each_cons _ rfl ?_ (each_cons _ rfl ?_ (each_nil)))
        ·
         refine qo0 1 [(0, .go (owns 1 0 1))] [3, 43, 48] [(38, .pointer (some ⟨gb, 0, none⟩))] ?_
         refine od_ ?_
         exact wk (hmx31 (Y192, cq192, q192, γ232) hO192) [3, 38, 43, 48] [[_], [_], [_], [_], [_], _, [bx g14 cs14 62], _, _] [0, 1, 2, 3, 4, 5, 6, 7, 8] rfl rfl
        ·
         refine qo0 1 [(1, .go (owns 1 0 1))] [3, 43, 48] [(39, .pointer (some ⟨gb, 0, none⟩))] ?_
         refine od_ ?_
         refine tk (m := 6) [2, 3] [] [3, 43, 48] [(41, .pointer (some ⟨gb, 0, none⟩))] ([]) #[false, true, true, true, false, true, true, true, true, true, true, false, false, false, false] al0 ?_
         exact wk (hmx36 (Y192, cq192, q192, γ232) hO192) [3, 41, 43, 48] [[_], [_], [_], [_], [_], _, [bx g14 cs14 62], _, _] [0, 1, 2, 3, 4, 5, 6, 7, 8] rfl rfl
       refine any_cutX (V := Unit) (fun _ => True) 9 #[false, true, true, true, true, true, false, true, false, false, false, false, false, false, false] (fun _ => [(2, .pointer (some ⟨gi, 0, none⟩)), (3, .pointer (some ⟨γ1 0, 0, none⟩)), (42, .slice (some ⟨g14, 0, none⟩) m capq), (43, .int .i64 (j : Nat)), (45, .slice p n cap)]) (fun _ => bx (γ1 0) (#[.pointer (some ⟨gb, 0, none⟩)]) 56 :: bx gb (#[.slice (some ⟨g14, 0, none⟩) m capq]) 36 :: bx gm (#[.slice p n cap]) 27 :: bx gi (#[.int .i64 (j + 1 : Nat)]) 3 :: ([bx g14 cs14 62] ++ (Yi ++ (YR ++ [])))) ?_ (fun hmx23 => ?_)
       ·
        rintro _ _
        refine any_fork [0, 6, 8] (by kernel_rfl) (by simp) (each_cons _ rfl ?_ (each_cons _ rfl ?_ (each_cons _ rfl ?_ (each_nil))))
        ·
         refine qo0 1 [(0, .go (owns 0 0 1))] [2, 42, 43, 45] [(38, .pointer (some ⟨gb, 0, none⟩))] ?_
         refine od_ ?_
         exact wk (hmx28 () trivial) [2, 38, 42, 43, 45] [[_], [_], [_], [_], [bx g14 cs14 62], _, _] [0, 1, 2, 3, 4, 5, 6] rfl rfl
        ·
         refine qo0 1 [(6, .go (owns 3 0 1))] [3, 42, 43, 45] [(44, .int .i64 (j + 1 : Nat))] ?_
         refine od_ ?_
         exact wk (hmx29 () trivial) [3, 42, 43, 44, 45] [[_], [_], [_], [_], [bx g14 cs14 62], _, _] [0, 1, 2, 3, 4, 5, 6] rfl rfl
        ·
         refine cP (fun v L' => ∃ q_ c_ Y_, v = .slice q_ n c_ ∧ L' = List.take 4 (bx (γ1 0) (#[.pointer (some ⟨gb, 0, none⟩)]) 56 :: bx gb (#[.slice (some ⟨g14, 0, none⟩) m capq]) 36 :: bx gm (#[.slice p n cap]) 27 :: bx gi (#[.int .i64 (j + 1 : Nat)]) 3 :: ([bx g14 cs14 62] ++ (Yi ++ (YR ++ [])))) ++ (Y_ ++ List.drop 4 (bx (γ1 0) (#[.pointer (some ⟨gb, 0, none⟩)]) 56 :: bx gb (#[.slice (some ⟨g14, 0, none⟩) m capq]) 36 :: bx gm (#[.slice p n cap]) 27 :: bx gi (#[.int .i64 (j + 1 : Nat)]) 3 :: ([bx g14 cs14 62] ++ (Yi ++ (YR ++ []))))) ∧ SlO 3 Y_ q_ n c_ l) (fun args w => Tryd.call32 args w) (fun w hw => (cloneints_t p n cap l w (hsl.kept hw.below) hn (by omega)).mono fun e w' ⟨q_, c_, Y_, he, hO, hb, hY⟩ => ⟨_, _, he, ⟨q_, c_, Y_, rfl, rfl, hO⟩, hw.join hb hY 4⟩) ?_
         rintro v192 L192 ⟨q192, cq192, Y192, rfl, rfl, hO192⟩
         refine od_ ?_
         exact wk (hmx30 (Y192, cq192, q192) hO192) [2, 3, 42, 43, 46] [[_], [_], [_], [_], _, [bx g14 cs14 62], _, _] [0, 1, 2, 3, 4, 5, 6, 7] rfl rfl
       refine any_cutX (V := Unit) (fun _ => True) 9 #[false, true, true, true, true, true, true, false, false, false, false, false, false, false, false] (fun _ => [(1, .pointer (some ⟨gm, 0, none⟩)), (3, .pointer (some ⟨γ1 0, 0, none⟩)), (42, .slice (some ⟨g14, 0, none⟩) m capq), (43, .int .i64 (j : Nat)), (44, .int .i64 (j + 1 : Nat))]) (fun _ => bx (γ1 0) (#[.pointer (some ⟨gb, 0, none⟩)]) 56 :: bx gb (#[.slice (some ⟨g14, 0, none⟩) m capq]) 36 :: bx gm (#[.slice p n cap]) 27 :: bx gi (#[.int .i64 (j + 1 : Nat)]) 3 :: ([bx g14 cs14 62] ++ (Yi ++ (YR ++ [])))) ?_ (fun hmx22 => ?_)
       ·
        rintro _ _
        refine any_fork [0, 7] (by kernel_rfl) (by simp) (each_cons _ rfl ?_ (each_cons _ rfl ?_ (each_nil)))
        ·
         refine qo0 1 [(0, .go (owns 0 0 1))] [1, 42, 43, 44] [(38, .pointer (some ⟨gb, 0, none⟩))] ?_
         refine od_ ?_
         exact wk (hmx27 () trivial) [1, 38, 42, 43, 44] [[_], [_], [_], [_], [bx g14 cs14 62], _, _] [0, 1, 2, 3, 4, 5, 6] rfl rfl
        ·
         refine qo0 1 [(7, .go (owns 2 0 1))] [3, 42, 43, 44] [(45, .slice p n cap)] ?_
         refine od_ ?_
         exact wk (hmx29 () trivial) [3, 42, 43, 44, 45] [[_], [_], [_], [_], [bx g14 cs14 62], _, _] [0, 1, 2, 3, 4, 5, 6] rfl rfl
       refine any_cutX (V := Unit) (fun _ => True) 9 #[true, true, true, true, true, true, false, false, false, false, false, false, false, false, false] (fun _ => [(1, .pointer (some ⟨gm, 0, none⟩)), (2, .pointer (some ⟨gi, 0, none⟩)), (38, .pointer (some ⟨gb, 0, none⟩)), (42, .slice (some ⟨g14, 0, none⟩) m capq), (43, .int .i64 (j : Nat))]) (fun _ => bx (γ1 0) (#[.pointer (some ⟨gb, 0, none⟩)]) 56 :: bx gb (#[.slice (some ⟨g14, 0, none⟩) m capq]) 36 :: bx gm (#[.slice p n cap]) 27 :: bx gi (#[.int .i64 (j + 1 : Nat)]) 3 :: ([bx g14 cs14 62] ++ (Yi ++ (YR ++ [])))) ?_ (fun hmx21 => ?_)
       ·
        rintro _ _
        refine any_fork [6, 7] (by kernel_rfl) (by simp) (each_cons _ rfl ?_ (each_cons _ rfl ?_ (each_nil)))
        ·
         refine qo0 1 [(6, .go (owns 3 0 1))] [1, 38, 42, 43] [(44, .int .i64 (j + 1 : Nat))] ?_
         refine od_ ?_
         exact wk (hmx27 () trivial) [1, 38, 42, 43, 44] [[_], [_], [_], [_], [bx g14 cs14 62], _, _] [0, 1, 2, 3, 4, 5, 6] rfl rfl
        ·
         refine qo0 1 [(7, .go (owns 2 0 1))] [2, 38, 42, 43] [(45, .slice p n cap)] ?_
         refine od_ ?_
         exact wk (hmx28 () trivial) [2, 38, 42, 43, 45] [[_], [_], [_], [_], [bx g14 cs14 62], _, _] [0, 1, 2, 3, 4, 5, 6] rfl rfl
       refine any_cutX (V := (List Ob) × (Nat) × (Option Addr)) (fun ⟨Y192, cq192, q192⟩ => SlO 3 Y192 q192 n cq192 l) 9 #[true, false, false, false, false, true, true, true, true, true, false, false, false, false, false] (fun ⟨Y192, cq192, q192⟩ => [(3, .pointer (some ⟨γ1 0, 0, none⟩)), (38, .pointer (some ⟨gb, 0, none⟩)), (43, .int .i64 (j : Nat)), (47, .agg #[.int .i64 (j + 1 : Nat), .slice q192 n cq192])]) (fun ⟨Y192, cq192, q192⟩ => bx (γ1 0) (#[.pointer (some ⟨gb, 0, none⟩)]) 56 :: bx gb (#[.slice (some ⟨g14, 0, none⟩) m capq]) 36 :: bx gm (#[.slice p n cap]) 27 :: bx gi (#[.int .i64 (j + 1 : Nat)]) 3 :: (Y192 ++ ([bx g14 cs14 62] ++ (Yi ++ (YR ++ []))))) ?_ (fun hmx20 => ?_)
       ·
        rintro ⟨Y192, cq192, q192⟩ hO192
        refine any_fork [1, 10] (by kernel_rfl) (by simp) (each_cons _ rfl ?_ (each_cons _ rfl ?_ (each_nil)))
        ·
         refine qo0 1 [(1, .go (owns 0 0 1))] [38, 43, 47] [(39, .pointer (some ⟨gb, 0, none⟩))] ?_
         refine od_ ?_
         refine tk (m := 6) [2, 3] [] [38, 43, 47] [(41, .pointer (some ⟨gb, 0, none⟩))] ([]) #[true, true, true, true, false, true, true, true, true, true, false, false, false, false, false] al0 ?_
         exact wk (hmx35 (Y192, cq192, q192) hO192) [38, 41, 43, 47] [[_], [_], [_], [_], _, [bx g14 cs14 62], _, _] [0, 1, 2, 3, 4, 5, 6, 7] rfl rfl
        ·
         refine mo0 1 [] [3, 38, 43] (fun γ232 => [(48, .slice (some ⟨γ232 0, 0, none⟩) 1 1)]) (fun γ232 L => bx (γ232 0) (#[.int .i64 (j + 1 : Nat), .slice q192 n cq192]) 62 :: L) (fun γ232 => ?_)
         refine od_ ?_
         exact wk (hmx31 (Y192, cq192, q192, γ232) hO192) [3, 38, 43, 48] [[_], [_], [_], [_], [_], _, [bx g14 cs14 62], _, _] [0, 1, 2, 3, 4, 5, 6, 7, 8] rfl rfl
       refine any_cutX (V := (List Ob) × (Nat) × (Option Addr)) (fun ⟨Y192, cq192, q192⟩ => SlO 3 Y192 q192 n cq192 l) 9 #[false, true, true, true, false, true, false, true, true, false, false, false, false, false, false] (fun ⟨Y192, cq192, q192⟩ => [(2, .pointer (some ⟨gi, 0, none⟩)), (3, .pointer (some ⟨γ1 0, 0, none⟩)), (41, .pointer (some ⟨gb, 0, none⟩)), (43, .int .i64 (j : Nat)), (46, .slice q192 n cq192)]) (fun ⟨Y192, cq192, q192⟩ => bx (γ1 0) (#[.pointer (some ⟨gb, 0, none⟩)]) 56 :: bx gb (#[.slice (some ⟨g14, 0, none⟩) m capq]) 36 :: bx gm (#[.slice p n cap]) 27 :: bx gi (#[.int .i64 (j + 1 : Nat)]) 3 :: (Y192 ++ ([bx g14 cs14 62] ++ (Yi ++ (YR ++ []))))) ?_ (fun hmx19 => ?_)
       ·
        rintro ⟨Y192, cq192, q192⟩ hO192
        refine any_fork [0, 4, 6] (by kernel_rfl) (by simp) (each_cons _ rfl ?_ (each_cons _ rfl ?_ (each_cons _ rfl ?_ (each_nil))))
        ·
         refine qo0 1 [(0, .go (owns 0 0 1))] [2, 41, 43, 46] [(38, .pointer (some ⟨gb, 0, none⟩))] ?_
         refine od_ ?_
         exact wk (hmx26 (Y192, cq192, q192) hO192) [2, 38, 41, 43, 46] [[_], [_], [_], [_], _, [bx g14 cs14 62], _, _] [0, 1, 2, 3, 4, 5, 6, 7] rfl rfl
        ·
         refine qo0 1 [(4, .go (owns 1 0 1))] [2, 3, 43, 46] [(42, .slice (some ⟨g14, 0, none⟩) m capq)] ?_
         refine od_ ?_
         exact wk (hmx30 (Y192, cq192, q192) hO192) [2, 3, 42, 43, 46] [[_], [_], [_], [_], _, [bx g14 cs14 62], _, _] [0, 1, 2, 3, 4, 5, 6, 7] rfl rfl
        ·
         refine qo0 1 [(6, .go (owns 3 0 1))] [3, 41, 43, 46] [(44, .int .i64 (j + 1 : Nat))] ?_
         refine od_ ?_
         refine tk (m := 7) [9] [] [3, 41, 43] [(47, .agg #[.int .i64 (j + 1 : Nat), .slice q192 n cq192])] ([]) #[false, true, true, true, false, true, true, true, true, true, false, false, false, false, false] al0 ?_
         exact wk (hmx32 (Y192, cq192, q192) hO192) [3, 41, 43, 47] [[_], [_], [_], [_], _, [bx g14 cs14 62], _, _] [0, 1, 2, 3, 4, 5, 6, 7] rfl rfl
       refine any_cutX (V := Unit) (fun _ => True) 9 #[false, true, true, true, false, true, true, true, false, false, false, false, false, false, false] (fun _ => [(3, .pointer (some ⟨γ1 0, 0, none⟩)), (41, .pointer (some ⟨gb, 0, none⟩)), (43, .int .i64 (j : Nat)), (44, .int .i64 (j + 1 : Nat)), (45, .slice p n cap)]) (fun _ => bx (γ1 0) (#[.pointer (some ⟨gb, 0, none⟩)]) 56 :: bx gb (#[.slice (some ⟨g14, 0, none⟩) m capq]) 36 :: bx gm (#[.slice p n cap]) 27 :: bx gi (#[.int .i64 (j + 1 : Nat)]) 3 :: ([bx g14 cs14 62] ++ (Yi ++ (YR ++ [])))) ?_ (fun hmx18 => ?_)
       ·
        rintro _ _
        refine any_fork [0, 4, 8] (by kernel_rfl) (by simp) (each_cons _ rfl ?_ (each_cons _ rfl ?_ (each_cons _ rfl ?_ (each_nil))))
        ·
         refine qo0 1 [(0, .go (owns 0 0 1))] [41, 43, 44, 45] [(38, .pointer (some ⟨gb, 0, none⟩))] ?_
         refine od_ ?_
         exact wk (hmx25 () trivial) [38, 41, 43, 44, 45] [[_], [_], [_], [_], [bx g14 cs14 62], _, _] [0, 1, 2, 3, 4, 5, 6] rfl rfl
        ·
         refine qo0 1 [(4, .go (owns 1 0 1))] [3, 43, 44, 45] [(42, .slice (some ⟨g14, 0, none⟩) m capq)] ?_
         refine od_ ?_
         exact wk (hmx29 () trivial) [3, 42, 43, 44, 45] [[_], [_], [_], [_], [bx g14 cs14 62], _, _] [0, 1, 2, 3, 4, 5, 6] rfl rfl
        ·
         refine cP (fun v L' => ∃ q_ c_ Y_, v = .slice q_ n c_ ∧ L' = List.take 4 (bx (γ1 0) (#[.pointer (some ⟨gb, 0, none⟩)]) 56 :: bx gb (#[.slice (some ⟨g14, 0, none⟩) m capq]) 36 :: bx gm (#[.slice p n cap]) 27 :: bx gi (#[.int .i64 (j + 1 : Nat)]) 3 :: ([bx g14 cs14 62] ++ (Yi ++ (YR ++ [])))) ++ (Y_ ++ List.drop 4 (bx (γ1 0) (#[.pointer (some ⟨gb, 0, none⟩)]) 56 :: bx gb (#[.slice (some ⟨g14, 0, none⟩) m capq]) 36 :: bx gm (#[.slice p n cap]) 27 :: bx gi (#[.int .i64 (j + 1 : Nat)]) 3 :: ([bx g14 cs14 62] ++ (Yi ++ (YR ++ []))))) ∧ SlO 3 Y_ q_ n c_ l) (fun args w => Tryd.call32 args w) (fun w hw => (cloneints_t p n cap l w (hsl.kept hw.below) hn (by omega)).mono fun e w' ⟨q_, c_, Y_, he, hO, hb, hY⟩ => ⟨_, _, he, ⟨q_, c_, Y_, rfl, rfl, hO⟩, hw.join hb hY 4⟩) ?_
         rintro v192 L192 ⟨q192, cq192, Y192, rfl, rfl, hO192⟩
         refine od_ ?_
         refine tk (m := 7) [9] [] [3, 41, 43] [(47, .agg #[.int .i64 (j + 1 : Nat), .slice q192 n cq192])] ([]) #[false, true, true, true, false, true, true, true, true, true, false, false, false, false, false] al0 ?_
         exact wk (hmx32 (Y192, cq192, q192) hO192) [3, 41, 43, 47] [[_], [_], [_], [_], _, [bx g14 cs14 62], _, _] [0, 1, 2, 3, 4, 5, 6, 7] rfl rfl
       refine any_cutX (V := Unit) (fun _ => True) 9 #[true, true, true, true, false, true, false, true, false, false, false, false, false, false, false] (fun _ => [(2, .pointer (some ⟨gi, 0, none⟩)), (38, .pointer (some ⟨gb, 0, none⟩)), (41, .pointer (some ⟨gb, 0, none⟩)), (43, .int .i64 (j : Nat)), (45, .slice p n cap)]) (fun _ => bx (γ1 0) (#[.pointer (some ⟨gb, 0, none⟩)]) 56 :: bx gb (#[.slice (some ⟨g14, 0, none⟩) m capq]) 36 :: bx gm (#[.slice p n cap]) 27 :: bx gi (#[.int .i64 (j + 1 : Nat)]) 3 :: ([bx g14 cs14 62] ++ (Yi ++ (YR ++ [])))) ?_ (fun hmx17 => ?_)
       ·
        rintro _ _
        refine any_fork [4, 6, 8] (by kernel_rfl) (by simp) (each_cons _ rfl ?_ (each_cons _ rfl ?_ (each_cons _ rfl ?_ (each_nil))))
        ·
         refine qo0 1 [(4, .go (owns 1 0 1))] [2, 38, 43, 45] [(42, .slice (some ⟨g14, 0, none⟩) m capq)] ?_
         refine od_ ?_
         exact wk (hmx28 () trivial) [2, 38, 42, 43, 45] [[_], [_], [_], [_], [bx g14 cs14 62], _, _] [0, 1, 2, 3, 4, 5, 6] rfl rfl
        ·
         refine qo0 1 [(6, .go (owns 3 0 1))] [38, 41, 43, 45] [(44, .int .i64 (j + 1 : Nat))] ?_
         refine od_ ?_
         exact wk (hmx25 () trivial) [38, 41, 43, 44, 45] [[_], [_], [_], [_], [bx g14 cs14 62], _, _] [0, 1, 2, 3, 4, 5, 6] rfl rfl
        ·
         refine cP (fun v L' => ∃ q_ c_ Y_, v = .slice q_ n c_ ∧ L' = List.take 4 (bx (γ1 0) (#[.pointer (some ⟨gb, 0, none⟩)]) 56 :: bx gb (#[.slice (some ⟨g14, 0, none⟩) m capq]) 36 :: bx gm (#[.slice p n cap]) 27 :: bx gi (#[.int .i64 (j + 1 : Nat)]) 3 :: ([bx g14 cs14 62] ++ (Yi ++ (YR ++ [])))) ++ (Y_ ++ List.drop 4 (bx (γ1 0) (#[.pointer (some ⟨gb, 0, none⟩)]) 56 :: bx gb (#[.slice (some ⟨g14, 0, none⟩) m capq]) 36 :: bx gm (#[.slice p n cap]) 27 :: bx gi (#[.int .i64 (j + 1 : Nat)]) 3 :: ([bx g14 cs14 62] ++ (Yi ++ (YR ++ []))))) ∧ SlO 3 Y_ q_ n c_ l) (fun args w => Tryd.call32 args w) (fun w hw => (cloneints_t p n cap l w (hsl.kept hw.below) hn (by omega)).mono fun e w' ⟨q_, c_, Y_, he, hO, hb, hY⟩ => ⟨_, _, he, ⟨q_, c_, Y_, rfl, rfl, hO⟩, hw.join hb hY 4⟩) ?_
         rintro v192 L192 ⟨q192, cq192, Y192, rfl, rfl, hO192⟩
         refine od_ ?_
         exact wk (hmx26 (Y192, cq192, q192) hO192) [2, 38, 41, 43, 46] [[_], [_], [_], [_], _, [bx g14 cs14 62], _, _] [0, 1, 2, 3, 4, 5, 6, 7] rfl rfl
       refine any_cutX (V := Unit) (fun _ => True) 9 #[true, true, true, true, false, true, true, false, false, false, false, false, false, false, false] (fun _ => [(1, .pointer (some ⟨gm, 0, none⟩)), (38, .pointer (some ⟨gb, 0, none⟩)), (41, .pointer (some ⟨gb, 0, none⟩)), (43, .int .i64 (j : Nat)), (44, .int .i64 (j + 1 : Nat))]) (fun _ => bx (γ1 0) (#[.pointer (some ⟨gb, 0, none⟩)]) 56 :: bx gb (#[.slice (some ⟨g14, 0, none⟩) m capq]) 36 :: bx gm (#[.slice p n cap]) 27 :: bx gi (#[.int .i64 (j + 1 : Nat)]) 3 :: ([bx g14 cs14 62] ++ (Yi ++ (YR ++ [])))) ?_ (fun hmx16 => ?_)
       ·
        rintro _ _
        refine any_fork [4, 7] (by kernel_rfl) (by simp) (each_cons _ rfl ?_ (each_cons _ rfl ?_ (each_nil)))
        ·
         refine qo0 1 [(4, .go (owns 1 0 1))] [1, 38, 43, 44] [(42, .slice (some ⟨g14, 0, none⟩) m capq)] ?_
         refine od_ ?_
         exact wk (hmx27 () trivial) [1, 38, 42, 43, 44] [[_], [_], [_], [_], [bx g14 cs14 62], _, _] [0, 1, 2, 3, 4, 5, 6] rfl rfl
        ·
         refine qo0 1 [(7, .go (owns 2 0 1))] [38, 41, 43, 44] [(45, .slice p n cap)] ?_
         refine od_ ?_
         exact wk (hmx25 () trivial) [38, 41, 43, 44, 45] [[_], [_], [_], [_], [bx g14 cs14 62], _, _] [0, 1, 2, 3, 4, 5, 6] rfl rfl
       refine any_cutX (V := Unit) (fun _ => True) 10 #[false, true, true, true, true, true, false, false, false, false, false, false, false, false, false] (fun _ => [(1, .pointer (some ⟨gm, 0, none⟩)), (2, .pointer (some ⟨gi, 0, none⟩)), (3, .pointer (some ⟨γ1 0, 0, none⟩)), (42, .slice (some ⟨g14, 0, none⟩) m capq), (43, .int .i64 (j : Nat))]) (fun _ => bx (γ1 0) (#[.pointer (some ⟨gb, 0, none⟩)]) 56 :: bx gb (#[.slice (some ⟨g14, 0, none⟩) m capq]) 36 :: bx gm (#[.slice p n cap]) 27 :: bx gi (#[.int .i64 (j + 1 : Nat)]) 3 :: ([bx g14 cs14 62] ++ (Yi ++ (YR ++ [])))) ?_ (fun hmx15 => ?_)
       ·
        rintro _ _
        refine any_fork [0, 6, 7] (by kernel_rfl) (by simp) (each_cons _ rfl ?_ (each_cons _ rfl ?_ (each_cons _ rfl ?_ (each_nil))))
        ·
         refine qo0 1 [(0, .go (owns 0 0 1))] [1, 2, 42, 43] [(38, .pointer (some ⟨gb, 0, none⟩))] ?_
         refine od_ ?_
         exact wk (hmx21 () trivial) [1, 2, 38, 42, 43] [[_], [_], [_], [_], [bx g14 cs14 62], _, _] [0, 1, 2, 3, 4, 5, 6] rfl rfl
        ·
         refine qo0 1 [(6, .go (owns 3 0 1))] [1, 3, 42, 43] [(44, .int .i64 (j + 1 : Nat))] ?_
         refine od_ ?_
         exact wk (hmx22 () trivial) [1, 3, 42, 43, 44] [[_], [_], [_], [_], [bx g14 cs14 62], _, _] [0, 1, 2, 3, 4, 5, 6] rfl rfl
        ·
         refine qo0 1 [(7, .go (owns 2 0 1))] [2, 3, 42, 43] [(45, .slice p n cap)] ?_
         refine od_ ?_
         exact wk (hmx23 () trivial) [2, 3, 42, 43, 45] [[_], [_], [_], [_], [bx g14 cs14 62], _, _] [0, 1, 2, 3, 4, 5, 6] rfl rfl
       refine any_cutX (V := (List Ob) × (Nat) × (Option Addr)) (fun ⟨Y192, cq192, q192⟩ => SlO 3 Y192 q192 n cq192 l) 10 #[false, false, false, false, false, true, true, true, true, true, false, false, false, false, false] (fun ⟨Y192, cq192, q192⟩ => [(3, .pointer (some ⟨γ1 0, 0, none⟩)), (43, .int .i64 (j : Nat)), (47, .agg #[.int .i64 (j + 1 : Nat), .slice q192 n cq192])]) (fun ⟨Y192, cq192, q192⟩ => bx (γ1 0) (#[.pointer (some ⟨gb, 0, none⟩)]) 56 :: bx gb (#[.slice (some ⟨g14, 0, none⟩) m capq]) 36 :: bx gm (#[.slice p n cap]) 27 :: bx gi (#[.int .i64 (j + 1 : Nat)]) 3 :: (Y192 ++ ([bx g14 cs14 62] ++ (Yi ++ (YR ++ []))))) ?_ (fun hmx14 => ?_)
       ·
        rintro ⟨Y192, cq192, q192⟩ hO192
        refine any_fork [0, 1, 10] (by kernel_rfl) (by simp) (each_cons _ rfl ?_ (each_cons _ rfl ?_ (each_cons _ rfl ?_ (each_nil))))
        ·
         refine qo0 1 [(0, .go (owns 0 0 1))] [3, 43, 47] [(38, .pointer (some ⟨gb, 0, none⟩))] ?_
         refine od_ ?_
         exact wk (hmx20 (Y192, cq192, q192) hO192) [3, 38, 43, 47] [[_], [_], [_], [_], _, [bx g14 cs14 62], _, _] [0, 1, 2, 3, 4, 5, 6, 7] rfl rfl
        ·
         refine qo0 1 [(1, .go (owns 0 0 1))] [3, 43, 47] [(39, .pointer (some ⟨gb, 0, none⟩))] ?_
         refine od_ ?_
         refine tk (m := 7) [2, 3] [] [3, 43, 47] [(41, .pointer (some ⟨gb, 0, none⟩))] ([]) #[false, true, true, true, false, true, true, true, true, true, false, false, false, false, false] al0 ?_
         exact wk (hmx32 (Y192, cq192, q192) hO192) [3, 41, 43, 47] [[_], [_], [_], [_], _, [bx g14 cs14 62], _, _] [0, 1, 2, 3, 4, 5, 6, 7] rfl rfl
        ·
         refine mo0 1 [] [3, 43] (fun γ232 => [(48, .slice (some ⟨γ232 0, 0, none⟩) 1 1)]) (fun γ232 L => bx (γ232 0) (#[.int .i64 (j + 1 : Nat), .slice q192 n cq192]) 62 :: L) (fun γ232 => ?_)
         refine od_ ?_
         exact wk (hmx24 (Y192, cq192, q192, γ232) hO192) [3, 43, 48] [[_], [_], [_], [_], [_], _, [bx g14 cs14 62], _, _] [0, 1, 2, 3, 4, 5, 6, 7, 8] rfl rfl
       refine any_cutX (V := Unit) (fun _ => True) 10 #[false, true, true, true, false, true, false, true, false, false, false, false, false, false, false] (fun _ => [(2, .pointer (some ⟨gi, 0, none⟩)), (3, .pointer (some ⟨γ1 0, 0, none⟩)), (41, .pointer (some ⟨gb, 0, none⟩)), (43, .int .i64 (j : Nat)), (45, .slice p n cap)]) (fun _ => bx (γ1 0) (#[.pointer (some ⟨gb, 0, none⟩)]) 56 :: bx gb (#[.slice (some ⟨g14, 0, none⟩) m capq]) 36 :: bx gm (#[.slice p n cap]) 27 :: bx gi (#[.int .i64 (j + 1 : Nat)]) 3 :: ([bx g14 cs14 62] ++ (Yi ++ (YR ++ [])))) ?_ (fun hmx13 => ?_)
       ·
        rintro _ _
        refine any_fork [0, 4, 6, 8] (by kernel_rfl) (by simp) (each_cons _ rfl ?_ (each_cons _ rfl ?_ (each_cons _ rfl ?_ (each_cons _ rfl ?_ (each_nil)))))
        ·
         refine qo0 1 [(0, .go (owns 0 0 1))] [2, 41, 43, 45] [(38, .pointer (some ⟨gb, 0, none⟩))] ?_
         refine od_ ?_
         exact wk (hmx17 () trivial) [2, 38, 41, 43, 45] [[_], [_], [_], [_], [bx g14 cs14 62], _, _] [0, 1, 2, 3, 4, 5, 6] rfl rfl
        ·
         refine qo0 1 [(4, .go (owns 1 0 1))] [2, 3, 43, 45] [(42, .slice (some ⟨g14, 0, none⟩) m capq)] ?_
         refine od_ ?_
         exact wk (hmx23 () trivial) [2, 3, 42, 43, 45] [[_], [_], [_], [_], [bx g14 cs14 62], _, _] [0, 1, 2, 3, 4, 5, 6] rfl rfl
        ·
         refine qo0 1 [(6, .go (owns 3 0 1))] [3, 41, 43, 45] [(44, .int .i64 (j + 1 : Nat))] ?_
         refine od_ ?_
         exact wk (hmx18 () trivial) [3, 41, 43, 44, 45] [[_], [_], [_], [_], [bx g14 cs14 62], _, _] [0, 1, 2, 3, 4, 5, 6] rfl rfl
        ·
         refine cP (fun v L' => ∃ q_ c_ Y_, v = .slice q_ n c_ ∧ L' = List.take 4 (bx (γ1 0) (#[.pointer (some ⟨gb, 0, none⟩)]) 56 :: bx gb (#[.slice (some ⟨g14, 0, none⟩) m capq]) 36 :: bx gm (#[.slice p n cap]) 27 :: bx gi (#[.int .i64 (j + 1 : Nat)]) 3 :: ([bx g14 cs14 62] ++ (Yi ++ (YR ++ [])))) ++ (Y_ ++ List.drop 4 (bx (γ1 0) (#[.pointer (some ⟨gb, 0, none⟩)]) 56 :: bx gb (#[.slice (some ⟨g14, 0, none⟩) m capq]) 36 :: bx gm (#[.slice p n cap]) 27 :: bx gi (#[.int .i64 (j + 1 : Nat)]) 3 :: ([bx g14 cs14 62] ++ (Yi ++ (YR ++ []))))) ∧ SlO 3 Y_ q_ n c_ l) (fun args w => Tryd.call32 args w) (fun w hw => (cloneints_t p n cap l w (hsl.kept hw.below) hn (by omega)).mono fun e w' ⟨q_, c_, Y_, he, hO, hb, hY⟩ => ⟨_, _, he, ⟨q_, c_, Y_, rfl, rfl, hO⟩, hw.join hb hY 4⟩) ?_
         rintro v192 L192 ⟨q192, cq192, Y192, rfl, rfl, hO192⟩
         refine od_ ?_
         exact wk (hmx19 (Y192, cq192, q192) hO192) [2, 3, 41, 43, 46] [[_], [_], [_], [_], _, [bx g14 cs14 62], _, _] [0, 1, 2, 3, 4, 5, 6, 7] rfl rfl
       refine any_cutX (V := Unit) (fun _ => True) 10 #[false, true, true, true, false, true, true, false, false, false, false, false, false, false, false] (fun _ => [(1, .pointer (some ⟨gm, 0, none⟩)), (3, .pointer (some ⟨γ1 0, 0, none⟩)), (41, .pointer (some ⟨gb, 0, none⟩)), (43, .int .i64 (j : Nat)), (44, .int .i64 (j + 1 : Nat))]) (fun _ => bx (γ1 0) (#[.pointer (some ⟨gb, 0, none⟩)]) 56 :: bx gb (#[.slice (some ⟨g14, 0, none⟩) m capq]) 36 :: bx gm (#[.slice p n cap]) 27 :: bx gi (#[.int .i64 (j + 1 : Nat)]) 3 :: ([bx g14 cs14 62] ++ (Yi ++ (YR ++ [])))) ?_ (fun hmx12 => ?_)
       ·
        rintro _ _
        refine any_fork [0, 4, 7] (by kernel_rfl) (by simp) (each_cons _ rfl ?_ (each_cons _ rfl ?_ (each_cons _ rfl ?_ (each_nil))))
        ·
         refine qo0 1 [(0, .go (owns 0 0 1))] [1, 41, 43, 44] [(38, .pointer (some ⟨gb, 0, none⟩))] ?_
         refine od_ ?_
         exact wk (hmx16 () trivial) [1, 38, 41, 43, 44] [[_], [_], [_], [_], [bx g14 cs14 62], _, _] [0, 1, 2, 3, 4, 5, 6] rfl rfl
        ·
         refine qo0 1 [(4, .go (owns 1 0 1))] [1, 3, 43, 44] [(42, .slice (some ⟨g14, 0, none⟩) m capq)] ?_
         refine od_ ?_
         exact wk (hmx22 () trivial) [1, 3, 42, 43, 44] [[_], [_], [_], [_], [bx g14 cs14 62], _, _] [0, 1, 2, 3, 4, 5, 6] rfl rfl
        ·
         refine qo0 1 [(7, .go (owns 2 0 1))] [3, 41, 43, 44] [(45, .slice p n cap)] ?_
         refine od_ ?_
         exact wk (hmx18 () trivial) [3, 41, 43, 44, 45] [[_], [_], [_], [_], [bx g14 cs14 62], _, _] [0, 1, 2, 3, 4, 5, 6] rfl rfl
       refine any_cutX (V := Unit) (fun _ => True) 10 #[true, true, true, true, false, true, false, false, false, false, false, false, false, false, false] (fun _ => [(1, .pointer (some ⟨gm, 0, none⟩)), (2, .pointer (some ⟨gi, 0, none⟩)), (38, .pointer (some ⟨gb, 0, none⟩)), (41, .pointer (some ⟨gb, 0, none⟩)), (43, .int .i64 (j : Nat))]) (fun _ => bx (γ1 0) (#[.pointer (some ⟨gb, 0, none⟩)]) 56 :: bx gb (#[.slice (some ⟨g14, 0, none⟩) m capq]) 36 :: bx gm (#[.slice p n cap]) 27 :: bx gi (#[.int .i64 (j + 1 : Nat)]) 3 :: ([bx g14 cs14 62] ++ (Yi ++ (YR ++ [])))) ?_ (fun hmx11 => ?_)
       ·
        rintro _ _
        refine any_fork [4, 6, 7] (by kernel_rfl) (by simp) (each_cons _ rfl ?_ (each_cons _ rfl ?_ (each_cons _ rfl ?_ (each_nil))))
        ·
         refine qo0 1 [(4, .go (owns 1 0 1))] [1, 2, 38, 43] [(42, .slice (some ⟨g14, 0, none⟩) m capq)] ?_
         refine od_ ?_
         exact wk (hmx21 () trivial) [1, 2, 38, 42, 43] [[_], [_], [_], [_], [bx g14 cs14 62], _, _] [0, 1, 2, 3, 4, 5, 6] rfl rfl
        ·
         refine qo0 1 [(6, .go (owns 3 0 1))] [1, 38, 41, 43] [(44, .int .i64 (j + 1 : Nat))] ?_
         refine od_ ?_
         exact wk (hmx16 () trivial) [1, 38, 41, 43, 44] [[_], [_], [_], [_], [bx g14 cs14 62], _, _] [0, 1, 2, 3, 4, 5, 6] rfl rfl
        ·
         refine qo0 1 [(7, .go (owns 2 0 1))] [2, 38, 41, 43] [(45, .slice p n cap)] ?_
         refine od_ ?_
         exact wk (hmx17 () trivial) [2, 38, 41, 43, 45] [[_], [_], [_], [_], [bx g14 cs14 62], _, _] [0, 1, 2, 3, 4, 5, 6] rfl rfl
       refine any_cutX (V := (List Ob) × (Nat) × (Option Addr)) (fun ⟨Y192, cq192, q192⟩ => SlO 3 Y192 q192 n cq192 l) 11 #[true, false, false, false, false, true, false, true, true, false, false, false, false, false, false] (fun ⟨Y192, cq192, q192⟩ => [(2, .pointer (some ⟨gi, 0, none⟩)), (3, .pointer (some ⟨γ1 0, 0, none⟩)), (38, .pointer (some ⟨gb, 0, none⟩)), (43, .int .i64 (j : Nat)), (46, .slice q192 n cq192)]) (fun ⟨Y192, cq192, q192⟩ => bx (γ1 0) (#[.pointer (some ⟨gb, 0, none⟩)]) 56 :: bx gb (#[.slice (some ⟨g14, 0, none⟩) m capq]) 36 :: bx gm (#[.slice p n cap]) 27 :: bx gi (#[.int .i64 (j + 1 : Nat)]) 3 :: (Y192 ++ ([bx g14 cs14 62] ++ (Yi ++ (YR ++ []))))) ?_ (fun hmx10 => ?_)
       ·
        rintro ⟨Y192, cq192, q192⟩ hO192
        refine any_fork [1, 6] (by kernel_rfl) (by simp) (each_cons _ rfl ?_ (each_cons _ rfl ?_ (each_nil)))
        ·
         refine qo0 1 [(1, .go (owns 0 0 1))] [2, 38, 43, 46] [(39, .pointer (some ⟨gb, 0, none⟩))] ?_
         refine od_ ?_
         refine tk (m := 8) [2, 3] [] [2, 38, 43, 46] [(41, .pointer (some ⟨gb, 0, none⟩))] ([]) #[true, true, true, true, false, true, false, true, true, false, false, false, false, false, false] al0 ?_
         exact wk (hmx26 (Y192, cq192, q192) hO192) [2, 38, 41, 43, 46] [[_], [_], [_], [_], _, [bx g14 cs14 62], _, _] [0, 1, 2, 3, 4, 5, 6, 7] rfl rfl
        ·
         refine qo0 1 [(6, .go (owns 3 0 1))] [3, 38, 43, 46] [(44, .int .i64 (j + 1 : Nat))] ?_
         refine od_ ?_
         refine tk (m := 9) [9] [] [3, 38, 43] [(47, .agg #[.int .i64 (j + 1 : Nat), .slice q192 n cq192])] ([]) #[true, false, false, false, false, true, true, true, true, true, false, false, false, false, false] al0 ?_
         exact wk (hmx20 (Y192, cq192, q192) hO192) [3, 38, 43, 47] [[_], [_], [_], [_], _, [bx g14 cs14 62], _, _] [0, 1, 2, 3, 4, 5, 6, 7] rfl rfl
       refine any_cutX (V := Unit) (fun _ => True) 11 #[true, false, false, false, false, true, true, true, false, false, false, false, false, false, false] (fun _ => [(3, .pointer (some ⟨γ1 0, 0, none⟩)), (38, .pointer (some ⟨gb, 0, none⟩)), (43, .int .i64 (j : Nat)), (44, .int .i64 (j + 1 : Nat)), (45, .slice p n cap)]) (fun _ => bx (γ1 0) (#[.pointer (some ⟨gb, 0, none⟩)]) 56 :: bx gb (#[.slice (some ⟨g14, 0, none⟩) m capq]) 36 :: bx gm (#[.slice p n cap]) 27 :: bx gi (#[.int .i64 (j + 1 : Nat)]) 3 :: ([bx g14 cs14 62] ++ (Yi ++ (YR ++ [])))) ?_ (fun hmx9 => ?_)
       ·
        rintro _ _
        refine any_fork [1, 8] (by kernel_rfl) (by simp) (each_cons _ rfl ?_ (each_cons _ rfl ?_ (each_nil)))
        ·
         refine qo0 1 [(1, .go (owns 0 0 1))] [38, 43, 44, 45] [(39, .pointer (some ⟨gb, 0, none⟩))] ?_
         refine od_ ?_
         refine tk (m := 8) [2, 3] [] [38, 43, 44, 45] [(41, .pointer (some ⟨gb, 0, none⟩))] ([]) #[true, true, true, true, false, true, true, true, false, false, false, false, false, false, false] al0 ?_
         exact wk (hmx25 () trivial) [38, 41, 43, 44, 45] [[_], [_], [_], [_], [bx g14 cs14 62], _, _] [0, 1, 2, 3, 4, 5, 6] rfl rfl
        ·
         refine cP (fun v L' => ∃ q_ c_ Y_, v = .slice q_ n c_ ∧ L' = List.take 4 (bx (γ1 0) (#[.pointer (some ⟨gb, 0, none⟩)]) 56 :: bx gb (#[.slice (some ⟨g14, 0, none⟩) m capq]) 36 :: bx gm (#[.slice p n cap]) 27 :: bx gi (#[.int .i64 (j + 1 : Nat)]) 3 :: ([bx g14 cs14 62] ++ (Yi ++ (YR ++ [])))) ++ (Y_ ++ List.drop 4 (bx (γ1 0) (#[.pointer (some ⟨gb, 0, none⟩)]) 56 :: bx gb (#[.slice (some ⟨g14, 0, none⟩) m capq]) 36 :: bx gm (#[.slice p n cap]) 27 :: bx gi (#[.int .i64 (j + 1 : Nat)]) 3 :: ([bx g14 cs14 62] ++ (Yi ++ (YR ++ []))))) ∧ SlO 3 Y_ q_ n c_ l) (fun args w => Tryd.call32 args w) (fun w hw => (cloneints_t p n cap l w (hsl.kept hw.below) hn (by omega)).mono fun e w' ⟨q_, c_, Y_, he, hO, hb, hY⟩ => ⟨_, _, he, ⟨q_, c_, Y_, rfl, rfl, hO⟩, hw.join hb hY 4⟩) ?_
         rintro v192 L192 ⟨q192, cq192, Y192, rfl, rfl, hO192⟩
         refine od_ ?_
         refine tk (m := 9) [9] [] [3, 38, 43] [(47, .agg #[.int .i64 (j + 1 : Nat), .slice q192 n cq192])] ([]) #[true, false, false, false, false, true, true, true, true, true, false, false, false, false, false] al0 ?_
         exact wk (hmx20 (Y192, cq192, q192) hO192) [3, 38, 43, 47] [[_], [_], [_], [_], _, [bx g14 cs14 62], _, _] [0, 1, 2, 3, 4, 5, 6, 7] rfl rfl
       refine any_cutX (V := Unit) (fun _ => True) 11 #[false, true, true, true, false, true, false, false, false, false, false, false, false, false, false] (fun _ => [(1, .pointer (some ⟨gm, 0, none⟩)), (2, .pointer (some ⟨gi, 0, none⟩)), (3, .pointer (some ⟨γ1 0, 0, none⟩)), (41, .pointer (some ⟨gb, 0, none⟩)), (43, .int .i64 (j : Nat))]) (fun _ => bx (γ1 0) (#[.pointer (some ⟨gb, 0, none⟩)]) 56 :: bx gb (#[.slice (some ⟨g14, 0, none⟩) m capq]) 36 :: bx gm (#[.slice p n cap]) 27 :: bx gi (#[.int .i64 (j + 1 : Nat)]) 3 :: ([bx g14 cs14 62] ++ (Yi ++ (YR ++ [])))) ?_ (fun hmx8 => ?_)
       ·
        rintro _ _
        refine any_fork [0, 4, 6, 7] (by kernel_rfl) (by simp) (each_cons _ rfl ?_ (each_cons _ rfl ?_ (each_cons _ rfl ?_ (each_cons _ rfl ?_ (each_nil)))))
        ·
         refine qo0 1 [(0, .go (owns 0 0 1))] [1, 2, 41, 43] [(38, .pointer (some ⟨gb, 0, none⟩))] ?_
         refine od_ ?_
         exact wk (hmx11 () trivial) [1, 2, 38, 41, 43] [[_], [_], [_], [_], [bx g14 cs14 62], _, _] [0, 1, 2, 3, 4, 5, 6] rfl rfl
        ·
         refine qo0 1 [(4, .go (owns 1 0 1))] [1, 2, 3, 43] [(42, .slice (some ⟨g14, 0, none⟩) m capq)] ?_
         refine od_ ?_
         exact wk (hmx15 () trivial) [1, 2, 3, 42, 43] [[_], [_], [_], [_], [bx g14 cs14 62], _, _] [0, 1, 2, 3, 4, 5, 6] rfl rfl
        ·
         refine qo0 1 [(6, .go (owns 3 0 1))] [1, 3, 41, 43] [(44, .int .i64 (j + 1 : Nat))] ?_
         refine od_ ?_
         exact wk (hmx12 () trivial) [1, 3, 41, 43, 44] [[_], [_], [_], [_], [bx g14 cs14 62], _, _] [0, 1, 2, 3, 4, 5, 6] rfl rfl
        ·
         refine qo0 1 [(7, .go (owns 2 0 1))] [2, 3, 41, 43] [(45, .slice p n cap)] ?_
         refine od_ ?_
         exact wk (hmx13 () trivial) [2, 3, 41, 43, 45] [[_], [_], [_], [_], [bx g14 cs14 62], _, _] [0, 1, 2, 3, 4, 5, 6] rfl rfl
       refine any_cutX (V := (List Ob) × (Nat) × (Option Addr)) (fun ⟨Y192, cq192, q192⟩ => SlO 3 Y192 q192 n cq192 l) 12 #[false, false, false, false, false, true, false, true, true, false, false, false, false, false, false] (fun ⟨Y192, cq192, q192⟩ => [(2, .pointer (some ⟨gi, 0, none⟩)), (3, .pointer (some ⟨γ1 0, 0, none⟩)), (43, .int .i64 (j : Nat)), (46, .slice q192 n cq192)]) (fun ⟨Y192, cq192, q192⟩ => bx (γ1 0) (#[.pointer (some ⟨gb, 0, none⟩)]) 56 :: bx gb (#[.slice (some ⟨g14, 0, none⟩) m capq]) 36 :: bx gm (#[.slice p n cap]) 27 :: bx gi (#[.int .i64 (j + 1 : Nat)]) 3 :: (Y192 ++ ([bx g14 cs14 62] ++ (Yi ++ (YR ++ []))))) ?_ (fun hmx7 => ?_)
       ·
        rintro ⟨Y192, cq192, q192⟩ hO192
        refine any_fork [0, 1, 6] (by kernel_rfl) (by simp) (each_cons _ rfl ?_ (each_cons _ rfl ?_ (each_cons _ rfl ?_ (each_nil))))
        ·
         refine qo0 1 [(0, .go (owns 0 0 1))] [2, 3, 43, 46] [(38, .pointer (some ⟨gb, 0, none⟩))] ?_
         refine od_ ?_
         exact wk (hmx10 (Y192, cq192, q192) hO192) [2, 3, 38, 43, 46] [[_], [_], [_], [_], _, [bx g14 cs14 62], _, _] [0, 1, 2, 3, 4, 5, 6, 7] rfl rfl
        ·
         refine qo0 1 [(1, .go (owns 0 0 1))] [2, 3, 43, 46] [(39, .pointer (some ⟨gb, 0, none⟩))] ?_
         refine od_ ?_
         refine tk (m := 9) [2, 3] [] [2, 3, 43, 46] [(41, .pointer (some ⟨gb, 0, none⟩))] ([]) #[false, true, true, true, false, true, false, true, true, false, false, false, false, false, false] al0 ?_
         exact wk (hmx19 (Y192, cq192, q192) hO192) [2, 3, 41, 43, 46] [[_], [_], [_], [_], _, [bx g14 cs14 62], _, _] [0, 1, 2, 3, 4, 5, 6, 7] rfl rfl
        ·
         refine qo0 1 [(6, .go (owns 3 0 1))] [3, 43, 46] [(44, .int .i64 (j + 1 : Nat))] ?_
         refine od_ ?_
         refine tk (m := 10) [9] [] [3, 43] [(47, .agg #[.int .i64 (j + 1 : Nat), .slice q192 n cq192])] ([]) #[false, false, false, false, false, true, true, true, true, true, false, false, false, false, false] al0 ?_
         exact wk (hmx14 (Y192, cq192, q192) hO192) [3, 43, 47] [[_], [_], [_], [_], _, [bx g14 cs14 62], _, _] [0, 1, 2, 3, 4, 5, 6, 7] rfl rfl
       refine any_cutX (V := Unit) (fun _ => True) 12 #[false, false, false, false, false, true, true, true, false, false, false, false, false, false, false] (fun _ => [(3, .pointer (some ⟨γ1 0, 0, none⟩)), (43, .int .i64 (j : Nat)), (44, .int .i64 (j + 1 : Nat)), (45, .slice p n cap)]) (fun _ => bx (γ1 0) (#[.pointer (some ⟨gb, 0, none⟩)]) 56 :: bx gb (#[.slice (some ⟨g14, 0, none⟩) m capq]) 36 :: bx gm (#[.slice p n cap]) 27 :: bx gi (#[.int .i64 (j + 1 : Nat)]) 3 :: ([bx g14 cs14 62] ++ (Yi ++ (YR ++ [])))) ?_ (fun hmx6 => ?_)
       ·
        rintro _ _
        refine any_fork [0, 1, 8] (by kernel_rfl) (by simp) (each_cons _ rfl ?_ (each_cons _ rfl ?_ (each_cons _ rfl ?_ (each_nil))))
        ·
         refine qo0 1 [(0, .go (owns 0 0 1))] [3, 43, 44, 45] [(38, .pointer (some ⟨gb, 0, none⟩))] ?_
         refine od_ ?_
         exact wk (hmx9 () trivial) [3, 38, 43, 44, 45] [[_], [_], [_], [_], [bx g14 cs14 62], _, _] [0, 1, 2, 3, 4, 5, 6] rfl rfl
        ·
         refine qo0 1 [(1, .go (owns 0 0 1))] [3, 43, 44, 45] [(39, .pointer (some ⟨gb, 0, none⟩))] ?_
         refine od_ ?_
         refine tk (m := 9) [2, 3] [] [3, 43, 44, 45] [(41, .pointer (some ⟨gb, 0, none⟩))] ([]) #[false, true, true, true, false, true, true, true, false, false, false, false, false, false, false] al0 ?_
         exact wk (hmx18 () trivial) [3, 41, 43, 44, 45] [[_], [_], [_], [_], [bx g14 cs14 62], _, _] [0, 1, 2, 3, 4, 5, 6] rfl rfl
        ·
         refine cP (fun v L' => ∃ q_ c_ Y_, v = .slice q_ n c_ ∧ L' = List.take 4 (bx (γ1 0) (#[.pointer (some ⟨gb, 0, none⟩)]) 56 :: bx gb (#[.slice (some ⟨g14, 0, none⟩) m capq]) 36 :: bx gm (#[.slice p n cap]) 27 :: bx gi (#[.int .i64 (j + 1 : Nat)]) 3 :: ([bx g14 cs14 62] ++ (Yi ++ (YR ++ [])))) ++ (Y_ ++ List.drop 4 (bx (γ1 0) (#[.pointer (some ⟨gb, 0, none⟩)]) 56 :: bx gb (#[.slice (some ⟨g14, 0, none⟩) m capq]) 36 :: bx gm (#[.slice p n cap]) 27 :: bx gi (#[.int .i64 (j + 1 : Nat)]) 3 :: ([bx g14 cs14 62] ++ (Yi ++ (YR ++ []))))) ∧ SlO 3 Y_ q_ n c_ l) (fun args w => Tryd.call32 args w) (fun w hw => (cloneints_t p n cap l w (hsl.kept hw.below) hn (by omega)).mono fun e w' ⟨q_, c_, Y_, he, hO, hb, hY⟩ => ⟨_, _, he, ⟨q_, c_, Y_, rfl, rfl, hO⟩, hw.join hb hY 4⟩) ?_
         rintro v192 L192 ⟨q192, cq192, Y192, rfl, rfl, hO192⟩
         refine od_ ?_
         refine tk (m := 10) [9] [] [3, 43] [(47, .agg #[.int .i64 (j + 1 : Nat), .slice q192 n cq192])] ([]) #[false, false, false, false, false, true, true, true, true, true, false, false, false, false, false] al0 ?_
         exact wk (hmx14 (Y192, cq192, q192) hO192) [3, 43, 47] [[_], [_], [_], [_], _, [bx g14 cs14 62], _, _] [0, 1, 2, 3, 4, 5, 6, 7] rfl rfl
       refine any_cutX (V := Unit) (fun _ => True) 12 #[true, false, false, false, false, true, false, true, false, false, false, false, false, false, false] (fun _ => [(2, .pointer (some ⟨gi, 0, none⟩)), (3, .pointer (some ⟨γ1 0, 0, none⟩)), (38, .pointer (some ⟨gb, 0, none⟩)), (43, .int .i64 (j : Nat)), (45, .slice p n cap)]) (fun _ => bx (γ1 0) (#[.pointer (some ⟨gb, 0, none⟩)]) 56 :: bx gb (#[.slice (some ⟨g14, 0, none⟩) m capq]) 36 :: bx gm (#[.slice p n cap]) 27 :: bx gi (#[.int .i64 (j + 1 : Nat)]) 3 :: ([bx g14 cs14 62] ++ (Yi ++ (YR ++ [])))) ?_ (fun hmx5 => ?_)
       ·
        rintro _ _
        refine any_fork [1, 6, 8] (by kernel_rfl) (by simp) (each_cons _ rfl ?_ (each_cons _ rfl ?_ (each_cons _ rfl ?_ (each_nil))))
        ·
         refine qo0 1 [(1, .go (owns 0 0 1))] [2, 38, 43, 45] [(39, .pointer (some ⟨gb, 0, none⟩))] ?_
         refine od_ ?_
         refine tk (m := 9) [2, 3] [] [2, 38, 43, 45] [(41, .pointer (some ⟨gb, 0, none⟩))] ([]) #[true, true, true, true, false, true, false, true, false, false, false, false, false, false, false] al0 ?_
         exact wk (hmx17 () trivial) [2, 38, 41, 43, 45] [[_], [_], [_], [_], [bx g14 cs14 62], _, _] [0, 1, 2, 3, 4, 5, 6] rfl rfl
        ·
         refine qo0 1 [(6, .go (owns 3 0 1))] [3, 38, 43, 45] [(44, .int .i64 (j + 1 : Nat))] ?_
         refine od_ ?_
         exact wk (hmx9 () trivial) [3, 38, 43, 44, 45] [[_], [_], [_], [_], [bx g14 cs14 62], _, _] [0, 1, 2, 3, 4, 5, 6] rfl rfl
        ·
         refine cP (fun v L' => ∃ q_ c_ Y_, v = .slice q_ n c_ ∧ L' = List.take 4 (bx (γ1 0) (#[.pointer (some ⟨gb, 0, none⟩)]) 56 :: bx gb (#[.slice (some ⟨g14, 0, none⟩) m capq]) 36 :: bx gm (#[.slice p n cap]) 27 :: bx gi (#[.int .i64 (j + 1 : Nat)]) 3 :: ([bx g14 cs14 62] ++ (Yi ++ (YR ++ [])))) ++ (Y_ ++ List.drop 4 (bx (γ1 0) (#[.pointer (some ⟨gb, 0, none⟩)]) 56 :: bx gb (#[.slice (some ⟨g14, 0, none⟩) m capq]) 36 :: bx gm (#[.slice p n cap]) 27 :: bx gi (#[.int .i64 (j + 1 : Nat)]) 3 :: ([bx g14 cs14 62] ++ (Yi ++ (YR ++ []))))) ∧ SlO 3 Y_ q_ n c_ l) (fun args w => Tryd.call32 args w) (fun w hw => (cloneints_t p n cap l w (hsl.kept hw.below) hn (by omega)).mono fun e w' ⟨q_, c_, Y_, he, hO, hb, hY⟩ => ⟨_, _, he, ⟨q_, c_, Y_, rfl, rfl, hO⟩, hw.join hb hY 4⟩) ?_
         rintro v192 L192 ⟨q192, cq192, Y192, rfl, rfl, hO192⟩
         refine od_ ?_
         exact wk (hmx10 (Y192, cq192, q192) hO192) [2, 3, 38, 43, 46] [[_], [_], [_], [_], _, [bx g14 cs14 62], _, _] [0, 1, 2, 3, 4, 5, 6, 7] rfl rfl
       refine any_cutX (V := Unit) (fun _ => True) 12 #[true, false, false, false, false, true, true, false, false, false, false, false, false, false, false] (fun _ => [(1, .pointer (some ⟨gm, 0, none⟩)), (3, .pointer (some ⟨γ1 0, 0, none⟩)), (38, .pointer (some ⟨gb, 0, none⟩)), (43, .int .i64 (j : Nat)), (44, .int .i64 (j + 1 : Nat))]) (fun _ => bx (γ1 0) (#[.pointer (some ⟨gb, 0, none⟩)]) 56 :: bx gb (#[.slice (some ⟨g14, 0, none⟩) m capq]) 36 :: bx gm (#[.slice p n cap]) 27 :: bx gi (#[.int .i64 (j + 1 : Nat)]) 3 :: ([bx g14 cs14 62] ++ (Yi ++ (YR ++ [])))) ?_ (fun hmx4 => ?_)
       ·
        rintro _ _
        refine any_fork [1, 7] (by kernel_rfl) (by simp) (each_cons _ rfl ?_ (each_cons _ rfl ?_ (each_nil)))
        ·
         refine qo0 1 [(1, .go (owns 0 0 1))] [1, 38, 43, 44] [(39, .pointer (some ⟨gb, 0, none⟩))] ?_
         refine od_ ?_
         refine tk (m := 9) [2, 3] [] [1, 38, 43, 44] [(41, .pointer (some ⟨gb, 0, none⟩))] ([]) #[true, true, true, true, false, true, true, false, false, false, false, false, false, false, false] al0 ?_
         exact wk (hmx16 () trivial) [1, 38, 41, 43, 44] [[_], [_], [_], [_], [bx g14 cs14 62], _, _] [0, 1, 2, 3, 4, 5, 6] rfl rfl
        ·
         refine qo0 1 [(7, .go (owns 2 0 1))] [3, 38, 43, 44] [(45, .slice p n cap)] ?_
         refine od_ ?_
         exact wk (hmx9 () trivial) [3, 38, 43, 44, 45] [[_], [_], [_], [_], [bx g14 cs14 62], _, _] [0, 1, 2, 3, 4, 5, 6] rfl rfl
       refine any_cutX (V := Unit) (fun _ => True) 13 #[false, false, false, false, false, true, false, true, false, false, false, false, false, false, false] (fun _ => [(2, .pointer (some ⟨gi, 0, none⟩)), (3, .pointer (some ⟨γ1 0, 0, none⟩)), (43, .int .i64 (j : Nat)), (45, .slice p n cap)]) (fun _ => bx (γ1 0) (#[.pointer (some ⟨gb, 0, none⟩)]) 56 :: bx gb (#[.slice (some ⟨g14, 0, none⟩) m capq]) 36 :: bx gm (#[.slice p n cap]) 27 :: bx gi (#[.int .i64 (j + 1 : Nat)]) 3 :: ([bx g14 cs14 62] ++ (Yi ++ (YR ++ [])))) ?_ (fun hmx3 => ?_)
       ·
        rintro _ _
        refine any_fork [0, 1, 6, 8] (by kernel_rfl) (by simp) (each_cons _ rfl ?_ (each_cons _ rfl ?_ (each_cons _ rfl ?_ (each_cons _ rfl ?_ (each_nil)))))
        ·
         refine qo0 1 [(0, .go (owns 0 0 1))] [2, 3, 43, 45] [(38, .pointer (some ⟨gb, 0, none⟩))] ?_
         refine od_ ?_
         exact wk (hmx5 () trivial) [2, 3, 38, 43, 45] [[_], [_], [_], [_], [bx g14 cs14 62], _, _] [0, 1, 2, 3, 4, 5, 6] rfl rfl
        ·
         refine qo0 1 [(1, .go (owns 0 0 1))] [2, 3, 43, 45] [(39, .pointer (some ⟨gb, 0, none⟩))] ?_
         refine od_ ?_
         refine tk (m := 10) [2, 3] [] [2, 3, 43, 45] [(41, .pointer (some ⟨gb, 0, none⟩))] ([]) #[false, true, true, true, false, true, false, true, false, false, false, false, false, false, false] al0 ?_
         exact wk (hmx13 () trivial) [2, 3, 41, 43, 45] [[_], [_], [_], [_], [bx g14 cs14 62], _, _] [0, 1, 2, 3, 4, 5, 6] rfl rfl
        ·
         refine qo0 1 [(6, .go (owns 3 0 1))] [3, 43, 45] [(44, .int .i64 (j + 1 : Nat))] ?_
         refine od_ ?_
         exact wk (hmx6 () trivial) [3, 43, 44, 45] [[_], [_], [_], [_], [bx g14 cs14 62], _, _] [0, 1, 2, 3, 4, 5, 6] rfl rfl
        ·
         refine cP (fun v L' => ∃ q_ c_ Y_, v = .slice q_ n c_ ∧ L' = List.take 4 (bx (γ1 0) (#[.pointer (some ⟨gb, 0, none⟩)]) 56 :: bx gb (#[.slice (some ⟨g14, 0, none⟩) m capq]) 36 :: bx gm (#[.slice p n cap]) 27 :: bx gi (#[.int .i64 (j + 1 : Nat)]) 3 :: ([bx g14 cs14 62] ++ (Yi ++ (YR ++ [])))) ++ (Y_ ++ List.drop 4 (bx (γ1 0) (#[.pointer (some ⟨gb, 0, none⟩)]) 56 :: bx gb (#[.slice (some ⟨g14, 0, none⟩) m capq]) 36 :: bx gm (#[.slice p n cap]) 27 :: bx gi (#[.int .i64 (j + 1 : Nat)]) 3 :: ([bx g14 cs14 62] ++ (Yi ++ (YR ++ []))))) ∧ SlO 3 Y_ q_ n c_ l) (fun args w => Tryd.call32 args w) (fun w hw => (cloneints_t p n cap l w (hsl.kept hw.below) hn (by omega)).mono fun e w' ⟨q_, c_, Y_, he, hO, hb, hY⟩ => ⟨_, _, he, ⟨q_, c_, Y_, rfl, rfl, hO⟩, hw.join hb hY 4⟩) ?_
         rintro v192 L192 ⟨q192, cq192, Y192, rfl, rfl, hO192⟩
         refine od_ ?_
         exact wk (hmx7 (Y192, cq192, q192) hO192) [2, 3, 43, 46] [[_], [_], [_], [_], _, [bx g14 cs14 62], _, _] [0, 1, 2, 3, 4, 5, 6, 7] rfl rfl
       refine any_cutX (V := Unit) (fun _ => True) 13 #[false, false, false, false, false, true, true, false, false, false, false, false, false, false, false] (fun _ => [(1, .pointer (some ⟨gm, 0, none⟩)), (3, .pointer (some ⟨γ1 0, 0, none⟩)), (43, .int .i64 (j : Nat)), (44, .int .i64 (j + 1 : Nat))]) (fun _ => bx (γ1 0) (#[.pointer (some ⟨gb, 0, none⟩)]) 56 :: bx gb (#[.slice (some ⟨g14, 0, none⟩) m capq]) 36 :: bx gm (#[.slice p n cap]) 27 :: bx gi (#[.int .i64 (j + 1 : Nat)]) 3 :: ([bx g14 cs14 62] ++ (Yi ++ (YR ++ [])))) ?_ (fun hmx2 => ?_)
       ·
        rintro _ _
        refine any_fork [0, 1, 7] (by kernel_rfl) (by simp) (each_cons _ rfl ?_ (each_cons _ rfl ?_ (each_cons _ rfl ?_ (each_nil))))
        ·
         refine qo0 1 [(0, .go (owns 0 0 1))] [1, 3, 43, 44] [(38, .pointer (some ⟨gb, 0, none⟩))] ?_
         refine od_ ?_
         exact wk (hmx4 () trivial) [1, 3, 38, 43, 44] [[_], [_], [_], [_], [bx g14 cs14 62], _, _] [0, 1, 2, 3, 4, 5, 6] rfl rfl
        ·
         refine qo0 1 [(1, .go (owns 0 0 1))] [1, 3, 43, 44] [(39, .pointer (some ⟨gb, 0, none⟩))] ?_
         refine od_ ?_
         refine tk (m := 10) [2, 3] [] [1, 3, 43, 44] [(41, .pointer (some ⟨gb, 0, none⟩))] ([]) #[false, true, true, true, false, true, true, false, false, false, false, false, false, false, false] al0 ?_
         exact wk (hmx12 () trivial) [1, 3, 41, 43, 44] [[_], [_], [_], [_], [bx g14 cs14 62], _, _] [0, 1, 2, 3, 4, 5, 6] rfl rfl
        ·
         refine qo0 1 [(7, .go (owns 2 0 1))] [3, 43, 44] [(45, .slice p n cap)] ?_
         refine od_ ?_
         exact wk (hmx6 () trivial) [3, 43, 44, 45] [[_], [_], [_], [_], [bx g14 cs14 62], _, _] [0, 1, 2, 3, 4, 5, 6] rfl rfl
       refine any_cutX (V := Unit) (fun _ => True) 13 #[true, false, false, false, false, true, false, false, false, false, false, false, false, false, false] (fun _ => [(1, .pointer (some ⟨gm, 0, none⟩)), (2, .pointer (some ⟨gi, 0, none⟩)), (3, .pointer (some ⟨γ1 0, 0, none⟩)), (38, .pointer (some ⟨gb, 0, none⟩)), (43, .int .i64 (j : Nat))]) (fun _ => bx (γ1 0) (#[.pointer (some ⟨gb, 0, none⟩)]) 56 :: bx gb (#[.slice (some ⟨g14, 0, none⟩) m capq]) 36 :: bx gm (#[.slice p n cap]) 27 :: bx gi (#[.int .i64 (j + 1 : Nat)]) 3 :: ([bx g14 cs14 62] ++ (Yi ++ (YR ++ [])))) ?_ (fun hmx1 => ?_)
       ·
        rintro _ _
        refine any_fork [1, 6, 7] (by kernel_rfl) (by simp) (each_cons _ rfl ?_ (each_cons _ rfl ?_ (each_cons _ rfl ?_ (each_nil))))
        ·
         refine qo0 1 [(1, .go (owns 0 0 1))] [1, 2, 38, 43] [(39, .pointer (some ⟨gb, 0, none⟩))] ?_
         refine od_ ?_
         refine tk (m := 10) [2, 3] [] [1, 2, 38, 43] [(41, .pointer (some ⟨gb, 0, none⟩))] ([]) #[true, true, true, true, false, true, false, false, false, false, false, false, false, false, false] al0 ?_
         exact wk (hmx11 () trivial) [1, 2, 38, 41, 43] [[_], [_], [_], [_], [bx g14 cs14 62], _, _] [0, 1, 2, 3, 4, 5, 6] rfl rfl
        ·
         refine qo0 1 [(6, .go (owns 3 0 1))] [1, 3, 38, 43] [(44, .int .i64 (j + 1 : Nat))] ?_
         refine od_ ?_
         exact wk (hmx4 () trivial) [1, 3, 38, 43, 44] [[_], [_], [_], [_], [bx g14 cs14 62], _, _] [0, 1, 2, 3, 4, 5, 6] rfl rfl
        ·
         refine qo0 1 [(7, .go (owns 2 0 1))] [2, 3, 38, 43] [(45, .slice p n cap)] ?_
         refine od_ ?_
         exact wk (hmx5 () trivial) [2, 3, 38, 43, 45] [[_], [_], [_], [_], [bx g14 cs14 62], _, _] [0, 1, 2, 3, 4, 5, 6] rfl rfl
       refine any_fork [0, 1, 6, 7] (by kernel_rfl) (by simp) (each_cons _ rfl ?_ (each_cons _ rfl ?_ (each_cons _ rfl ?_ (each_cons _ rfl ?_ (each_nil)))))
       ·
        refine qo0 1 [(0, .go (owns 0 0 1))] [1, 2, 3, 43] [(38, .pointer (some ⟨gb, 0, none⟩))] ?_
        refine od_ ?_
        exact wk (hmx1 () trivial) [1, 2, 3, 38, 43] [[_], [_], [_], [_], [bx g14 cs14 62], _, _] [0, 1, 2, 3, 4, 5, 6] rfl rfl
       ·
        refine qo0 1 [(1, .go (owns 0 0 1))] [1, 2, 3, 43] [(39, .pointer (some ⟨gb, 0, none⟩))] ?_
        refine od_ ?_
        refine tk (m := 11) [2, 3] [] [1, 2, 3, 43] [(41, .pointer (some ⟨gb, 0, none⟩))] ([]) #[false, true, true, true, false, true, false, false, false, false, false, false, false, false, false] al0 ?_
        exact wk (hmx8 () trivial) [1, 2, 3, 41, 43] [[_], [_], [_], [_], [bx g14 cs14 62], _, _] [0, 1, 2, 3, 4, 5, 6] rfl rfl
       ·
        refine qo0 1 [(6, .go (owns 3 0 1))] [1, 3, 43] [(44, .int .i64 (j + 1 : Nat))] ?_
        refine od_ ?_
        exact wk (hmx2 () trivial) [1, 3, 43, 44] [[_], [_], [_], [_], [bx g14 cs14 62], _, _] [0, 1, 2, 3, 4, 5, 6] rfl rfl
       ·
        refine qo0 1 [(7, .go (owns 2 0 1))] [2, 3, 43] [(45, .slice p n cap)] ?_
        refine od_ ?_
        exact wk (hmx3 () trivial) [2, 3, 43, 45] [[_], [_], [_], [_], [bx g14 cs14 62], _, _] [0, 1, 2, 3, 4, 5, 6] rfl rfl
      rintro ⟨Y192, Y252, cq192, cq252, q192, q252, γ232⟩ ⟨hO192, hO252⟩
      refine any_nil (by kernel_rfl) ?_
      refine ds_ (sq_ (qa0 [] [] [(4, .int .i64 0)] (ds_ (rt ([]) (.int .i64 0) ?_))))
      obtain ⟨Yq, hpq, hGq⟩ := GotG.ins (x := (⟨(j + 1 : Nat), q192, n, cq192, l⟩ : GngA)) hG hO192 (show j ≤ bl.length by omega)
      exact fun w' hw => ⟨_, _, _, _, _, Yq, (bl.take j ++ [(⟨(j + 1 : Nat), q192, n, cq192, l⟩ : GngA)] ++ bl.drop j), _, rfl, by rw [inG_val] at q8; rw [fc_ok q3 q8 hI (by omega), val_ins]; rfl, hO252, hGq, form_perm hpq (by have := Hs.pick [[bx (γ1 0) (#[.pointer (some ⟨gb, 0, none⟩)]) 56], [bx gb (#[.slice q252 (m + 1) cq252]) 36], [bx gm (#[.slice p n cap]) 27], [bx gi (#[.int .i64 (j + 1 : Nat)]) 3], Y192, Y252, Yi, YR] [1, 2, 3, 5, 6, 4, 7] [0] (by kernel_rfl) hw; simpa [chunk] using this)⟩
   ·
    refine ao_ (qo 14 [(1, .go (owns 0 0 1)), (4, .go (owns 1 0 1)), (6, .no)] [1, 2, 3, 5] [(19, .bool false), (25, undef)] ([¬ (((j : Nat) : Int) < ((m : Nat) : Int))]) (al1 q12) (qo0 6 [] [1, 2, 3, 5] [(31, .bool false)] (on_ (ds_ (f_ (at_leave _ rfl (ds_ (sq_ (sq_ ?_)))))))))
    rw [show (bl.map GngA.val).drop j = [] from List.drop_of_length_le (by rw [List.length_map]; omega)] at hI
    have hI : j = gapV 0 (bl.map GngA.val) := hI
    by_cases q422 : ((j : Nat) : Int) = (8 : Int)
    ·
     refine qa [(1, .yes)] [1, 2, 3, 5] [(35, .bool true)] ([((j : Nat) : Int) = (8 : Int)]) (al1 q422) (ds_ (t_ (sq_ (qa0 [] [] [(4, .int .i64 6)] (ds_ (rt ([]) (.int .i64 6) ?_))))))
     exact fun w' hw => ⟨_, _, _, _, _, _, bl, 0, rfl, by rw [inG_val] at q8; exact (fc_full q3 q8 hI (by omega)).symm, hO, hG, (by have := Hs.pick [[bx (γ1 0) (#[.pointer (some ⟨gb, 0, none⟩)]) 56], [bx gb (#[.slice q m capq]) 36], [bx gm (#[.slice p n cap]) 27], [bx gi (#[.int .i64 0]) 3], Y, Yi, YR] [1, 2, 3, 4, 5, 6] [0] (by kernel_rfl) hw; simpa [chunk] using this)⟩
    ·
     refine qa [(1, .no)] [1, 2, 3, 5] [(35, .bool false)] ([¬ (((j : Nat) : Int) = (8 : Int))]) (al1 q422) (ds_ (f_ (at_skip (ds_ (sq_ (ma [(1, .fit), (2, .go (owns 3 0 1))] [1, 2, 3, 5] (fun _ => []) (fun _ L => (L.set 3 (bx gi (#[.int .i64 (j + 1 : Nat)]) 3))) (fun _ => [Fit .i64 ((j + 1 : Nat))]) (fun _ => (al1 (fit64 (by omega) (by omega)))) (fun _ => ds_ (sq_ ?_))))))))
     refine at_any (by kernel_rfl) ?_
     refine tk (m := 14) [5] [] [1, 2, 3] [(43, .int .i64 (j : Nat))] ([]) #[false, false, false, false, false, true, false, false, false, false, false, false, false, false, false] al0 ?_
     refine any_cutX (V := (List Ob) × (List Ob) × (Nat) × (Nat) × (Option Addr) × (Option Addr) × (Nat → Nat)) (fun ⟨Y590, Y650, cq590, cq650, q590, q650, γ630⟩ => SlO 3 Y590 q590 n cq590 l ∧ SlO 62 Y650 q650 (m + 1) cq650 (bl.take j ++ [(⟨(j + 1 : Nat), q590, n, cq590, l⟩ : GngA)] ++ bl.drop j)) 0 #[true, true, true, true, true, true, true, true, true, true, true, true, true, true, true] (fun ⟨Y590, Y650, cq590, cq650, q590, q650, γ630⟩ => []) (fun ⟨Y590, Y650, cq590, cq650, q590, q650, γ630⟩ => bx (γ1 0) (#[.pointer (some ⟨gb, 0, none⟩)]) 56 :: bx gb (#[.slice q650 (m + 1) cq650]) 36 :: bx gm (#[.slice p n cap]) 27 :: bx gi (#[.int .i64 (j + 1 : Nat)]) 3 :: (Y590 ++ (Y650 ++ (Yi ++ (YR ++ []))))) ?_ (fun hmx44 => ?_)
     rotate_left
     ·
      refine any_cutX (V := (List Ob) × (List Ob) × (Nat) × (Nat) × (Option Addr) × (Option Addr) × (Nat → Nat)) (fun ⟨Y590, Y650, cq590, cq650, q590, q650, γ630⟩ => SlO 3 Y590 q590 n cq590 l ∧ SlO 62 Y650 q650 (m + 1) cq650 (bl.take j ++ [(⟨(j + 1 : Nat), q590, n, cq590, l⟩ : GngA)] ++ bl.drop j)) 1 #[true, true, true, true, true, true, true, true, true, true, true, true, true, true, false] (fun ⟨Y590, Y650, cq590, cq650, q590, q650, γ630⟩ => [(49, .slice q650 (m + 1) cq650), (51, .pointer (some ⟨gb, 0, none⟩))]) (fun ⟨Y590, Y650, cq590, cq650, q590, q650, γ630⟩ => bx (γ1 0) (#[.pointer (some ⟨gb, 0, none⟩)]) 56 :: bx gb (#[.slice q m capq]) 36 :: bx gm (#[.slice p n cap]) 27 :: bx gi (#[.int .i64 (j + 1 : Nat)]) 3 :: (Y590 ++ (Y650 ++ (Yi ++ (YR ++ []))))) ?_ (fun hmx43 => ?_)
      ·
       rintro ⟨Y590, Y650, cq590, cq650, q590, q650, γ630⟩ ⟨hO590, hO650⟩
       refine a1 14 rfl ?_
       refine mo0 1 [(14, .go (owns 1 0 1))] [] (fun _ => []) (fun _ L => (L.set 1 (bx gb (#[.slice q650 (m + 1) cq650]) 36))) (fun _ => ?_)
       refine od_ ?_
       exact wk (hmx44 (Y590, Y650, cq590, cq650, q590, q650, γ630) ⟨hO590, hO650⟩) [] [[_], [_], [_], [_], _, _, _, _] [0, 1, 2, 3, 4, 5, 6, 7] rfl rfl
      refine any_cutX (V := (List Ob) × (List Ob) × (Nat) × (Nat) × (Option Addr) × (Option Addr) × (Nat → Nat)) (fun ⟨Y590, Y650, cq590, cq650, q590, q650, γ630⟩ => SlO 3 Y590 q590 n cq590 l ∧ SlO 62 Y650 q650 (m + 1) cq650 (bl.take j ++ [(⟨(j + 1 : Nat), q590, n, cq590, l⟩ : GngA)] ++ bl.drop j)) 4 #[false, true, true, true, true, true, true, true, true, true, true, true, false, false, false] (fun ⟨Y590, Y650, cq590, cq650, q590, q650, γ630⟩ => [(3, .pointer (some ⟨γ1 0, 0, none⟩)), (49, .slice q650 (m + 1) cq650)]) (fun ⟨Y590, Y650, cq590, cq650, q590, q650, γ630⟩ => bx (γ1 0) (#[.pointer (some ⟨gb, 0, none⟩)]) 56 :: bx gb (#[.slice q m capq]) 36 :: bx gm (#[.slice p n cap]) 27 :: bx gi (#[.int .i64 (j + 1 : Nat)]) 3 :: (Y590 ++ (Y650 ++ (Yi ++ (YR ++ []))))) ?_ (fun hmx42 => ?_)
      ·
       rintro ⟨Y590, Y650, cq590, cq650, q590, q650, γ630⟩ ⟨hO590, hO650⟩
       refine a1 0 rfl ?_
       refine qo0 1 [(0, .go (owns 0 0 1))] [49] [(38, .pointer (some ⟨gb, 0, none⟩))] ?_
       refine od_ ?_
       refine tk (m := 1) [12, 13] [] [49] [(51, .pointer (some ⟨gb, 0, none⟩))] ([]) #[true, true, true, true, true, true, true, true, true, true, true, true, true, true, false] al0 ?_
       exact wk (hmx43 (Y590, Y650, cq590, cq650, q590, q650, γ630) ⟨hO590, hO650⟩) [49, 51] [[_], [_], [_], [_], _, _, _, _] [0, 1, 2, 3, 4, 5, 6, 7] rfl rfl
      refine any_cutX (V := (List Ob) × (Nat) × (Option Addr) × (Nat → Nat)) (fun ⟨Y590, cq590, q590, γ630⟩ => SlO 3 Y590 q590 n cq590 l) 4 #[true, true, true, true, true, true, true, true, true, true, true, false, false, false, false] (fun ⟨Y590, cq590, q590, γ630⟩ => [(38, .pointer (some ⟨gb, 0, none⟩)), (42, .slice q m capq), (43, .int .i64 (j : Nat)), (48, .slice (some ⟨γ630 0, 0, none⟩) 1 1)]) (fun ⟨Y590, cq590, q590, γ630⟩ => bx (γ630 0) (#[.int .i64 (j + 1 : Nat), .slice q590 n cq590]) 62 :: bx (γ1 0) (#[.pointer (some ⟨gb, 0, none⟩)]) 56 :: bx gb (#[.slice q m capq]) 36 :: bx gm (#[.slice p n cap]) 27 :: bx gi (#[.int .i64 (j + 1 : Nat)]) 3 :: (Y590 ++ (Y ++ (Yi ++ (YR ++ []))))) ?_ (fun hmx41 => ?_)
      ·
       rintro ⟨Y590, cq590, q590, γ630⟩ hO590
       refine a1 11 rfl ?_
       refine Ops.pick [[bx (γ630 0) (#[.int .i64 (j + 1 : Nat), .slice q590 n cq590]) 62], [bx (γ1 0) (#[.pointer (some ⟨gb, 0, none⟩)]) 56], [bx gb (#[.slice q m capq]) 36], [bx gm (#[.slice p n cap]) 27], [bx gi (#[.int .i64 (j + 1 : Nat)]) 3], Y590, Y, Yi, YR] [0, 1, 2, 3, 4, 6, 5, 7, 8] [] (bx (γ630 0) (#[.int .i64 (j + 1 : Nat), .slice q590 n cq590]) 62 :: bx (γ1 0) (#[.pointer (some ⟨gb, 0, none⟩)]) 56 :: bx gb (#[.slice q m capq]) 36 :: bx gm (#[.slice p n cap]) 27 :: bx gi (#[.int .i64 (j + 1 : Nat)]) 3 :: (Y ++ (Y590 ++ (Yi ++ (YR ++ []))))) (by kernel_rfl) rfl rfl (cP (fun v L' => ∃ q_ capq_ Y_, v = .slice q_ (m + 1) capq_ ∧ L' = [bx (γ1 0) (#[.pointer (some ⟨gb, 0, none⟩)]) 56, bx gb (#[.slice q m capq]) 36, bx gm (#[.slice p n cap]) 27, bx gi (#[.int .i64 (j + 1 : Nat)]) 3] ++ (Y_ ++ (Y590 ++ (Yi ++ (YR ++ [])))) ∧ SlO 62 Y_ q_ (m + 1) capq_ (bl.take j ++ [(⟨(j + 1 : Nat), q590, n, cq590, l⟩ : GngA)] ++ bl.drop j)) (fun args w => Tryd.call31 args w) (fun w hw => (ginsert_t _ ([bx (γ1 0) (#[.pointer (some ⟨gb, 0, none⟩)]) 56, bx gb (#[.slice q m capq]) 36, bx gm (#[.slice p n cap]) 27, bx gi (#[.int .i64 (j + 1 : Nat)]) 3] ++ (Y590 ++ (Yi ++ (YR ++ [])))) Y q m capq bl j (γ630 0) (#[.int .i64 (j + 1 : Nat), .slice q590 n cq590]) 1 ([(⟨(j + 1 : Nat), q590, n, cq590, l⟩ : GngA)]) w (hw.pull (A := [bx (γ1 0) (#[.pointer (some ⟨gb, 0, none⟩)]) 56, bx gb (#[.slice q m capq]) 36, bx gm (#[.slice p n cap]) 27, bx gi (#[.int .i64 (j + 1 : Nat)]) 3]) (Y := Y) (R := (Y590 ++ (Yi ++ (YR ++ []))))) hO (by rfl) (by rfl) (by omega) (by omega) (by omega) (by omega)).mono fun e w' ⟨q_, capq_, Y_, he, hO, hY⟩ => ⟨_, _, he, ⟨q_, capq_, Y_, rfl, rfl, hO⟩, hY.push⟩) ?_)
       rintro v650 L650 ⟨q650, cq650, Y650, rfl, rfl, hO650⟩
       refine od_ ?_
       refine tk (m := 1) [12, 13] [] [49] [(51, .pointer (some ⟨gb, 0, none⟩))] ([]) #[true, true, true, true, true, true, true, true, true, true, true, true, true, true, false] al0 ?_
       exact wk (hmx43 (Y590, Y650, cq590, cq650, q590, q650, γ630) ⟨hO590, hO650⟩) [49, 51] [[_], [_], [_], [_], _, _, _, _] [0, 1, 2, 3, 5, 4, 6, 7] rfl rfl
      refine any_cutX (V := (List Ob) × (Nat) × (Option Addr) × (Nat → Nat)) (fun ⟨Y590, cq590, q590, γ630⟩ => SlO 3 Y590 q590 n cq590 l) 5 #[false, true, true, true, true, true, true, true, true, true, true, false, false, false, false] (fun ⟨Y590, cq590, q590, γ630⟩ => [(3, .pointer (some ⟨γ1 0, 0, none⟩)), (42, .slice q m capq), (43, .int .i64 (j : Nat)), (48, .slice (some ⟨γ630 0, 0, none⟩) 1 1)]) (fun ⟨Y590, cq590, q590, γ630⟩ => bx (γ630 0) (#[.int .i64 (j + 1 : Nat), .slice q590 n cq590]) 62 :: bx (γ1 0) (#[.pointer (some ⟨gb, 0, none⟩)]) 56 :: bx gb (#[.slice q m capq]) 36 :: bx gm (#[.slice p n cap]) 27 :: bx gi (#[.int .i64 (j + 1 : Nat)]) 3 :: (Y590 ++ (Y ++ (Yi ++ (YR ++ []))))) ?_ (fun hmx40 => ?_)
      ·
       rintro ⟨Y590, cq590, q590, γ630⟩ hO590
       refine any_fork [0, 11] (by kernel_rfl) (by simp) (each_cons _ rfl ?_ (each_cons _ rfl ?_ (each_nil)))
       ·
        refine qo0 1 [(0, .go (owns 1 0 1))] [42, 43, 48] [(38, .pointer (some ⟨gb, 0, none⟩))] ?_
        refine od_ ?_
        exact wk (hmx41 (Y590, cq590, q590, γ630) hO590) [38, 42, 43, 48] [[_], [_], [_], [_], [_], _, _, _, _] [0, 1, 2, 3, 4, 5, 6, 7, 8] rfl rfl
       ·
        refine Ops.pick [[bx (γ630 0) (#[.int .i64 (j + 1 : Nat), .slice q590 n cq590]) 62], [bx (γ1 0) (#[.pointer (some ⟨gb, 0, none⟩)]) 56], [bx gb (#[.slice q m capq]) 36], [bx gm (#[.slice p n cap]) 27], [bx gi (#[.int .i64 (j + 1 : Nat)]) 3], Y590, Y, Yi, YR] [0, 1, 2, 3, 4, 6, 5, 7, 8] [] (bx (γ630 0) (#[.int .i64 (j + 1 : Nat), .slice q590 n cq590]) 62 :: bx (γ1 0) (#[.pointer (some ⟨gb, 0, none⟩)]) 56 :: bx gb (#[.slice q m capq]) 36 :: bx gm (#[.slice p n cap]) 27 :: bx gi (#[.int .i64 (j + 1 : Nat)]) 3 :: (Y ++ (Y590 ++ (Yi ++ (YR ++ []))))) (by kernel_rfl) rfl rfl (cP (fun v L' => ∃ q_ capq_ Y_, v = .slice q_ (m + 1) capq_ ∧ L' = [bx (γ1 0) (#[.pointer (some ⟨gb, 0, none⟩)]) 56, bx gb (#[.slice q m capq]) 36, bx gm (#[.slice p n cap]) 27, bx gi (#[.int .i64 (j + 1 : Nat)]) 3] ++ (Y_ ++ (Y590 ++ (Yi ++ (YR ++ [])))) ∧ SlO 62 Y_ q_ (m + 1) capq_ (bl.take j ++ [(⟨(j + 1 : Nat), q590, n, cq590, l⟩ : GngA)] ++ bl.drop j)) (fun args w => Tryd.call31 args w) (fun w hw => (ginsert_t _ ([bx (γ1 0) (#[.pointer (some ⟨gb, 0, none⟩)]) 56, bx gb (#[.slice q m capq]) 36, bx gm (#[.slice p n cap]) 27, bx gi (#[.int .i64 (j + 1 : Nat)]) 3] ++ (Y590 ++ (Yi ++ (YR ++ [])))) Y q m capq bl j (γ630 0) (#[.int .i64 (j + 1 : Nat), .slice q590 n cq590]) 1 ([(⟨(j + 1 : Nat), q590, n, cq590, l⟩ : GngA)]) w (hw.pull (A := [bx (γ1 0) (#[.pointer (some ⟨gb, 0, none⟩)]) 56, bx gb (#[.slice q m capq]) 36, bx gm (#[.slice p n cap]) 27, bx gi (#[.int .i64 (j + 1 : Nat)]) 3]) (Y := Y) (R := (Y590 ++ (Yi ++ (YR ++ []))))) hO (by rfl) (by rfl) (by omega) (by omega) (by omega) (by omega)).mono fun e w' ⟨q_, capq_, Y_, he, hO, hY⟩ => ⟨_, _, he, ⟨q_, capq_, Y_, rfl, rfl, hO⟩, hY.push⟩) ?_)
        rintro v650 L650 ⟨q650, cq650, Y650, rfl, rfl, hO650⟩
        refine od_ ?_
        exact wk (hmx42 (Y590, Y650, cq590, cq650, q590, q650, γ630) ⟨hO590, hO650⟩) [3, 49] [[_], [_], [_], [_], _, _, _, _] [0, 1, 2, 3, 5, 4, 6, 7] rfl rfl
      refine any_cutX (V := (List Ob) × (Nat) × (Option Addr)) (fun ⟨Y590, cq590, q590⟩ => SlO 3 Y590 q590 n cq590 l) 5 #[true, true, true, true, true, true, true, true, true, true, false, false, false, false, false] (fun ⟨Y590, cq590, q590⟩ => [(38, .pointer (some ⟨gb, 0, none⟩)), (42, .slice q m capq), (43, .int .i64 (j : Nat)), (47, .agg #[.int .i64 (j + 1 : Nat), .slice q590 n cq590])]) (fun ⟨Y590, cq590, q590⟩ => bx (γ1 0) (#[.pointer (some ⟨gb, 0, none⟩)]) 56 :: bx gb (#[.slice q m capq]) 36 :: bx gm (#[.slice p n cap]) 27 :: bx gi (#[.int .i64 (j + 1 : Nat)]) 3 :: (Y590 ++ (Y ++ (Yi ++ (YR ++ []))))) ?_ (fun hmx39 => ?_)
      ·
       rintro ⟨Y590, cq590, q590⟩ hO590
       refine a1 10 rfl ?_
       refine mo0 1 [] [38, 42, 43] (fun γ630 => [(48, .slice (some ⟨γ630 0, 0, none⟩) 1 1)]) (fun γ630 L => bx (γ630 0) (#[.int .i64 (j + 1 : Nat), .slice q590 n cq590]) 62 :: L) (fun γ630 => ?_)
       refine od_ ?_
       exact wk (hmx41 (Y590, cq590, q590, γ630) hO590) [38, 42, 43, 48] [[_], [_], [_], [_], [_], _, _, _, _] [0, 1, 2, 3, 4, 5, 6, 7, 8] rfl rfl
      refine any_cutX (V := (List Ob) × (Nat) × (Option Addr) × (Nat → Nat)) (fun ⟨Y590, cq590, q590, γ630⟩ => SlO 3 Y590 q590 n cq590 l) 5 #[true, true, true, true, false, true, true, true, true, true, true, false, false, false, false] (fun ⟨Y590, cq590, q590, γ630⟩ => [(38, .pointer (some ⟨gb, 0, none⟩)), (41, .pointer (some ⟨gb, 0, none⟩)), (43, .int .i64 (j : Nat)), (48, .slice (some ⟨γ630 0, 0, none⟩) 1 1)]) (fun ⟨Y590, cq590, q590, γ630⟩ => bx (γ630 0) (#[.int .i64 (j + 1 : Nat), .slice q590 n cq590]) 62 :: bx (γ1 0) (#[.pointer (some ⟨gb, 0, none⟩)]) 56 :: bx gb (#[.slice q m capq]) 36 :: bx gm (#[.slice p n cap]) 27 :: bx gi (#[.int .i64 (j + 1 : Nat)]) 3 :: (Y590 ++ (Y ++ (Yi ++ (YR ++ []))))) ?_ (fun hmx38 => ?_)
      ·
       rintro ⟨Y590, cq590, q590, γ630⟩ hO590
       refine a1 4 rfl ?_
       refine qo0 1 [(4, .go (owns 2 0 1))] [38, 43, 48] [(42, .slice q m capq)] ?_
       refine od_ ?_
       exact wk (hmx41 (Y590, cq590, q590, γ630) hO590) [38, 42, 43, 48] [[_], [_], [_], [_], [_], _, _, _, _] [0, 1, 2, 3, 4, 5, 6, 7, 8] rfl rfl
      refine any_cutX (V := (List Ob) × (Nat) × (Option Addr)) (fun ⟨Y590, cq590, q590⟩ => SlO 3 Y590 q590 n cq590 l) 6 #[false, true, true, true, true, true, true, true, true, true, false, false, false, false, false] (fun ⟨Y590, cq590, q590⟩ => [(3, .pointer (some ⟨γ1 0, 0, none⟩)), (42, .slice q m capq), (43, .int .i64 (j : Nat)), (47, .agg #[.int .i64 (j + 1 : Nat), .slice q590 n cq590])]) (fun ⟨Y590, cq590, q590⟩ => bx (γ1 0) (#[.pointer (some ⟨gb, 0, none⟩)]) 56 :: bx gb (#[.slice q m capq]) 36 :: bx gm (#[.slice p n cap]) 27 :: bx gi (#[.int .i64 (j + 1 : Nat)]) 3 :: (Y590 ++ (Y ++ (Yi ++ (YR ++ []))))) ?_ (fun hmx37 => ?_)
      ·
       rintro ⟨Y590, cq590, q590⟩ hO590
       refine any_fork [0, 10] (by kernel_rfl) (by simp) (each_cons _ rfl ?_ (each_cons _ rfl ?_ (each_nil)))
       ·
        refine qo0 1 [(0, .go (owns 0 0 1))] [42, 43, 47] [(38, .pointer (some ⟨gb, 0, none⟩))] ?_
        refine od_ ?_
        exact wk (hmx39 (Y590, cq590, q590) hO590) [38, 42, 43, 47] [[_], [_], [_], [_], _, _, _, _] [0, 1, 2, 3, 4, 5, 6, 7] rfl rfl
       ·
        refine mo0 1 [] [3, 42, 43] (fun γ630 => [(48, .slice (some ⟨γ630 0, 0, none⟩) 1 1)]) (fun γ630 L => bx (γ630 0) (#[.int .i64 (j + 1 : Nat), .slice q590 n cq590]) 62 :: L) (fun γ630 => ?_)
        refine od_ ?_
        exact wk (hmx40 (Y590, cq590, q590, γ630) hO590) [3, 42, 43, 48] [[_], [_], [_], [_], [_], _, _, _, _] [0, 1, 2, 3, 4, 5, 6, 7, 8] rfl rfl
      refine any_cutX (V := (List Ob) × (Nat) × (Option Addr) × (Nat → Nat)) (fun ⟨Y590, cq590, q590, γ630⟩ => SlO 3 Y590 q590 n cq590 l) 6 #[false, true, true, true, false, true, true, true, true, true, true, false, false, false, false] (fun ⟨Y590, cq590, q590, γ630⟩ => [(3, .pointer (some ⟨γ1 0, 0, none⟩)), (41, .pointer (some ⟨gb, 0, none⟩)), (43, .int .i64 (j : Nat)), (48, .slice (some ⟨γ630 0, 0, none⟩) 1 1)]) (fun ⟨Y590, cq590, q590, γ630⟩ => bx (γ630 0) (#[.int .i64 (j + 1 : Nat), .slice q590 n cq590]) 62 :: bx (γ1 0) (#[.pointer (some ⟨gb, 0, none⟩)]) 56 :: bx gb (#[.slice q m capq]) 36 :: bx gm (#[.slice p n cap]) 27 :: bx gi (#[.int .i64 (j + 1 : Nat)]) 3 :: (Y590 ++ (Y ++ (Yi ++ (YR ++ []))))) ?_ (fun hmx36 => ?_)
      ·
       rintro ⟨Y590, cq590, q590, γ630⟩ hO590
       refine any_fork [0, 4] (by kernel_rfl) (by simp) (each_cons _ rfl ?_ (each_cons _ rfl ?_ (each_nil)))
       ·
        refine qo0 1 [(0, .go (owns 1 0 1))] [41, 43, 48] [(38, .pointer (some ⟨gb, 0, none⟩))] ?_
        refine od_ ?_
        exact wk (hmx38 (Y590, cq590, q590, γ630) hO590) [38, 41, 43, 48] [[_], [_], [_], [_], [_], _, _, _, _] [0, 1, 2, 3, 4, 5, 6, 7, 8] rfl rfl
       ·
        refine qo0 1 [(4, .go (owns 2 0 1))] [3, 43, 48] [(42, .slice q m capq)] ?_
        refine od_ ?_
        exact wk (hmx40 (Y590, cq590, q590, γ630) hO590) [3, 42, 43, 48] [[_], [_], [_], [_], [_], _, _, _, _] [0, 1, 2, 3, 4, 5, 6, 7, 8] rfl rfl
      refine any_cutX (V := (List Ob) × (Nat) × (Option Addr)) (fun ⟨Y590, cq590, q590⟩ => SlO 3 Y590 q590 n cq590 l) 6 #[true, true, true, true, false, true, true, true, true, true, false, false, false, false, false] (fun ⟨Y590, cq590, q590⟩ => [(38, .pointer (some ⟨gb, 0, none⟩)), (41, .pointer (some ⟨gb, 0, none⟩)), (43, .int .i64 (j : Nat)), (47, .agg #[.int .i64 (j + 1 : Nat), .slice q590 n cq590])]) (fun ⟨Y590, cq590, q590⟩ => bx (γ1 0) (#[.pointer (some ⟨gb, 0, none⟩)]) 56 :: bx gb (#[.slice q m capq]) 36 :: bx gm (#[.slice p n cap]) 27 :: bx gi (#[.int .i64 (j + 1 : Nat)]) 3 :: (Y590 ++ (Y ++ (Yi ++ (YR ++ []))))) ?_ (fun hmx35 => ?_)
      ·
       rintro ⟨Y590, cq590, q590⟩ hO590
       refine any_fork [4, 10] (by kernel_rfl) (by simp) (each_cons _ rfl ?_ (each_cons _ rfl ?_ (each_nil)))
       ·
        refine qo0 1 [(4, .go (owns 1 0 1))] [38, 43, 47] [(42, .slice q m capq)] ?_
        refine od_ ?_
        exact wk (hmx39 (Y590, cq590, q590) hO590) [38, 42, 43, 47] [[_], [_], [_], [_], _, _, _, _] [0, 1, 2, 3, 4, 5, 6, 7] rfl rfl
       ·
        refine mo0 1 [] [38, 41, 43] (fun γ630 => [(48, .slice (some ⟨γ630 0, 0, none⟩) 1 1)]) (fun γ630 L => bx (γ630 0) (#[.int .i64 (j + 1 : Nat), .slice q590 n cq590]) 62 :: L) (fun γ630 => ?_)
        refine od_ ?_
        exact wk (hmx38 (Y590, cq590, q590, γ630) hO590) [38, 41, 43, 48] [[_], [_], [_], [_], [_], _, _, _, _] [0, 1, 2, 3, 4, 5, 6, 7, 8] rfl rfl
      refine any_cutX (V := (List Ob) × (Nat) × (Option Addr)) (fun ⟨Y590, cq590, q590⟩ => SlO 3 Y590 q590 n cq590 l) 7 #[true, true, true, true, true, true, false, true, true, false, false, false, false, false, false] (fun ⟨Y590, cq590, q590⟩ => [(2, .pointer (some ⟨gi, 0, none⟩)), (38, .pointer (some ⟨gb, 0, none⟩)), (42, .slice q m capq), (43, .int .i64 (j : Nat)), (46, .slice q590 n cq590)]) (fun ⟨Y590, cq590, q590⟩ => bx (γ1 0) (#[.pointer (some ⟨gb, 0, none⟩)]) 56 :: bx gb (#[.slice q m capq]) 36 :: bx gm (#[.slice p n cap]) 27 :: bx gi (#[.int .i64 (j + 1 : Nat)]) 3 :: (Y590 ++ (Y ++ (Yi ++ (YR ++ []))))) ?_ (fun hmx34 => ?_)
      ·
       rintro ⟨Y590, cq590, q590⟩ hO590
       refine a1 6 rfl ?_
       refine qo0 1 [(6, .go (owns 3 0 1))] [38, 42, 43, 46] [(44, .int .i64 (j + 1 : Nat))] ?_
       refine od_ ?_
       refine tk (m := 5) [9] [] [38, 42, 43] [(47, .agg #[.int .i64 (j + 1 : Nat), .slice q590 n cq590])] ([]) #[true, true, true, true, true, true, true, true, true, true, false, false, false, false, false] al0 ?_
       exact wk (hmx39 (Y590, cq590, q590) hO590) [38, 42, 43, 47] [[_], [_], [_], [_], _, _, _, _] [0, 1, 2, 3, 4, 5, 6, 7] rfl rfl
      refine any_cutX (V := Unit) (fun _ => True) 7 #[true, true, true, true, true, true, true, true, false, false, false, false, false, false, false] (fun _ => [(38, .pointer (some ⟨gb, 0, none⟩)), (42, .slice q m capq), (43, .int .i64 (j : Nat)), (44, .int .i64 (j + 1 : Nat)), (45, .slice p n cap)]) (fun _ => bx (γ1 0) (#[.pointer (some ⟨gb, 0, none⟩)]) 56 :: bx gb (#[.slice q m capq]) 36 :: bx gm (#[.slice p n cap]) 27 :: bx gi (#[.int .i64 (j + 1 : Nat)]) 3 :: (Y ++ (Yi ++ (YR ++ [])))) ?_ (fun hmx33 => ?_)
      ·
       rintro _ _
       refine a1 8 rfl ?_
       refine cP (fun v L' => ∃ q_ c_ Y_, v = .slice q_ n c_ ∧ L' = List.take 4 (bx (γ1 0) (#[.pointer (some ⟨gb, 0, none⟩)]) 56 :: bx gb (#[.slice q m capq]) 36 :: bx gm (#[.slice p n cap]) 27 :: bx gi (#[.int .i64 (j + 1 : Nat)]) 3 :: (Y ++ (Yi ++ (YR ++ [])))) ++ (Y_ ++ List.drop 4 (bx (γ1 0) (#[.pointer (some ⟨gb, 0, none⟩)]) 56 :: bx gb (#[.slice q m capq]) 36 :: bx gm (#[.slice p n cap]) 27 :: bx gi (#[.int .i64 (j + 1 : Nat)]) 3 :: (Y ++ (Yi ++ (YR ++ []))))) ∧ SlO 3 Y_ q_ n c_ l) (fun args w => Tryd.call32 args w) (fun w hw => (cloneints_t p n cap l w (hsl.kept hw.below) hn (by omega)).mono fun e w' ⟨q_, c_, Y_, he, hO, hb, hY⟩ => ⟨_, _, he, ⟨q_, c_, Y_, rfl, rfl, hO⟩, hw.join hb hY 4⟩) ?_
       rintro v590 L590 ⟨q590, cq590, Y590, rfl, rfl, hO590⟩
       refine od_ ?_
       refine tk (m := 5) [9] [] [38, 42, 43] [(47, .agg #[.int .i64 (j + 1 : Nat), .slice q590 n cq590])] ([]) #[true, true, true, true, true, true, true, true, true, true, false, false, false, false, false] al0 ?_
       exact wk (hmx39 (Y590, cq590, q590) hO590) [38, 42, 43, 47] [[_], [_], [_], [_], _, _, _, _] [0, 1, 2, 3, 4, 5, 6, 7] rfl rfl
      refine any_cutX (V := (List Ob) × (Nat) × (Option Addr)) (fun ⟨Y590, cq590, q590⟩ => SlO 3 Y590 q590 n cq590 l) 7 #[false, true, true, true, false, true, true, true, true, true, false, false, false, false, false] (fun ⟨Y590, cq590, q590⟩ => [(3, .pointer (some ⟨γ1 0, 0, none⟩)), (41, .pointer (some ⟨gb, 0, none⟩)), (43, .int .i64 (j : Nat)), (47, .agg #[.int .i64 (j + 1 : Nat), .slice q590 n cq590])]) (fun ⟨Y590, cq590, q590⟩ => bx (γ1 0) (#[.pointer (some ⟨gb, 0, none⟩)]) 56 :: bx gb (#[.slice q m capq]) 36 :: bx gm (#[.slice p n cap]) 27 :: bx gi (#[.int .i64 (j + 1 : Nat)]) 3 :: (Y590 ++ (Y ++ (Yi ++ (YR ++ []))))) ?_ (fun hmx32 => ?_)
      ·
       rintro ⟨Y590, cq590, q590⟩ hO590
       refine any_fork [0, 4, 10] (by kernel_rfl) (by simp) (each_cons _ rfl ?_ (each_cons _ rfl ?_ (each_cons _ rfl ?_ (each_nil))))
       ·
        refine qo0 1 [(0, .go (owns 0 0 1))] [41, 43, 47] [(38, .pointer (some ⟨gb, 0, none⟩))] ?_
        refine od_ ?_
        exact wk (hmx35 (Y590, cq590, q590) hO590) [38, 41, 43, 47] [[_], [_], [_], [_], _, _, _, _] [0, 1, 2, 3, 4, 5, 6, 7] rfl rfl
       ·
        refine qo0 1 [(4, .go (owns 1 0 1))] [3, 43, 47] [(42, .slice q m capq)] ?_
        refine od_ ?_
        exact wk (hmx37 (Y590, cq590, q590) hO590) [3, 42, 43, 47] [[_], [_], [_], [_], _, _, _, _] [0, 1, 2, 3, 4, 5, 6, 7] rfl rfl
       ·
        refine mo0 1 [] [3, 41, 43] (fun γ630 => [(48, .slice (some ⟨γ630 0, 0, none⟩) 1 1)]) (fun γ630 L => bx (γ630 0) (#[.int .i64 (j + 1 : Nat), .slice q590 n cq590]) 62 :: L) (fun γ630 => ?_)
        refine od_ ?_
        exact wk (hmx36 (Y590, cq590, q590, γ630) hO590) [3, 41, 43, 48] [[_], [_], [_], [_], [_], _, _, _, _] [0, 1, 2, 3, 4, 5, 6, 7, 8] rfl rfl
      refine any_cutX (V := (List Ob) × (Nat) × (Option Addr) × (Nat → Nat)) (fun ⟨Y590, cq590, q590, γ630⟩ => SlO 3 Y590 q590 n cq590 l) 8 #[true, false, false, false, false, true, true, true, true, true, true, false, false, false, false] (fun ⟨Y590, cq590, q590, γ630⟩ => [(3, .pointer (some ⟨γ1 0, 0, none⟩)), (38, .pointer (some ⟨gb, 0, none⟩)), (43, .int .i64 (j : Nat)), (48, .slice (some ⟨γ630 0, 0, none⟩) 1 1)]) (fun ⟨Y590, cq590, q590, γ630⟩ => bx (γ630 0) (#[.int .i64 (j + 1 : Nat), .slice q590 n cq590]) 62 :: bx (γ1 0) (#[.pointer (some ⟨gb, 0, none⟩)]) 56 :: bx gb (#[.slice q m capq]) 36 :: bx gm (#[.slice p n cap]) 27 :: bx gi (#[.int .i64 (j + 1 : Nat)]) 3 :: (Y590 ++ (Y ++ (Yi ++ (YR ++ []))))) ?_ (fun hmx31 => ?_)
      ·
       rintro ⟨Y590, cq590, q590, γ630⟩ hO590
       refine a1 1 rfl ?_
       refine qo0 1 [(1, .go (owns 1 0 1))] [38, 43, 48] [(39, .pointer (some ⟨gb, 0, none⟩))] ?_
       refine od_ ?_
       refine tk (m := 5) [2, 3] [] [38, 43, 48] [(41, .pointer (some ⟨gb, 0, none⟩))] ([]) #[true, true, true, true, false, true, true, true, true, true, true, false, false, false, false] al0 ?_
       exact wk (hmx38 (Y590, cq590, q590, γ630) hO590) [38, 41, 43, 48] [[_], [_], [_], [_], [_], _, _, _, _] [0, 1, 2, 3, 4, 5, 6, 7, 8] rfl rfl
      refine any_cutX (V := (List Ob) × (Nat) × (Option Addr)) (fun ⟨Y590, cq590, q590⟩ => SlO 3 Y590 q590 n cq590 l) 8 #[false, true, true, true, true, true, false, true, true, false, false, false, false, false, false] (fun ⟨Y590, cq590, q590⟩ => [(2, .pointer (some ⟨gi, 0, none⟩)), (3, .pointer (some ⟨γ1 0, 0, none⟩)), (42, .slice q m capq), (43, .int .i64 (j : Nat)), (46, .slice q590 n cq590)]) (fun ⟨Y590, cq590, q590⟩ => bx (γ1 0) (#[.pointer (some ⟨gb, 0, none⟩)]) 56 :: bx gb (#[.slice q m capq]) 36 :: bx gm (#[.slice p n cap]) 27 :: bx gi (#[.int .i64 (j + 1 : Nat)]) 3 :: (Y590 ++ (Y ++ (Yi ++ (YR ++ []))))) ?_ (fun hmx30 => ?_)
      ·
       rintro ⟨Y590, cq590, q590⟩ hO590
       refine any_fork [0, 6] (by kernel_rfl) (by simp) (each_cons _ rfl ?_ (each_cons _ rfl ?_ (each_nil)))
       ·
        refine qo0 1 [(0, .go (owns 0 0 1))] [2, 42, 43, 46] [(38, .pointer (some ⟨gb, 0, none⟩))] ?_
        refine od_ ?_
        exact wk (hmx34 (Y590, cq590, q590) hO590) [2, 38, 42, 43, 46] [[_], [_], [_], [_], _, _, _, _] [0, 1, 2, 3, 4, 5, 6, 7] rfl rfl
       ·
        refine qo0 1 [(6, .go (owns 3 0 1))] [3, 42, 43, 46] [(44, .int .i64 (j + 1 : Nat))] ?_
        refine od_ ?_
        refine tk (m := 6) [9] [] [3, 42, 43] [(47, .agg #[.int .i64 (j + 1 : Nat), .slice q590 n cq590])] ([]) #[false, true, true, true, true, true, true, true, true, true, false, false, false, false, false] al0 ?_
        exact wk (hmx37 (Y590, cq590, q590) hO590) [3, 42, 43, 47] [[_], [_], [_], [_], _, _, _, _] [0, 1, 2, 3, 4, 5, 6, 7] rfl rfl
      refine any_cutX (V := Unit) (fun _ => True) 8 #[false, true, true, true, true, true, true, true, false, false, false, false, false, false, false] (fun _ => [(3, .pointer (some ⟨γ1 0, 0, none⟩)), (42, .slice q m capq), (43, .int .i64 (j : Nat)), (44, .int .i64 (j + 1 : Nat)), (45, .slice p n cap)]) (fun _ => bx (γ1 0) (#[.pointer (some ⟨gb, 0, none⟩)]) 56 :: bx gb (#[.slice q m capq]) 36 :: bx gm (#[.slice p n cap]) 27 :: bx gi (#[.int .i64 (j + 1 : Nat)]) 3 :: (Y ++ (Yi ++ (YR ++ [])))) ?_ (fun hmx29 => ?_)
      ·
       rintro _ _
       refine any_fork [0, 8] (by kernel_rfl) (by simp) (each_cons _ rfl ?_ (each_cons _ rfl ?_ (each_nil)))
       ·
        refine qo0 1 [(0, .go (owns 0 0 1))] [42, 43, 44, 45] [(38, .pointer (some ⟨gb, 0, none⟩))] ?_
        refine od_ ?_
        exact wk (hmx33 () trivial) [38, 42, 43, 44, 45] [[_], [_], [_], [_], _, _, _] [0, 1, 2, 3, 4, 5, 6] rfl rfl
       ·
        refine cP (fun v L' => ∃ q_ c_ Y_, v = .slice q_ n c_ ∧ L' = List.take 4 (bx (γ1 0) (#[.pointer (some ⟨gb, 0, none⟩)]) 56 :: bx gb (#[.slice q m capq]) 36 :: bx gm (#[.slice p n cap]) 27 :: bx gi (#[.int .i64 (j + 1 : Nat)]) 3 :: (Y ++ (Yi ++ (YR ++ [])))) ++ (Y_ ++ List.drop 4 (bx (γ1 0) (#[.pointer (some ⟨gb, 0, none⟩)]) 56 :: bx gb (#[.slice q m capq]) 36 :: bx gm (#[.slice p n cap]) 27 :: bx gi (#[.int .i64 (j + 1 : Nat)]) 3 :: (Y ++ (Yi ++ (YR ++ []))))) ∧ SlO 3 Y_ q_ n c_ l) (fun args w => Tryd.call32 args w) (fun w hw => (cloneints_t p n cap l w (hsl.kept hw.below) hn (by omega)).mono fun e w' ⟨q_, c_, Y_, he, hO, hb, hY⟩ => ⟨_, _, he, ⟨q_, c_, Y_, rfl, rfl, hO⟩, hw.join hb hY 4⟩) ?_
        rintro v590 L590 ⟨q590, cq590, Y590, rfl, rfl, hO590⟩
        refine od_ ?_
        refine tk (m := 6) [9] [] [3, 42, 43] [(47, .agg #[.int .i64 (j + 1 : Nat), .slice q590 n cq590])] ([]) #[false, true, true, true, true, true, true, true, true, true, false, false, false, false, false] al0 ?_
        exact wk (hmx37 (Y590, cq590, q590) hO590) [3, 42, 43, 47] [[_], [_], [_], [_], _, _, _, _] [0, 1, 2, 3, 4, 5, 6, 7] rfl rfl
      refine any_cutX (V := Unit) (fun _ => True) 8 #[true, true, true, true, true, true, false, true, false, false, false, false, false, false, false] (fun _ => [(2, .pointer (some ⟨gi, 0, none⟩)), (38, .pointer (some ⟨gb, 0, none⟩)), (42, .slice q m capq), (43, .int .i64 (j : Nat)), (45, .slice p n cap)]) (fun _ => bx (γ1 0) (#[.pointer (some ⟨gb, 0, none⟩)]) 56 :: bx gb (#[.slice q m capq]) 36 :: bx gm (#[.slice p n cap]) 27 :: bx gi (#[.int .i64 (j + 1 : Nat)]) 3 :: (Y ++ (Yi ++ (YR ++ [])))) ?_ (fun hmx28 => ?_)
      ·
       rintro _ _
       refine any_fork [6, 8] (by kernel_rfl) (by simp) (each_cons _ rfl ?_ (each_cons _ rfl ?_ (each_nil)))
       ·
        refine qo0 1 [(6, .go (owns 3 0 1))] [38, 42, 43, 45] [(44, .int .i64 (j + 1 : Nat))] ?_
        refine od_ ?_
        exact wk (hmx33 () trivial) [38, 42, 43, 44, 45] [[_], [_], [_], [_], _, _, _] [0, 1, 2, 3, 4, 5, 6] rfl rfl
       ·
        refine cP (fun v L' => ∃ q_ c_ Y_, v = .slice q_ n c_ ∧ L' = List.take 4 (bx (γ1 0) (#[.pointer (some ⟨gb, 0, none⟩)]) 56 :: bx gb (#[.slice q m capq]) 36 :: bx gm (#[.slice p n cap]) 27 :: bx gi (#[.int .i64 (j + 1 : Nat)]) 3 :: (Y ++ (Yi ++ (YR ++ [])))) ++ (Y_ ++ List.drop 4 (bx (γ1 0) (#[.pointer (some ⟨gb, 0, none⟩)]) 56 :: bx gb (#[.slice q m capq]) 36 :: bx gm (#[.slice p n cap]) 27 :: bx gi (#[.int .i64 (j + 1 : Nat)]) 3 :: (Y ++ (Yi ++ (YR ++ []))))) ∧ SlO 3 Y_ q_ n c_ l) (fun args w => Tryd.call32 args w) (fun w hw => (cloneints_t p n cap l w (hsl.kept hw.below) hn (by omega)).mono fun e w' ⟨q_, c_, Y_, he, hO, hb, hY⟩ => ⟨_, _, he, ⟨q_, c_, Y_, rfl, rfl, hO⟩, hw.join hb hY 4⟩) ?_
        rintro v590 L590 ⟨q590, cq590, Y590, rfl, rfl, hO590⟩
        refine od_ ?_
        exact wk (hmx34 (Y590, cq590, q590) hO590) [2, 38, 42, 43, 46] [[_], [_], [_], [_], _, _, _, _] [0, 1, 2, 3, 4, 5, 6, 7] rfl rfl
      refine any_cutX (V := Unit) (fun _ => True) 8 #[true, true, true, true, true, true, true, false, false, false, false, false, false, false, false] (fun _ => [(1, .pointer (some ⟨gm, 0, none⟩)), (38, .pointer (some ⟨gb, 0, none⟩)), (42, .slice q m capq), (43, .int .i64 (j : Nat)), (44, .int .i64 (j + 1 : Nat))]) (fun _ => bx (γ1 0) (#[.pointer (some ⟨gb, 0, none⟩)]) 56 :: bx gb (#[.slice q m capq]) 36 :: bx gm (#[.slice p n cap]) 27 :: bx gi (#[.int .i64 (j + 1 : Nat)]) 3 :: (Y ++ (Yi ++ (YR ++ [])))) ?_ (fun hmx27 => ?_)
      ·
       rintro _ _
       refine a1 7 rfl ?_
       refine qo0 1 [(7, .go (owns 2 0 1))] [38, 42, 43, 44] [(45, .slice p n cap)] ?_
       refine od_ ?_
       exact wk (hmx33 () trivial) [38, 42, 43, 44, 45] [[_], [_], [_], [_], _, _, _] [0, 1, 2, 3, 4, 5, 6] rfl rfl
      refine any_cutX (V := (List Ob) × (Nat) × (Option Addr)) (fun ⟨Y590, cq590, q590⟩ => SlO 3 Y590 q590 n cq590 l) 8 #[true, true, true, true, false, true, false, true, true, false, false, false, false, false, false] (fun ⟨Y590, cq590, q590⟩ => [(2, .pointer (some ⟨gi, 0, none⟩)), (38, .pointer (some ⟨gb, 0, none⟩)), (41, .pointer (some ⟨gb, 0, none⟩)), (43, .int .i64 (j : Nat)), (46, .slice q590 n cq590)]) (fun ⟨Y590, cq590, q590⟩ => bx (γ1 0) (#[.pointer (some ⟨gb, 0, none⟩)]) 56 :: bx gb (#[.slice q m capq]) 36 :: bx gm (#[.slice p n cap]) 27 :: bx gi (#[.int .i64 (j + 1 : Nat)]) 3 :: (Y590 ++ (Y ++ (Yi ++ (YR ++ []))))) ?_ (fun hmx26 => ?_)
      ·
       rintro ⟨Y590, cq590, q590⟩ hO590
       refine any_fork [4, 6] (by kernel_rfl) (by simp) (each_cons _ rfl ?_ (each_cons _ rfl ?_ (each_nil)))
       ·
        refine qo0 1 [(4, .go (owns 1 0 1))] [2, 38, 43, 46] [(42, .slice q m capq)] ?_
        refine od_ ?_
        exact wk (hmx34 (Y590, cq590, q590) hO590) [2, 38, 42, 43, 46] [[_], [_], [_], [_], _, _, _, _] [0, 1, 2, 3, 4, 5, 6, 7] rfl rfl
       ·
        refine qo0 1 [(6, .go (owns 3 0 1))] [38, 41, 43, 46] [(44, .int .i64 (j + 1 : Nat))] ?_
        refine od_ ?_
        refine tk (m := 6) [9] [] [38, 41, 43] [(47, .agg #[.int .i64 (j + 1 : Nat), .slice q590 n cq590])] ([]) #[true, true, true, true, false, true, true, true, true, true, false, false, false, false, false] al0 ?_
        exact wk (hmx35 (Y590, cq590, q590) hO590) [38, 41, 43, 47] [[_], [_], [_], [_], _, _, _, _] [0, 1, 2, 3, 4, 5, 6, 7] rfl rfl
      refine any_cutX (V := Unit) (fun _ => True) 8 #[true, true, true, true, false, true, true, true, false, false, false, false, false, false, false] (fun _ => [(38, .pointer (some ⟨gb, 0, none⟩)), (41, .pointer (some ⟨gb, 0, none⟩)), (43, .int .i64 (j : Nat)), (44, .int .i64 (j + 1 : Nat)), (45, .slice p n cap)]) (fun _ => bx (γ1 0) (#[.pointer (some ⟨gb, 0, none⟩)]) 56 :: bx gb (#[.slice q m capq]) 36 :: bx gm (#[.slice p n cap]) 27 :: bx gi (#[.int .i64 (j + 1 : Nat)]) 3 :: (Y ++ (Yi ++ (YR ++ [])))) ?_ (fun hmx25 => ?_)
      ·
       rintro _ _
       refine any_fork [4, 8] (by kernel_rfl) (by simp) (each_cons _ rfl ?_ (each_cons _ rfl ?_ (each_nil)))
       ·
        refine qo0 1 [(4, .go (owns 1 0 1))] [38, 43, 44, 45] [(42, .slice q m capq)] ?_
        refine od_ ?_
        exact wk (hmx33 () trivial) [38, 42, 43, 44, 45] [[_], [_], [_], [_], _, _, _] [0, 1, 2, 3, 4, 5, 6] rfl rfl
       ·
        refine cP (fun v L' => ∃ q_ c_ Y_, v = .slice q_ n c_ ∧ L' = List.take 4 (bx (γ1 0) (#[.pointer (some ⟨gb, 0, none⟩)]) 56 :: bx gb (#[.slice q m capq]) 36 :: bx gm (#[.slice p n cap]) 27 :: bx gi (#[.int .i64 (j + 1 : Nat)]) 3 :: (Y ++ (Yi ++ (YR ++ [])))) ++ (Y_ ++ List.drop 4 (bx (γ1 0) (#[.pointer (some ⟨gb, 0, none⟩)]) 56 :: bx gb (#[.slice q m capq]) 36 :: bx gm (#[.slice p n cap]) 27 :: bx gi (#[.int .i64 (j + 1 : Nat)]) 3 :: (Y ++ (Yi ++ (YR ++ []))))) ∧ SlO 3 Y_ q_ n c_ l) (fun args w => Tryd.call32 args w) (fun w hw => (cloneints_t p n cap l w (hsl.kept hw.below) hn (by omega)).mono fun e w' ⟨q_, c_, Y_, he, hO, hb, hY⟩ => ⟨_, _, he, ⟨q_, c_, Y_, rfl, rfl, hO⟩, hw.join hb hY 4⟩) ?_
        rintro v590 L590 ⟨q590, cq590, Y590, rfl, rfl, hO590⟩
        refine od_ ?_
        refine tk (m := 6) [9] [] [38, 41, 43] [(47, .agg #[.int .i64 (j + 1 : Nat), .slice q590 n cq590])] ([]) #[true, true, true, true, false, true, true, true, true, true, false, false, false, false, false] al0 ?_
        exact wk (hmx35 (Y590, cq590, q590) hO590) [38, 41, 43, 47] [[_], [_], [_], [_], _, _, _, _] [0, 1, 2, 3, 4, 5, 6, 7] rfl rfl
      refine any_cutX (V := (List Ob) × (Nat) × (Option Addr) × (Nat → Nat)) (fun ⟨Y590, cq590, q590, γ630⟩ => SlO 3 Y590 q590 n cq590 l) 9 #[false, false, false, false, false, true, true, true, true, true, true, false, false, false, false] (fun ⟨Y590, cq590, q590, γ630⟩ => [(3, .pointer (some ⟨γ1 0, 0, none⟩)), (43, .int .i64 (j : Nat)), (48, .slice (some ⟨γ630 0, 0, none⟩) 1 1)]) (fun ⟨Y590, cq590, q590, γ630⟩ => bx (γ630 0) (#[.int .i64 (j + 1 : Nat), .slice q590 n cq590]) 62 :: bx (γ1 0) (#[.pointer (some ⟨gb, 0, none⟩)]) 56 :: bx gb (#[.slice q m capq]) 36 :: bx gm (#[.slice p n cap]) 27 :: bx gi (#[.int .i64 (j + 1 : Nat)]) 3 :: (Y590 ++ (Y ++ (Yi ++ (YR ++ []))))) ?_ (fun hmx24 => ?_)
      ·
       rintro ⟨Y590, cq590, q590, γ630⟩ hO590
       refine any_fork [0, 1] (by kernel_rfl) (by simp) (each_cons _ rfl ?_ (each_cons _ rfl ?_ (each_nil)))
       ·
        refine qo0 1 [(0, .go (owns 1 0 1))] [3, 43, 48] [(38, .pointer (some ⟨gb, 0, none⟩))] ?_
        refine od_ ?_
        exact wk (hmx31 (Y590, cq590, q590, γ630) hO590) [3, 38, 43, 48] [[_], [_], [_], [_], [_], _, _, _, _] [0, 1, 2, 3, 4, 5, 6, 7, 8] rfl rfl
       ·
        refine qo0 1 [(1, .go (owns 1 0 1))] [3, 43, 48] [(39, .pointer (some ⟨gb, 0, none⟩))] ?_
        refine od_ ?_
        refine tk (m := 6) [2, 3] [] [3, 43, 48] [(41, .pointer (some ⟨gb, 0, none⟩))] ([]) #[false, true, true, true, false, true, true, true, true, true, true, false, false, false, false] al0 ?_
        exact wk (hmx36 (Y590, cq590, q590, γ630) hO590) [3, 41, 43, 48] [[_], [_], [_], [_], [_], _, _, _, _] [0, 1, 2, 3, 4, 5, 6, 7, 8] rfl rfl
      refine any_cutX (V := Unit) (fun _ => True) 9 #[false, true, true, true, true, true, false, true, false, false, false, false, false, false, false] (fun _ => [(2, .pointer (some ⟨gi, 0, none⟩)), (3, .pointer (some ⟨γ1 0, 0, none⟩)), (42, .slice q m capq), (43, .int .i64 (j : Nat)), (45, .slice p n cap)]) (fun _ => bx (γ1 0) (#[.pointer (some ⟨gb, 0, none⟩)]) 56 :: bx gb (#[.slice q m capq]) 36 :: bx gm (#[.slice p n cap]) 27 :: bx gi (#[.int .i64 (j + 1 : Nat)]) 3 :: (Y ++ (Yi ++ (YR ++ [])))) ?_ (fun hmx23 => ?_)
      ·
       rintro _ _
       refine any_fork [0, 6, 8] (by kernel_rfl) (by simp) (each_cons _ rfl ?_ (each_cons _ rfl ?_ (each_cons _ rfl ?_ (each_nil))))
       ·
        refine qo0 1 [(0, .go (owns 0 0 1))] [2, 42, 43, 45] [(38, .pointer (some ⟨gb, 0, none⟩))] ?_
        refine od_ ?_
        exact wk (hmx28 () trivial) [2, 38, 42, 43, 45] [[_], [_], [_], [_], _, _, _] [0, 1, 2, 3, 4, 5, 6] rfl rfl
       ·
        refine qo0 1 [(6, .go (owns 3 0 1))] [3, 42, 43, 45] [(44, .int .i64 (j + 1 : Nat))] ?_
        refine od_ ?_
        exact wk (hmx29 () trivial) [3, 42, 43, 44, 45] [[_], [_], [_], [_], _, _, _] [0, 1, 2, 3, 4, 5, 6] rfl rfl
       ·
        refine cP (fun v L' => ∃ q_ c_ Y_, v = .slice q_ n c_ ∧ L' = List.take 4 (bx (γ1 0) (#[.pointer (some ⟨gb, 0, none⟩)]) 56 :: bx gb (#[.slice q m capq]) 36 :: bx gm (#[.slice p n cap]) 27 :: bx gi (#[.int .i64 (j + 1 : Nat)]) 3 :: (Y ++ (Yi ++ (YR ++ [])))) ++ (Y_ ++ List.drop 4 (bx (γ1 0) (#[.pointer (some ⟨gb, 0, none⟩)]) 56 :: bx gb (#[.slice q m capq]) 36 :: bx gm (#[.slice p n cap]) 27 :: bx gi (#[.int .i64 (j + 1 : Nat)]) 3 :: (Y ++ (Yi ++ (YR ++ []))))) ∧ SlO 3 Y_ q_ n c_ l) (fun args w => Tryd.call32 args w) (fun w hw => (cloneints_t p n cap l w (hsl.kept hw.below) hn (by omega)).mono fun e w' ⟨q_, c_, Y_, he, hO, hb, hY⟩ => ⟨_, _, he, ⟨q_, c_, Y_, rfl, rfl, hO⟩, hw.join hb hY 4⟩) ?_
        rintro v590 L590 ⟨q590, cq590, Y590, rfl, rfl, hO590⟩
        refine od_ ?_
        exact wk (hmx30 (Y590, cq590, q590) hO590) [2, 3, 42, 43, 46] [[_], [_], [_], [_], _, _, _, _] [0, 1, 2, 3, 4, 5, 6, 7] rfl rfl
      refine any_cutX (V := Unit) (fun _ => True) 9 #[false, true, true, true, true, true, true, false, false, false, false, false, false, false, false] (fun _ => [(1, .pointer (some ⟨gm, 0, none⟩)), (3, .pointer (some ⟨γ1 0, 0, none⟩)), (42, .slice q m capq), (43, .int .i64 (j : Nat)), (44, .int .i64 (j + 1 : Nat))]) (fun _ => bx (γ1 0) (#[.pointer (some ⟨gb, 0, none⟩)]) 56 :: bx gb (#[.slice q m capq]) 36 :: bx gm (#[.slice p n cap]) 27 :: bx gi (#[.int .i64 (j + 1 : Nat)]) 3 :: (Y ++ (Yi ++ (YR ++ [])))) ?_ (fun hmx22 => ?_)
      ·
       rintro _ _
       refine any_fork [0, 7] (by kernel_rfl) (by simp) (each_cons _ rfl ?_ (each_cons _ rfl ?_ (each_nil)))
       ·
        refine qo0 1 [(0, .go (owns 0 0 1))] [1, 42, 43, 44] [(38, .pointer (some ⟨gb, 0, none⟩))] ?_
        refine od_ ?_
        exact wk (hmx27 () trivial) [1, 38, 42, 43, 44] [[_], [_], [_], [_], _, _, _] [0, 1, 2, 3, 4, 5, 6] rfl rfl
       ·
        refine qo0 1 [(7, .go (owns 2 0 1))] [3, 42, 43, 44] [(45, .slice p n cap)] ?_
        refine od_ ?_
        exact wk (hmx29 () trivial) [3, 42, 43, 44, 45] [[_], [_], [_], [_], _, _, _] [0, 1, 2, 3, 4, 5, 6] rfl rfl
      refine any_cutX (V := Unit) (fun _ => True) 9 #[true, true, true, true, true, true, false, false, false, false, false, false, false, false, false] (fun _ => [(1, .pointer (some ⟨gm, 0, none⟩)), (2, .pointer (some ⟨gi, 0, none⟩)), (38, .pointer (some ⟨gb, 0, none⟩)), (42, .slice q m capq), (43, .int .i64 (j : Nat))]) (fun _ => bx (γ1 0) (#[.pointer (some ⟨gb, 0, none⟩)]) 56 :: bx gb (#[.slice q m capq]) 36 :: bx gm (#[.slice p n cap]) 27 :: bx gi (#[.int .i64 (j + 1 : Nat)]) 3 :: (Y ++ (Yi ++ (YR ++ [])))) ?_ (fun hmx21 => ?_)
      ·
       rintro _ _
       refine any_fork [6, 7] (by kernel_rfl) (by simp) (each_cons _ rfl ?_ (each_cons _ rfl ?_ (each_nil)))
       ·
        refine qo0 1 [(6, .go (owns 3 0 1))] [1, 38, 42, 43] [(44, .int .i64 (j + 1 : Nat))] ?_
        refine od_ ?_
        exact wk (hmx27 () trivial) [1, 38, 42, 43, 44] [[_], [_], [_], [_], _, _, _] [0, 1, 2, 3, 4, 5, 6] rfl rfl
       ·
        refine qo0 1 [(7, .go (owns 2 0 1))] [2, 38, 42, 43] [(45, .slice p n cap)] ?_
        refine od_ ?_
        exact wk (hmx28 () trivial) [2, 38, 42, 43, 45] [[_], [_], [_], [_], _, _, _] [0, 1, 2, 3, 4, 5, 6] rfl rfl
      refine any_cutX (V := (List Ob) × (Nat) × (Option Addr)) (fun ⟨Y590, cq590, q590⟩ => SlO 3 Y590 q590 n cq590 l) 9 #[true, false, false, false, false, true, true, true, true, true, false, false, false, false, false] (fun ⟨Y590, cq590, q590⟩ => [(3, .pointer (some ⟨γ1 0, 0, none⟩)), (38, .pointer (some ⟨gb, 0, none⟩)), (43, .int .i64 (j : Nat)), (47, .agg #[.int .i64 (j + 1 : Nat), .slice q590 n cq590])]) (fun ⟨Y590, cq590, q590⟩ => bx (γ1 0) (#[.pointer (some ⟨gb, 0, none⟩)]) 56 :: bx gb (#[.slice q m capq]) 36 :: bx gm (#[.slice p n cap]) 27 :: bx gi (#[.int .i64 (j + 1 : Nat)]) 3 :: (Y590 ++ (Y ++ (Yi ++ (YR ++ []))))) ?_ (fun hmx20 => ?_)
      ·
       rintro ⟨Y590, cq590, q590⟩ hO590
       refine any_fork [1, 10] (by kernel_rfl) (by simp) (each_cons _ rfl ?_ (each_cons _ rfl ?_ (each_nil)))
       ·
        refine qo0 1 [(1, .go (owns 0 0 1))] [38, 43, 47] [(39, .pointer (some ⟨gb, 0, none⟩))] ?_
        refine od_ ?_
        refine tk (m := 6) [2, 3] [] [38, 43, 47] [(41, .pointer (some ⟨gb, 0, none⟩))] ([]) #[true, true, true, true, false, true, true, true, true, true, false, false, false, false, false] al0 ?_
        exact wk (hmx35 (Y590, cq590, q590) hO590) [38, 41, 43, 47] [[_], [_], [_], [_], _, _, _, _] [0, 1, 2, 3, 4, 5, 6, 7] rfl rfl
       ·
        refine mo0 1 [] [3, 38, 43] (fun γ630 => [(48, .slice (some ⟨γ630 0, 0, none⟩) 1 1)]) (fun γ630 L => bx (γ630 0) (#[.int .i64 (j + 1 : Nat), .slice q590 n cq590]) 62 :: L) (fun γ630 => ?_)
        refine od_ ?_
        exact wk (hmx31 (Y590, cq590, q590, γ630) hO590) [3, 38, 43, 48] [[_], [_], [_], [_], [_], _, _, _, _] [0, 1, 2, 3, 4, 5, 6, 7, 8] rfl rfl
      refine any_cutX (V := (List Ob) × (Nat) × (Option Addr)) (fun ⟨Y590, cq590, q590⟩ => SlO 3 Y590 q590 n cq590 l) 9 #[false, true, true, true, false, true, false, true, true, false, false, false, false, false, false] (fun ⟨Y590, cq590, q590⟩ => [(2, .pointer (some ⟨gi, 0, none⟩)), (3, .pointer (some ⟨γ1 0, 0, none⟩)), (41, .pointer (some ⟨gb, 0, none⟩)), (43, .int .i64 (j : Nat)), (46, .slice q590 n cq590)]) (fun ⟨Y590, cq590, q590⟩ => bx (γ1 0) (#[.pointer (some ⟨gb, 0, none⟩)]) 56 :: bx gb (#[.slice q m capq]) 36 :: bx gm (#[.slice p n cap]) 27 :: bx gi (#[.int .i64 (j + 1 : Nat)]) 3 :: (Y590 ++ (Y ++ (Yi ++ (YR ++ []))))) ?_ (fun hmx19 => ?_)
      ·
       rintro ⟨Y590, cq590, q590⟩ hO590
       refine any_fork [0, 4, 6] (by kernel_rfl) (by simp) (each_cons _ rfl ?_ (each_cons _ rfl ?_ (each_cons _ rfl ?_ (each_nil))))
       ·
        refine qo0 1 [(0, .go (owns 0 0 1))] [2, 41, 43, 46] [(38, .pointer (some ⟨gb, 0, none⟩))] ?_
        refine od_ ?_
        exact wk (hmx26 (Y590, cq590, q590) hO590) [2, 38, 41, 43, 46] [[_], [_], [_], [_], _, _, _, _] [0, 1, 2, 3, 4, 5, 6, 7] rfl rfl
       ·
        refine qo0 1 [(4, .go (owns 1 0 1))] [2, 3, 43, 46] [(42, .slice q m capq)] ?_
        refine od_ ?_
        exact wk (hmx30 (Y590, cq590, q590) hO590) [2, 3, 42, 43, 46] [[_], [_], [_], [_], _, _, _, _] [0, 1, 2, 3, 4, 5, 6, 7] rfl rfl
       ·
        refine qo0 1 [(6, .go (owns 3 0 1))] [3, 41, 43, 46] [(44, .int .i64 (j + 1 : Nat))] ?_
        refine od_ ?_
        refine tk (m := 7) [9] [] [3, 41, 43] [(47, .agg #[.int .i64 (j + 1 : Nat), .slice q590 n cq590])] ([]) #[false, true, true, true, false, true, true, true, true, true, false, false, false, false, false] al0 ?_
        exact wk (hmx32 (Y590, cq590, q590) hO590) [3, 41, 43, 47] [[_], [_], [_], [_], _, _, _, _] [0, 1, 2, 3, 4, 5, 6, 7] rfl rfl
      refine any_cutX (V := Unit) (fun _ => True) 9 #[false, true, true, true, false, true, true, true, false, false, false, false, false, false, false] (fun _ => [(3, .pointer (some ⟨γ1 0, 0, none⟩)), (41, .pointer (some ⟨gb, 0, none⟩)), (43, .int .i64 (j : Nat)), (44, .int .i64 (j + 1 : Nat)), (45, .slice p n cap)]) (fun _ => bx (γ1 0) (#[.pointer (some ⟨gb, 0, none⟩)]) 56 :: bx gb (#[.slice q m capq]) 36 :: bx gm (#[.slice p n cap]) 27 :: bx gi (#[.int .i64 (j + 1 : Nat)]) 3 :: (Y ++ (Yi ++ (YR ++ [])))) ?_ (fun hmx18 => ?_)
      ·
       rintro _ _
       refine any_fork [0, 4, 8] (by kernel_rfl) (by simp) (each_cons _ rfl ?_ (each_cons _ rfl ?_ (each_cons _ rfl ?_ (each_nil))))
       ·
        refine qo0 1 [(0, .go (owns 0 0 1))] [41, 43, 44, 45] [(38, .pointer (some ⟨gb, 0, none⟩))] ?_
        refine od_ ?_
        exact wk (hmx25 () trivial) [38, 41, 43, 44, 45] [[_], [_], [_], [_], _, _, _] [0, 1, 2, 3, 4, 5, 6] rfl rfl
       ·
        refine qo0 1 [(4, .go (owns 1 0 1))] [3, 43, 44, 45] [(42, .slice q m capq)] ?_
        refine od_ ?_
        exact wk (hmx29 () trivial) [3, 42, 43, 44, 45] [[_], [_], [_], [_], _, _, _] [0, 1, 2, 3, 4, 5, 6] rfl rfl
       ·
        refine cP (fun v L' => ∃ q_ c_ Y_, v = .slice q_ n c_ ∧ L' = List.take 4 (bx (γ1 0) (#[.pointer (some ⟨gb, 0, none⟩)]) 56 :: bx gb (#[.slice q m capq]) 36 :: bx gm (#[.slice p n cap]) 27 :: bx gi (#[.int .i64 (j + 1 : Nat)]) 3 :: (Y ++ (Yi ++ (YR ++ [])))) ++ (Y_ ++ List.drop 4 (bx (γ1 0) (#[.pointer (some ⟨gb, 0, none⟩)]) 56 :: bx gb (#[.slice q m capq]) 36 :: bx gm (#[.slice p n cap]) 27 :: bx gi (#[.int .i64 (j + 1 : Nat)]) 3 :: (Y ++ (Yi ++ (YR ++ []))))) ∧ SlO 3 Y_ q_ n c_ l) (fun args w => Tryd.call32 args w) (fun w hw => (cloneints_t p n cap l w (hsl.kept hw.below) hn (by omega)).mono fun e w' ⟨q_, c_, Y_, he, hO, hb, hY⟩ => ⟨_, _, he, ⟨q_, c_, Y_, rfl, rfl, hO⟩, hw.join hb hY 4⟩) ?_
        rintro v590 L590 ⟨q590, cq590, Y590, rfl, rfl, hO590⟩
        refine od_ ?_
        refine tk (m := 7) [9] [] [3, 41, 43] [(47, .agg #[.int .i64 (j + 1 : Nat), .slice q590 n cq590])] ([]) #[false, true, true, true, false, true, true, true, true, true, false, false, false, false, false] al0 ?_
        exact wk (hmx32 (Y590, cq590, q590) hO590) [3, 41, 43, 47] [[_], [_], [_], [_], _, _, _, _] [0, 1, 2, 3, 4, 5, 6, 7] rfl rfl
      refine any_cutX (V := Unit) (fun _ => True) 9 #[true, true, true, true, false, true, false, true, false, false, false, false, false, false, false] (fun _ => [(2, .pointer (some ⟨gi, 0, none⟩)), (38, .pointer (some ⟨gb, 0, none⟩)), (41, .pointer (some ⟨gb, 0, none⟩)), (43, .int .i64 (j : Nat)), (45, .slice p n cap)]) (fun _ => bx (γ1 0) (#[.pointer (some ⟨gb, 0, none⟩)]) 56 :: bx gb (#[.slice q m capq]) 36 :: bx gm (#[.slice p n cap]) 27 :: bx gi (#[.int .i64 (j + 1 : Nat)]) 3 :: (Y ++ (Yi ++ (YR ++ [])))) ?_ (fun hmx17 => ?_)
      ·
       rintro _ _
       refine any_fork [4, 6, 8] (by kernel_rfl) (by simp) (each_cons _ rfl ?_ (each_cons _ rfl ?_ (each_cons _ rfl ?_ (each_nil))))
       ·
        refine qo0 1 [(4, .go (owns 1 0 1))] [2, 38, 43, 45] [(42, .slice q m capq)] ?_
        refine od_ ?_
        exact wk (hmx28 () trivial) [2, 38, 42, 43, 45] [[_], [_], [_], [_], _, _, _] [0, 1, 2, 3, 4, 5, 6] rfl rfl
       ·
        refine qo0 1 [(6, .go (owns 3 0 1))] [38, 41, 43, 45] [(44, .int .i64 (j + 1 : Nat))] ?_
        refine od_ ?_
        exact wk (hmx25 () trivial) [38, 41, 43, 44, 45] [[_], [_], [_], [_], _, _, _] [0, 1, 2, 3, 4, 5, 6] rfl rfl
       ·
        refine cP (fun v L' => ∃ q_ c_ Y_, v = .slice q_ n c_ ∧ L' = List.take 4 (bx (γ1 0) (#[.pointer (some ⟨gb, 0, none⟩)]) 56 :: bx gb (#[.slice q m capq]) 36 :: bx gm (#[.slice p n cap]) 27 :: bx gi (#[.int .i64 (j + 1 : Nat)]) 3 :: (Y ++ (Yi ++ (YR ++ [])))) ++ (Y_ ++ List.drop 4 (bx (γ1 0) (#[.pointer (some ⟨gb, 0, none⟩)]) 56 :: bx gb (#[.slice q m capq]) 36 :: bx gm (#[.slice p n cap]) 27 :: bx gi (#[.int .i64 (j + 1 : Nat)]) 3 :: (Y ++ (Yi ++ (YR ++ []))))) ∧ SlO 3 Y_ q_ n c_ l) (fun args w => Tryd.call32 args w) (fun w hw => (cloneints_t p n cap l w (hsl.kept hw.below) hn (by omega)).mono fun e w' ⟨q_, c_, Y_, he, hO, hb, hY⟩ => ⟨_, _, he, ⟨q_, c_, Y_, rfl, rfl, hO⟩, hw.join hb hY 4⟩) ?_
        rintro v590 L590 ⟨q590, cq590, Y590, rfl, rfl, hO590⟩
        refine od_ ?_
        exact wk (hmx26 (Y590, cq590, q590) hO590) [2, 38, 41, 43, 46] [[_], [_], [_], [_], _, _, _, _] [0, 1, 2, 3, 4, 5, 6, 7] rfl rfl
      refine any_cutX (V := Unit) (fun _ => True) 9 #[true, true, true, true, false, true, true, false, false, false, false, false, false, false, false] (fun _ => [(1, .pointer (some ⟨gm, 0, none⟩)), (38, .pointer (some ⟨gb, 0, none⟩)), (41, .pointer (some ⟨gb, 0, none⟩)), (43, .int .i64 (j : Nat)), (44, .int .i64 (j + 1 : Nat))]) (fun _ => bx (γ1 0) (#[.pointer (some ⟨gb, 0, none⟩)]) 56 :: bx gb (#[.slice q m capq]) 36 :: bx gm (#[.slice p n cap]) 27 :: bx gi (#[.int .i64 (j + 1 : Nat)]) 3 :: (Y ++ (Yi ++ (YR ++ [])))) ?_ (fun hmx16 => ?_)
      ·
       rintro _ _
       refine any_fork [4, 7] (by kernel_rfl) (by simp) (each_cons _ rfl ?_ (each_cons _ rfl ?_ (each_nil)))
       ·
        refine qo0 1 [(4, .go (owns 1 0 1))] [1, 38, 43, 44] [(42, .slice q m capq)] ?_
        refine od_ ?_
        exact wk (hmx27 () trivial) [1, 38, 42, 43, 44] [[_], [_], [_], [_], _, _, _] [0, 1, 2, 3, 4, 5, 6] rfl rfl
       ·
        refine qo0 1 [(7, .go (owns 2 0 1))] [38, 41, 43, 44] [(45, .slice p n cap)] ?_
        refine od_ ?_
        exact wk (hmx25 () trivial) [38, 41, 43, 44, 45] [[_], [_], [_], [_], _, _, _] [0, 1, 2, 3, 4, 5, 6] rfl rfl
      refine any_cutX (V := Unit) (fun _ => True) 10 #[false, true, true, true, true, true, false, false, false, false, false, false, false, false, false] (fun _ => [(1, .pointer (some ⟨gm, 0, none⟩)), (2, .pointer (some ⟨gi, 0, none⟩)), (3, .pointer (some ⟨γ1 0, 0, none⟩)), (42, .slice q m capq), (43, .int .i64 (j : Nat))]) (fun _ => bx (γ1 0) (#[.pointer (some ⟨gb, 0, none⟩)]) 56 :: bx gb (#[.slice q m capq]) 36 :: bx gm (#[.slice p n cap]) 27 :: bx gi (#[.int .i64 (j + 1 : Nat)]) 3 :: (Y ++ (Yi ++ (YR ++ [])))) ?_ (fun hmx15 => ?_)
      ·
       rintro _ _
       refine any_fork [0, 6, 7] (by kernel_rfl) (by simp) (each_cons _ rfl ?_ (each_cons _ rfl ?_ (each_cons _ rfl ?_ (each_nil))))
       ·
        refine qo0 1 [(0, .go (owns 0 0 1))] [1, 2, 42, 43] [(38, .pointer (some ⟨gb, 0, none⟩))] ?_
        refine od_ ?_
        exact wk (hmx21 () trivial) [1, 2, 38, 42, 43] [[_], [_], [_], [_], _, _, _] [0, 1, 2, 3, 4, 5, 6] rfl rfl
       ·
        refine qo0 1 [(6, .go (owns 3 0 1))] [1, 3, 42, 43] [(44, .int .i64 (j + 1 : Nat))] ?_
        refine od_ ?_
        exact wk (hmx22 () trivial) [1, 3, 42, 43, 44] [[_], [_], [_], [_], _, _, _] [0, 1, 2, 3, 4, 5, 6] rfl rfl
       ·
        refine qo0 1 [(7, .go (owns 2 0 1))] [2, 3, 42, 43] [(45, .slice p n cap)] ?_
        refine od_ ?_
        exact wk (hmx23 () trivial) [2, 3, 42, 43, 45] [[_], [_], [_], [_], _, _, _] [0, 1, 2, 3, 4, 5, 6] rfl rfl
      refine any_cutX (V := (List Ob) × (Nat) × (Option Addr)) (fun ⟨Y590, cq590, q590⟩ => SlO 3 Y590 q590 n cq590 l) 10 #[false, false, false, false, false, true, true, true, true, true, false, false, false, false, false] (fun ⟨Y590, cq590, q590⟩ => [(3, .pointer (some ⟨γ1 0, 0, none⟩)), (43, .int .i64 (j : Nat)), (47, .agg #[.int .i64 (j + 1 : Nat), .slice q590 n cq590])]) (fun ⟨Y590, cq590, q590⟩ => bx (γ1 0) (#[.pointer (some ⟨gb, 0, none⟩)]) 56 :: bx gb (#[.slice q m capq]) 36 :: bx gm (#[.slice p n cap]) 27 :: bx gi (#[.int .i64 (j + 1 : Nat)]) 3 :: (Y590 ++ (Y ++ (Yi ++ (YR ++ []))))) ?_ (fun hmx14 => ?_)
      ·
       rintro ⟨Y590, cq590, q590⟩ hO590
       refine any_fork [0, 1, 10] (by kernel_rfl) (by simp) (each_cons _ rfl ?_ (each_cons _ rfl ?_ (each_cons _ rfl ?_ (each_nil))))
       ·
        refine qo0 1 [(0, .go (owns 0 0 1))] [3, 43, 47] [(38, .pointer (some ⟨gb, 0, none⟩))] ?_
        refine od_ ?_
        exact wk (hmx20 (Y590, cq590, q590) hO590) [3, 38, 43, 47] [[_], [_], [_], [_], _, _, _, _] [0, 1, 2, 3, 4, 5, 6, 7] rfl rfl
       ·
        refine qo0 1 [(1, .go (owns 0 0 1))] [3, 43, 47] [(39, .pointer (some ⟨gb, 0, none⟩))] ?_
        refine od_ ?_
        refine tk (m := 7) [2, 3] [] [3, 43, 47] [(41, .pointer (some ⟨gb, 0, none⟩))] ([]) #[false, true, true, true, false, true, true, true, true, true, false, false, false, false, false] al0 ?_
        exact wk (hmx32 (Y590, cq590, q590) hO590) [3, 41, 43, 47] [[_], [_], [_], [_], _, _, _, _] [0, 1, 2, 3, 4, 5, 6, 7] rfl rfl
       ·
        refine mo0 1 [] [3, 43] (fun γ630 => [(48, .slice (some ⟨γ630 0, 0, none⟩) 1 1)]) (fun γ630 L => bx (γ630 0) (#[.int .i64 (j + 1 : Nat), .slice q590 n cq590]) 62 :: L) (fun γ630 => ?_)
        refine od_ ?_
        exact wk (hmx24 (Y590, cq590, q590, γ630) hO590) [3, 43, 48] [[_], [_], [_], [_], [_], _, _, _, _] [0, 1, 2, 3, 4, 5, 6, 7, 8] rfl rfl
      refine any_cutX (V := Unit) (fun _ => True) 10 #[false, true, true, true, false, true, false, true, false, false, false, false, false, false, false] (fun _ => [(2, .pointer (some ⟨gi, 0, none⟩)), (3, .pointer (some ⟨γ1 0, 0, none⟩)), (41, .pointer (some ⟨gb, 0, none⟩)), (43, .int .i64 (j : Nat)), (45, .slice p n cap)]) (fun _ => bx (γ1 0) (#[.pointer (some ⟨gb, 0, none⟩)]) 56 :: bx gb (#[.slice q m capq]) 36 :: bx gm (#[.slice p n cap]) 27 :: bx gi (#[.int .i64 (j + 1 : Nat)]) 3 :: (Y ++ (Yi ++ (YR ++ [])))) ?_ (fun hmx13 => ?_)
      ·
       rintro _ _
       refine any_fork [0, 4, 6, 8] (by kernel_rfl) (by simp) (each_cons _ rfl ?_ (each_cons _ rfl ?_ (each_cons _ rfl ?_ (each_cons _ rfl ?_ (each_nil)))))
       ·
        refine qo0 1 [(0, .go (owns 0 0 1))] [2, 41, 43, 45] [(38, .pointer (some ⟨gb, 0, none⟩))] ?_
        refine od_ ?_
        exact wk (hmx17 () trivial) [2, 38, 41, 43, 45] [[_], [_], [_], [_], _, _, _] [0, 1, 2, 3, 4, 5, 6] rfl rfl
       ·
        refine qo0 1 [(4, .go (owns 1 0 1))] [2, 3, 43, 45] [(42, .slice q m capq)] ?_
        refine od_ ?_
        exact wk (hmx23 () trivial) [2, 3, 42, 43, 45] [[_], [_], [_], [_], _, _, _] [0, 1, 2, 3, 4, 5, 6] rfl rfl
       ·
        refine qo0 1 [(6, .go (owns 3 0 1))] [3, 41, 43, 45] [(44, .int .i64 (j + 1 : Nat))] ?_
        refine od_ ?_
        exact wk (hmx18 () trivial) [3, 41, 43, 44, 45] [[_], [_], [_], [_], _, _, _] [0, 1, 2, 3, 4, 5, 6] rfl rfl
       ·
        refine cP (fun v L' => ∃ q_ c_ Y_, v = .slice q_ n c_ ∧ L' = List.take 4 (bx (γ1 0) (#[.pointer (some ⟨gb, 0, none⟩)]) 56 :: bx gb (#[.slice q m capq]) 36 :: bx gm (#[.slice p n cap]) 27 :: bx gi (#[.int .i64 (j + 1 : Nat)]) 3 :: (Y ++ (Yi ++ (YR ++ [])))) ++ (Y_ ++ List.drop 4 (bx (γ1 0) (#[.pointer (some ⟨gb, 0, none⟩)]) 56 :: bx gb (#[.slice q m capq]) 36 :: bx gm (#[.slice p n cap]) 27 :: bx gi (#[.int .i64 (j + 1 : Nat)]) 3 :: (Y ++ (Yi ++ (YR ++ []))))) ∧ SlO 3 Y_ q_ n c_ l) (fun args w => Tryd.call32 args w) (fun w hw => (cloneints_t p n cap l w (hsl.kept hw.below) hn (by omega)).mono fun e w' ⟨q_, c_, Y_, he, hO, hb, hY⟩ => ⟨_, _, he, ⟨q_, c_, Y_, rfl, rfl, hO⟩, hw.join hb hY 4⟩) ?_
        rintro v590 L590 ⟨q590, cq590, Y590, rfl, rfl, hO590⟩
        refine od_ ?_
        exact wk (hmx19 (Y590, cq590, q590) hO590) [2, 3, 41, 43, 46] [[_], [_], [_], [_], _, _, _, _] [0, 1, 2, 3, 4, 5, 6, 7] rfl rfl
      refine any_cutX (V := Unit) (fun _ => True) 10 #[false, true, true, true, false, true, true, false, false, false, false, false, false, false, false] (fun _ => [(1, .pointer (some ⟨gm, 0, none⟩)), (3, .pointer (some ⟨γ1 0, 0, none⟩)), (41, .pointer (some ⟨gb, 0, none⟩)), (43, .int .i64 (j : Nat)), (44, .int .i64 (j + 1 : Nat))]) (fun _ => bx (γ1 0) (#[.pointer (some ⟨gb, 0, none⟩)]) 56 :: bx gb (#[.slice q m capq]) 36 :: bx gm (#[.slice p n cap]) 27 :: bx gi (#[.int .i64 (j + 1 : Nat)]) 3 :: (Y ++ (Yi ++ (YR ++ [])))) ?_ (fun hmx12 => ?_)
      ·
       rintro _ _
       refine any_fork [0, 4, 7] (by kernel_rfl) (by simp) (each_cons _ rfl ?_ (each_cons _ rfl ?_ (each_cons _ rfl ?_ (each_nil))))
       ·
        refine qo0 1 [(0, .go (owns 0 0 1))] [1, 41, 43, 44] [(38, .pointer (some ⟨gb, 0, none⟩))] ?_
        refine od_ ?_
        exact wk (hmx16 () trivial) [1, 38, 41, 43, 44] [[_], [_], [_], [_], _, _, _] [0, 1, 2, 3, 4, 5, 6] rfl rfl
       ·
        refine qo0 1 [(4, .go (owns 1 0 1))] [1, 3, 43, 44] [(42, .slice q m capq)] ?_
        refine od_ ?_
        exact wk (hmx22 () trivial) [1, 3, 42, 43, 44] [[_], [_], [_], [_], _, _, _] [0, 1, 2, 3, 4, 5, 6] rfl rfl
       ·
        refine qo0 1 [(7, .go (owns 2 0 1))] [3, 41, 43, 44] [(45, .slice p n cap)] ?_
        refine od_ ?_
        exact wk (hmx18 () trivial) [3, 41, 43, 44, 45] [[_], [_], [_], [_], _, _, _] [0, 1, 2, 3, 4, 5, 6] rfl rfl
      refine any_cutX (V := Unit) (fun _ => True) 10 #[true, true, true, true, false, true, false, false, false, false, false, false, false, false, false] (fun _ => [(1, .pointer (some ⟨gm, 0, none⟩)), (2, .pointer (some ⟨gi, 0, none⟩)), (38, .pointer (some ⟨gb, 0, none⟩)), (41, .pointer (some ⟨gb, 0, none⟩)), (43, .int .i64 (j : Nat))]) (fun _ => bx (γ1 0) (#[.pointer (some ⟨gb, 0, none⟩)]) 56 :: bx gb (#[.slice q m capq]) 36 :: bx gm (#[.slice p n cap]) 27 :: bx gi (#[.int .i64 (j + 1 : Nat)]) 3 :: (Y ++ (Yi ++ (YR ++ [])))) ?_ (fun hmx11 => ?_)
      ·
       rintro _ _
       refine any_fork [4, 6, 7] (by kernel_rfl) (by simp) (each_cons _ rfl ?_ (each_cons _ rfl ?_ (each_cons _ rfl ?_ (each_nil))))
       ·
        refine qo0 1 [(4, .go (owns 1 0 1))] [1, 2, 38, 43] [(42, .slice q m capq)] ?_
        refine od_ ?_
        exact wk (hmx21 () trivial) [1, 2, 38, 42, 43] [[_], [_], [_], [_], _, _, _] [0, 1, 2, 3, 4, 5, 6] rfl rfl
       ·
        refine qo0 1 [(6, .go (owns 3 0 1))] [1, 38, 41, 43] [(44, .int .i64 (j + 1 : Nat))] ?_
        refine od_ ?_
        exact wk (hmx16 () trivial) [1, 38, 41, 43, 44] [[_], [_], [_], [_], _, _, _] [0, 1, 2, 3, 4, 5, 6] rfl rfl
       ·
        refine qo0 1 [(7, .go (owns 2 0 1))] [2, 38, 41, 43] [(45, .slice p n cap)] ?_
        refine od_ ?_
        exact wk (hmx17 () trivial) [2, 38, 41, 43, 45] [[_], [_], [_], [_], _, _, _] [0, 1, 2, 3, 4, 5, 6] rfl rfl
      refine any_cutX (V := (List Ob) × (Nat) × (Option Addr)) (fun ⟨Y590, cq590, q590⟩ => SlO 3 Y590 q590 n cq590 l) 11 #[true, false, false, false, false, true, false, true, true, false, false, false, false, false, false] (fun ⟨Y590, cq590, q590⟩ => [(2, .pointer (some ⟨gi, 0, none⟩)), (3, .pointer (some ⟨γ1 0, 0, none⟩)), (38, .pointer (some ⟨gb, 0, none⟩)), (43, .int .i64 (j : Nat)), (46, .slice q590 n cq590)]) (fun ⟨Y590, cq590, q590⟩ => bx (γ1 0) (#[.pointer (some ⟨gb, 0, none⟩)]) 56 :: bx gb (#[.slice q m capq]) 36 :: bx gm (#[.slice p n cap]) 27 :: bx gi (#[.int .i64 (j + 1 : Nat)]) 3 :: (Y590 ++ (Y ++ (Yi ++ (YR ++ []))))) ?_ (fun hmx10 => ?_)
      ·
       rintro ⟨Y590, cq590, q590⟩ hO590
       refine any_fork [1, 6] (by kernel_rfl) (by simp) (each_cons _ rfl ?_ (each_cons _ rfl ?_ (each_nil)))
       ·
        refine qo0 1 [(1, .go (owns 0 0 1))] [2, 38, 43, 46] [(39, .pointer (some ⟨gb, 0, none⟩))] ?_
        refine od_ ?_
        refine tk (m := 8) [2, 3] [] [2, 38, 43, 46] [(41, .pointer (some ⟨gb, 0, none⟩))] ([]) #[true, true, true, true, false, true, false, true, true, false, false, false, false, false, false] al0 ?_
        exact wk (hmx26 (Y590, cq590, q590) hO590) [2, 38, 41, 43, 46] [[_], [_], [_], [_], _, _, _, _] [0, 1, 2, 3, 4, 5, 6, 7] rfl rfl
       ·
        refine qo0 1 [(6, .go (owns 3 0 1))] [3, 38, 43, 46] [(44, .int .i64 (j + 1 : Nat))] ?_
        refine od_ ?_
        refine tk (m := 9) [9] [] [3, 38, 43] [(47, .agg #[.int .i64 (j + 1 : Nat), .slice q590 n cq590])] ([]) #[true, false, false, false, false, true, true, true, true, true, false, false, false, false, false] al0 ?_
        exact wk (hmx20 (Y590, cq590, q590) hO590) [3, 38, 43, 47] [[_], [_], [_], [_], _, _, _, _] [0, 1, 2, 3, 4, 5, 6, 7] rfl rfl
      refine any_cutX (V := Unit) (fun _ => True) 11 #[true, false, false, false, false, true, true, true, false, false, false, false, false, false, false] (fun _ => [(3, .pointer (some ⟨γ1 0, 0, none⟩)), (38, .pointer (some ⟨gb, 0, none⟩)), (43, .int .i64 (j : Nat)), (44, .int .i64 (j + 1 : Nat)), (45, .slice p n cap)]) (fun _ => bx (γ1 0) (#[.pointer (some ⟨gb, 0, none⟩)]) 56 :: bx gb (#[.slice q m capq]) 36 :: bx gm (#[.slice p n cap]) 27 :: bx gi (#[.int .i64 (j + 1 : Nat)]) 3 :: (Y ++ (Yi ++ (YR ++ [])))) ?_ (fun hmx9 => ?_)
      ·
       rintro _ _
       refine any_fork [1, 8] (by kernel_rfl) (by simp) (each_cons _ rfl ?_ (each_cons _ rfl ?_ (each_nil)))
       ·
        refine qo0 1 [(1, .go (owns 0 0 1))] [38, 43, 44, 45] [(39, .pointer (some ⟨gb, 0, none⟩))] ?_
        refine od_ ?_
        refine tk (m := 8) [2, 3] [] [38, 43, 44, 45] [(41, .pointer (some ⟨gb, 0, none⟩))] ([]) #[true, true, true, true, false, true, true, true, false, false, false, false, false, false, false] al0 ?_
        exact wk (hmx25 () trivial) [38, 41, 43, 44, 45] [[_], [_], [_], [_], _, _, _] [0, 1, 2, 3, 4, 5, 6] rfl rfl
       ·
        refine cP (fun v L' => ∃ q_ c_ Y_, v = .slice q_ n c_ ∧ L' = List.take 4 (bx (γ1 0) (#[.pointer (some ⟨gb, 0, none⟩)]) 56 :: bx gb (#[.slice q m capq]) 36 :: bx gm (#[.slice p n cap]) 27 :: bx gi (#[.int .i64 (j + 1 : Nat)]) 3 :: (Y ++ (Yi ++ (YR ++ [])))) ++ (Y_ ++ List.drop 4 (bx (γ1 0) (#[.pointer (some ⟨gb, 0, none⟩)]) 56 :: bx gb (#[.slice q m capq]) 36 :: bx gm (#[.slice p n cap]) 27 :: bx gi (#[.int .i64 (j + 1 : Nat)]) 3 :: (Y ++ (Yi ++ (YR ++ []))))) ∧ SlO 3 Y_ q_ n c_ l) (fun args w => Tryd.call32 args w) (fun w hw => (cloneints_t p n cap l w (hsl.kept hw.below) hn (by omega)).mono fun e w' ⟨q_, c_, Y_, he, hO, hb, hY⟩ => ⟨_, _, he, ⟨q_, c_, Y_, rfl, rfl, hO⟩, hw.join hb hY 4⟩) ?_
        rintro v590 L590 ⟨q590, cq590, Y590, rfl, rfl, hO590⟩
        refine od_ ?_
        refine tk (m := 9) [9] [] [3, 38, 43] [(47, .agg #[.int .i64 (j + 1 : Nat), .slice q590 n cq590])] ([]) #[true, false, false, false, false, true, true, true, true, true, false, false, false, false, false] al0 ?_
        exact wk (hmx20 (Y590, cq590, q590) hO590) [3, 38, 43, 47] [[_], [_], [_], [_], _, _, _, _] [0, 1, 2, 3, 4, 5, 6, 7] rfl rfl
      refine any_cutX (V := Unit) (fun _ => True) 11 #[false, true, true, true, false, true, false, false, false, false, false, false, false, false, false] (fun _ => [(1, .pointer (some ⟨gm, 0, none⟩)), (2, .pointer (some ⟨gi, 0, none⟩)), (3, .pointer (some ⟨γ1 0, 0, none⟩)), (41, .pointer (some ⟨gb, 0, none⟩)), (43, .int .i64 (j : Nat))]) (fun _ => bx (γ1 0) (#[.pointer (some ⟨gb, 0, none⟩)]) 56 :: bx gb (#[.slice q m capq]) 36 :: bx gm (#[.slice p n cap]) 27 :: bx gi (#[.int .i64 (j + 1 : Nat)]) 3 :: (Y ++ (Yi ++ (YR ++ [])))) ?_ (fun hmx8 => ?_)
      ·
       rintro _ _
       refine any_fork [0, 4, 6, 7] (by kernel_rfl) (by simp) (each_cons _ rfl ?_ (each_cons _ rfl ?_ (each_cons _ rfl ?_ (each_cons _ rfl ?_ (each_nil)))))
       ·
        refine qo0 1 [(0, .go (owns 0 0 1))] [1, 2, 41, 43] [(38, .pointer (some ⟨gb, 0, none⟩))] ?_
        refine od_ ?_
        exact wk (hmx11 () trivial) [1, 2, 38, 41, 43] [[_], [_], [_], [_], _, _, _] [0, 1, 2, 3, 4, 5, 6] rfl rfl
       ·
        refine qo0 1 [(4, .go (owns 1 0 1))] [1, 2, 3, 43] [(42, .slice q m capq)] ?_
        refine od_ ?_
        exact wk (hmx15 () trivial) [1, 2, 3, 42, 43] [[_], [_], [_], [_], _, _, _] [0, 1, 2, 3, 4, 5, 6] rfl rfl
       ·
        refine qo0 1 [(6, .go (owns 3 0 1))] [1, 3, 41, 43] [(44, .int .i64 (j + 1 : Nat))] ?_
        refine od_ ?_
        exact wk (hmx12 () trivial) [1, 3, 41, 43, 44] [[_], [_], [_], [_], _, _, _] [0, 1, 2, 3, 4, 5, 6] rfl rfl
       ·
        refine qo0 1 [(7, .go (owns 2 0 1))] [2, 3, 41, 43] [(45, .slice p n cap)] ?_
        refine od_ ?_
        exact wk (hmx13 () trivial) [2, 3, 41, 43, 45] [[_], [_], [_], [_], _, _, _] [0, 1, 2, 3, 4, 5, 6] rfl rfl
      refine any_cutX (V := (List Ob) × (Nat) × (Option Addr)) (fun ⟨Y590, cq590, q590⟩ => SlO 3 Y590 q590 n cq590 l) 12 #[false, false, false, false, false, true, false, true, true, false, false, false, false, false, false] (fun ⟨Y590, cq590, q590⟩ => [(2, .pointer (some ⟨gi, 0, none⟩)), (3, .pointer (some ⟨γ1 0, 0, none⟩)), (43, .int .i64 (j : Nat)), (46, .slice q590 n cq590)]) (fun ⟨Y590, cq590, q590⟩ => bx (γ1 0) (#[.pointer (some ⟨gb, 0, none⟩)]) 56 :: bx gb (#[.slice q m capq]) 36 :: bx gm (#[.slice p n cap]) 27 :: bx gi (#[.int .i64 (j + 1 : Nat)]) 3 :: (Y590 ++ (Y ++ (Yi ++ (YR ++ []))))) ?_ (fun hmx7 => ?_)
      ·
       rintro ⟨Y590, cq590, q590⟩ hO590
       refine any_fork [0, 1, 6] (by kernel_rfl) (by simp) (each_cons _ rfl ?_ (each_cons _ rfl ?_ (each_cons _ rfl ?_ (each_nil))))
       ·
        refine qo0 1 [(0, .go (owns 0 0 1))] [2, 3, 43, 46] [(38, .pointer (some ⟨gb, 0, none⟩))] ?_
        refine od_ ?_
        exact wk (hmx10 (Y590, cq590, q590) hO590) [2, 3, 38, 43, 46] [[_], [_], [_], [_], _, _, _, _] [0, 1, 2, 3, 4, 5, 6, 7] rfl rfl
       ·
        refine qo0 1 [(1, .go (owns 0 0 1))] [2, 3, 43, 46] [(39, .pointer (some ⟨gb, 0, none⟩))] ?_
        refine od_ ?_
        refine tk (m := 9) [2, 3] [] [2, 3, 43, 46] [(41, .pointer (some ⟨gb, 0, none⟩))] ([]) #[false, true, true, true, false, true, false, true, true, false, false, false, false, false, false] al0 ?_
        exact wk (hmx19 (Y590, cq590, q590) hO590) [2, 3, 41, 43, 46] [[_], [_], [_], [_], _, _, _, _] [0, 1, 2, 3, 4, 5, 6, 7] rfl rfl
       ·
        refine qo0 1 [(6, .go (owns 3 0 1))] [3, 43, 46] [(44, .int .i64 (j + 1 : Nat))] ?_
        refine od_ ?_
        refine tk (m := 10) [9] [] [3, 43] [(47, .agg #[.int .i64 (j + 1 : Nat), .slice q590 n cq590])] ([]) #[false, false, false, false, false, true, true, true, true, true, false, false, false, false, false] al0 ?_
        exact wk (hmx14 (Y590, cq590, q590) hO590) [3, 43, 47] [[_], [_], [_], [_], _, _, _, _] [0, 1, 2, 3, 4, 5, 6, 7] rfl rfl
      refine any_cutX (V := Unit) (fun _ => True) 12 #[false, false, false, false, false, true, true, true, false, false, false, false, false, false, false] (fun _ => [(3, .pointer (some ⟨γ1 0, 0, none⟩)), (43, .int .i64 (j : Nat)), (44, .int .i64 (j + 1 : Nat)), (45, .slice p n cap)]) (fun _ => bx (γ1 0) (#[.pointer (some ⟨gb, 0, none⟩)]) 56 :: bx gb (#[.slice q m capq]) 36 :: bx gm (#[.slice p n cap]) 27 :: bx gi (#[.int .i64 (j + 1 : Nat)]) 3 :: (Y ++ (Yi ++ (YR ++ [])))) ?_ (fun hmx6 => ?_)
      ·
       rintro _ _
       refine any_fork [0, 1, 8] (by kernel_rfl) (by simp) (each_cons _ rfl ?_ (each_cons _ rfl ?_ (each_cons _ rfl ?_ (each_nil))))
       ·
        refine qo0 1 [(0, .go (owns 0 0 1))] [3, 43, 44, 45] [(38, .pointer (some ⟨gb, 0, none⟩))] ?_
        refine od_ ?_
        exact wk (hmx9 () trivial) [3, 38, 43, 44, 45] [[_], [_], [_], [_], _, _, _] [0, 1, 2, 3, 4, 5, 6] rfl rfl
       ·
        refine qo0 1 [(1, .go (owns 0 0 1))] [3, 43, 44, 45] [(39, .pointer (some ⟨gb, 0, none⟩))] ?_
        refine od_ ?_
        refine tk (m := 9) [2, 3] [] [3, 43, 44, 45] [(41, .pointer (some ⟨gb, 0, none⟩))] ([]) #[false, true, true, true, false, true, true, true, false, false, false, false, false, false, false] al0 ?_
        exact wk (hmx18 () trivial) [3, 41, 43, 44, 45] [[_], [_], [_], [_], _, _, _] [0, 1, 2, 3, 4, 5, 6] rfl rfl
       ·
        refine cP (fun v L' => ∃ q_ c_ Y_, v = .slice q_ n c_ ∧ L' = List.take 4 (bx (γ1 0) (#[.pointer (some ⟨gb, 0, none⟩)]) 56 :: bx gb (#[.slice q m capq]) 36 :: bx gm (#[.slice p n cap]) 27 :: bx gi (#[.int .i64 (j + 1 : Nat)]) 3 :: (Y ++ (Yi ++ (YR ++ [])))) ++ (Y_ ++ List.drop 4 (bx (γ1 0) (#[.pointer (some ⟨gb, 0, none⟩)]) 56 :: bx gb (#[.slice q m capq]) 36 :: bx gm (#[.slice p n cap]) 27 :: bx gi (#[.int .i64 (j + 1 : Nat)]) 3 :: (Y ++ (Yi ++ (YR ++ []))))) ∧ SlO 3 Y_ q_ n c_ l) (fun args w => Tryd.call32 args w) (fun w hw => (cloneints_t p n cap l w (hsl.kept hw.below) hn (by omega)).mono fun e w' ⟨q_, c_, Y_, he, hO, hb, hY⟩ => ⟨_, _, he, ⟨q_, c_, Y_, rfl, rfl, hO⟩, hw.join hb hY 4⟩) ?_
        rintro v590 L590 ⟨q590, cq590, Y590, rfl, rfl, hO590⟩
        refine od_ ?_
        refine tk (m := 10) [9] [] [3, 43] [(47, .agg #[.int .i64 (j + 1 : Nat), .slice q590 n cq590])] ([]) #[false, false, false, false, false, true, true, true, true, true, false, false, false, false, false] al0 ?_
        exact wk (hmx14 (Y590, cq590, q590) hO590) [3, 43, 47] [[_], [_], [_], [_], _, _, _, _] [0, 1, 2, 3, 4, 5, 6, 7] rfl rfl
      refine any_cutX (V := Unit) (fun _ => True) 12 #[true, false, false, false, false, true, false, true, false, false, false, false, false, false, false] (fun _ => [(2, .pointer (some ⟨gi, 0, none⟩)), (3, .pointer (some ⟨γ1 0, 0, none⟩)), (38, .pointer (some ⟨gb, 0, none⟩)), (43, .int .i64 (j : Nat)), (45, .slice p n cap)]) (fun _ => bx (γ1 0) (#[.pointer (some ⟨gb, 0, none⟩)]) 56 :: bx gb (#[.slice q m capq]) 36 :: bx gm (#[.slice p n cap]) 27 :: bx gi (#[.int .i64 (j + 1 : Nat)]) 3 :: (Y ++ (Yi ++ (YR ++ [])))) ?_ (fun hmx5 => ?_)
      ·
       rintro _ _
       refine any_fork [1, 6, 8] (by kernel_rfl) (by simp) (each_cons _ rfl ?_ (each_cons _ rfl ?_ (each_cons _ rfl ?_ (each_nil))))
       ·
        refine qo0 1 [(1, .go (owns 0 0 1))] [2, 38, 43, 45] [(39, .pointer (some ⟨gb, 0, none⟩))] ?_
        refine od_ ?_
        refine tk (m := 9) [2, 3] [] [2, 38, 43, 45] [(41, .pointer (some ⟨gb, 0, none⟩))] ([]) #[true, true, true, true, false, true, false, true, false, false, false, false, false, false, false] al0 ?_
        exact wk (hmx17 () trivial) [2, 38, 41, 43, 45] [[_], [_], [_], [_], _, _, _] [0, 1, 2, 3, 4, 5, 6] rfl rfl
       ·
        refine qo0 1 [(6, .go (owns 3 0 1))] [3, 38, 43, 45] [(44, .int .i64 (j + 1 : Nat))] ?_
        refine od_ ?_
        exact wk (hmx9 () trivial) [3, 38, 43, 44, 45] [[_], [_], [_], [_], _, _, _] [0, 1, 2, 3, 4, 5, 6] rfl rfl
       ·
        refine cP (fun v L' => ∃ q_ c_ Y_, v = .slice q_ n c_ ∧ L' = List.take 4 (bx (γ1 0) (#[.pointer (some ⟨gb, 0, none⟩)]) 56 :: bx gb (#[.slice q m capq]) 36 :: bx gm (#[.slice p n cap]) 27 :: bx gi (#[.int .i64 (j + 1 : Nat)]) 3 :: (Y ++ (Yi ++ (YR ++ [])))) ++ (Y_ ++ List.drop 4 (bx (γ1 0) (#[.pointer (some ⟨gb, 0, none⟩)]) 56 :: bx gb (#[.slice q m capq]) 36 :: bx gm (#[.slice p n cap]) 27 :: bx gi (#[.int .i64 (j + 1 : Nat)]) 3 :: (Y ++ (Yi ++ (YR ++ []))))) ∧ SlO 3 Y_ q_ n c_ l) (fun args w => Tryd.call32 args w) (fun w hw => (cloneints_t p n cap l w (hsl.kept hw.below) hn (by omega)).mono fun e w' ⟨q_, c_, Y_, he, hO, hb, hY⟩ => ⟨_, _, he, ⟨q_, c_, Y_, rfl, rfl, hO⟩, hw.join hb hY 4⟩) ?_
        rintro v590 L590 ⟨q590, cq590, Y590, rfl, rfl, hO590⟩
        refine od_ ?_
        exact wk (hmx10 (Y590, cq590, q590) hO590) [2, 3, 38, 43, 46] [[_], [_], [_], [_], _, _, _, _] [0, 1, 2, 3, 4, 5, 6, 7] rfl rfl
      refine any_cutX (V := Unit) (fun _ => True) 12 #[true, false, false, false, false, true, true, false, false, false, false, false, false, false, false] (fun _ => [(1, .pointer (some ⟨gm, 0, none⟩)), (3, .pointer (some ⟨γ1 0, 0, none⟩)), (38, .pointer (some ⟨gb, 0, none⟩)), (43, .int .i64 (j : Nat)), (44, .int .i64 (j + 1 : Nat))]) (fun _ => bx (γ1 0) (#[.pointer (some ⟨gb, 0, none⟩)]) 56 :: bx gb (#[.slice q m capq]) 36 :: bx gm (#[.slice p n cap]) 27 :: bx gi (#[.int .i64 (j + 1 : Nat)]) 3 :: (Y ++ (Yi ++ (YR ++ [])))) ?_ (fun hmx4 => ?_)
      ·
       rintro _ _
       refine any_fork [1, 7] (by kernel_rfl) (by simp) (each_cons _ rfl ?_ (each_cons _ rfl ?_ (each_nil)))
       ·
        refine qo0 1 [(1, .go (owns 0 0 1))] [1, 38, 43, 44] [(39, .pointer (some ⟨gb, 0, none⟩))] ?_
        refine od_ ?_
        refine tk (m := 9) [2, 3] [] [1, 38, 43, 44] [(41, .pointer (some ⟨gb, 0, none⟩))] ([]) #[true, true, true, true, false, true, true, false, false, false, false, false, false, false, false] al0 ?_
        exact wk (hmx16 () trivial) [1, 38, 41, 43, 44] [[_], [_], [_], [_], _, _, _] [0, 1, 2, 3, 4, 5, 6] rfl rfl
       ·
        refine qo0 1 [(7, .go (owns 2 0 1))] [3, 38, 43, 44] [(45, .slice p n cap)] ?_
        refine od_ ?_
        exact wk (hmx9 () trivial) [3, 38, 43, 44, 45] [[_], [_], [_], [_], _, _, _] [0, 1, 2, 3, 4, 5, 6] rfl rfl
      refine any_cutX (V := Unit) (fun _ => True) 13 #[false, false, false, false, false, true, false, true, false, false, false, false, false, false, false] (fun _ => [(2, .pointer (some ⟨gi, 0, none⟩)), (3, .pointer (some ⟨γ1 0, 0, none⟩)), (43, .int .i64 (j : Nat)), (45, .slice p n cap)]) (fun _ => bx (γ1 0) (#[.pointer (some ⟨gb, 0, none⟩)]) 56 :: bx gb (#[.slice q m capq]) 36 :: bx gm (#[.slice p n cap]) 27 :: bx gi (#[.int .i64 (j + 1 : Nat)]) 3 :: (Y ++ (Yi ++ (YR ++ [])))) ?_ (fun hmx3 => ?_)
      ·
       rintro _ _
       refine any_fork [0, 1, 6, 8] (by kernel_rfl) (by simp) (each_cons _ rfl ?_ (each_cons _ rfl ?_ (each_cons _ rfl ?_ (each_cons _ rfl ?_ (each_nil)))))
       ·
        refine qo0 1 [(0, .go (owns 0 0 1))] [2, 3, 43, 45] [(38, .pointer (some ⟨gb, 0, none⟩))] ?_
        refine od_ ?_
        exact wk (hmx5 () trivial) [2, 3, 38, 43, 45] [[_], [_], [_], [_], _, _, _] [0, 1, 2, 3, 4, 5, 6] rfl rfl
       ·
        refine qo0 1 [(1, .go (owns 0 0 1))] [2, 3, 43, 45] [(39, .pointer (some ⟨gb, 0, none⟩))] ?_
        refine od_ ?_
        refine tk (m := 10) [2, 3] [] [2, 3, 43, 45] [(41, .pointer (some ⟨gb, 0, none⟩))] ([]) #[false, true, true, true, false, true, false, true, false, false, false, false, false, false, false] al0 ?_
        exact wk (hmx13 () trivial) [2, 3, 41, 43, 45] [[_], [_], [_], [_], _, _, _] [0, 1, 2, 3, 4, 5, 6] rfl rfl
       ·
        refine qo0 1 [(6, .go (owns 3 0 1))] [3, 43, 45] [(44, .int .i64 (j + 1 : Nat))] ?_
        refine od_ ?_
        exact wk (hmx6 () trivial) [3, 43, 44, 45] [[_], [_], [_], [_], _, _, _] [0, 1, 2, 3, 4, 5, 6] rfl rfl
       ·
        refine cP (fun v L' => ∃ q_ c_ Y_, v = .slice q_ n c_ ∧ L' = List.take 4 (bx (γ1 0) (#[.pointer (some ⟨gb, 0, none⟩)]) 56 :: bx gb (#[.slice q m capq]) 36 :: bx gm (#[.slice p n cap]) 27 :: bx gi (#[.int .i64 (j + 1 : Nat)]) 3 :: (Y ++ (Yi ++ (YR ++ [])))) ++ (Y_ ++ List.drop 4 (bx (γ1 0) (#[.pointer (some ⟨gb, 0, none⟩)]) 56 :: bx gb (#[.slice q m capq]) 36 :: bx gm (#[.slice p n cap]) 27 :: bx gi (#[.int .i64 (j + 1 : Nat)]) 3 :: (Y ++ (Yi ++ (YR ++ []))))) ∧ SlO 3 Y_ q_ n c_ l) (fun args w => Tryd.call32 args w) (fun w hw => (cloneints_t p n cap l w (hsl.kept hw.below) hn (by omega)).mono fun e w' ⟨q_, c_, Y_, he, hO, hb, hY⟩ => ⟨_, _, he, ⟨q_, c_, Y_, rfl, rfl, hO⟩, hw.join hb hY 4⟩) ?_
        rintro v590 L590 ⟨q590, cq590, Y590, rfl, rfl, hO590⟩
        refine od_ ?_
        exact wk (hmx7 (Y590, cq590, q590) hO590) [2, 3, 43, 46] [[_], [_], [_], [_], _, _, _, _] [0, 1, 2, 3, 4, 5, 6, 7] rfl rfl
      refine any_cutX (V := Unit) (fun _ => True) 13 #[false, false, false, false, false, true, true, false, false, false, false, false, false, false, false] (fun _ => [(1, .pointer (some ⟨gm, 0, none⟩)), (3, .pointer (some ⟨γ1 0, 0, none⟩)), (43, .int .i64 (j : Nat)), (44, .int .i64 (j + 1 : Nat))]) (fun _ => bx (γ1 0) (#[.pointer (some ⟨gb, 0, none⟩)]) 56 :: bx gb (#[.slice q m capq]) 36 :: bx gm (#[.slice p n cap]) 27 :: bx gi (#[.int .i64 (j + 1 : Nat)]) 3 :: (Y ++ (Yi ++ (YR ++ [])))) ?_ (fun hmx2 => ?_)
      ·
       rintro _ _
       refine any_fork [0, 1, 7] (by kernel_rfl) (by simp) (each_cons _ rfl ?_ (each_cons _ rfl ?_ (each_cons _ rfl ?_ (each_nil))))
       ·
        refine qo0 1 [(0, .go (owns 0 0 1))] [1, 3, 43, 44] [(38, .pointer (some ⟨gb, 0, none⟩))] ?_
        refine od_ ?_
        exact wk (hmx4 () trivial) [1, 3, 38, 43, 44] [[_], [_], [_], [_], _, _, _] [0, 1, 2, 3, 4, 5, 6] rfl rfl
       ·
        refine qo0 1 [(1, .go (owns 0 0 1))] [1, 3, 43, 44] [(39, .pointer (some ⟨gb, 0, none⟩))] ?_
        refine od_ ?_
        refine tk (m := 10) [2, 3] [] [1, 3, 43, 44] [(41, .pointer (some ⟨gb, 0, none⟩))] ([]) #[false, true, true, true, false, true, true, false, false, false, false, false, false, false, false] al0 ?_
        exact wk (hmx12 () trivial) [1, 3, 41, 43, 44] [[_], [_], [_], [_], _, _, _] [0, 1, 2, 3, 4, 5, 6] rfl rfl
       ·
        refine qo0 1 [(7, .go (owns 2 0 1))] [3, 43, 44] [(45, .slice p n cap)] ?_
        refine od_ ?_
        exact wk (hmx6 () trivial) [3, 43, 44, 45] [[_], [_], [_], [_], _, _, _] [0, 1, 2, 3, 4, 5, 6] rfl rfl
      refine any_cutX (V := Unit) (fun _ => True) 13 #[true, false, false, false, false, true, false, false, false, false, false, false, false, false, false] (fun _ => [(1, .pointer (some ⟨gm, 0, none⟩)), (2, .pointer (some ⟨gi, 0, none⟩)), (3, .pointer (some ⟨γ1 0, 0, none⟩)), (38, .pointer (some ⟨gb, 0, none⟩)), (43, .int .i64 (j : Nat))]) (fun _ => bx (γ1 0) (#[.pointer (some ⟨gb, 0, none⟩)]) 56 :: bx gb (#[.slice q m capq]) 36 :: bx gm (#[.slice p n cap]) 27 :: bx gi (#[.int .i64 (j + 1 : Nat)]) 3 :: (Y ++ (Yi ++ (YR ++ [])))) ?_ (fun hmx1 => ?_)
      ·
       rintro _ _
       refine any_fork [1, 6, 7] (by kernel_rfl) (by simp) (each_cons _ rfl ?_ (each_cons _ rfl ?_ (each_cons _ rfl ?_ (each_nil))))
       ·
        refine qo0 1 [(1, .go (owns 0 0 1))] [1, 2, 38, 43] [(39, .pointer (some ⟨gb, 0, none⟩))] ?_
        refine od_ ?_
        refine tk (m := 10) [2, 3] [] [1, 2, 38, 43] [(41, .pointer (some ⟨gb, 0, none⟩))] ([]) #[true, true, true, true, false, true, false, false, false, false, false, false, false, false, false] al0 ?_
        exact wk (hmx11 () trivial) [1, 2, 38, 41, 43] [[_], [_], [_], [_], _, _, _] [0, 1, 2, 3, 4, 5, 6] rfl rfl
       ·
        refine qo0 1 [(6, .go (owns 3 0 1))] [1, 3, 38, 43] [(44, .int .i64 (j + 1 : Nat))] ?_
        refine od_ ?_
        exact wk (hmx4 () trivial) [1, 3, 38, 43, 44] [[_], [_], [_], [_], _, _, _] [0, 1, 2, 3, 4, 5, 6] rfl rfl
       ·
        refine qo0 1 [(7, .go (owns 2 0 1))] [2, 3, 38, 43] [(45, .slice p n cap)] ?_
        refine od_ ?_
        exact wk (hmx5 () trivial) [2, 3, 38, 43, 45] [[_], [_], [_], [_], _, _, _] [0, 1, 2, 3, 4, 5, 6] rfl rfl
      refine any_fork [0, 1, 6, 7] (by kernel_rfl) (by simp) (each_cons _ rfl ?_ (each_cons _ rfl ?_ (each_cons _ rfl ?_ (each_cons _ rfl ?_ (each_nil)))))
      ·
       refine qo0 1 [(0, .go (owns 0 0 1))] [1, 2, 3, 43] [(38, .pointer (some ⟨gb, 0, none⟩))] ?_
       refine od_ ?_
       exact wk (hmx1 () trivial) [1, 2, 3, 38, 43] [[_], [_], [_], [_], _, _, _] [0, 1, 2, 3, 4, 5, 6] rfl rfl
      ·
       refine qo0 1 [(1, .go (owns 0 0 1))] [1, 2, 3, 43] [(39, .pointer (some ⟨gb, 0, none⟩))] ?_
       refine od_ ?_
       refine tk (m := 11) [2, 3] [] [1, 2, 3, 43] [(41, .pointer (some ⟨gb, 0, none⟩))] ([]) #[false, true, true, true, false, true, false, false, false, false, false, false, false, false, false] al0 ?_
       exact wk (hmx8 () trivial) [1, 2, 3, 41, 43] [[_], [_], [_], [_], _, _, _] [0, 1, 2, 3, 4, 5, 6] rfl rfl
      ·
       refine qo0 1 [(6, .go (owns 3 0 1))] [1, 3, 43] [(44, .int .i64 (j + 1 : Nat))] ?_
       refine od_ ?_
       exact wk (hmx2 () trivial) [1, 3, 43, 44] [[_], [_], [_], [_], _, _, _] [0, 1, 2, 3, 4, 5, 6] rfl rfl
      ·
       refine qo0 1 [(7, .go (owns 2 0 1))] [2, 3, 43] [(45, .slice p n cap)] ?_
       refine od_ ?_
       exact wk (hmx3 () trivial) [2, 3, 43, 45] [[_], [_], [_], [_], _, _, _] [0, 1, 2, 3, 4, 5, 6] rfl rfl
     rintro ⟨Y590, Y650, cq590, cq650, q590, q650, γ630⟩ ⟨hO590, hO650⟩
     refine any_nil (by kernel_rfl) ?_
     refine ds_ (sq_ (qa0 [] [] [(4, .int .i64 0)] (ds_ (rt ([]) (.int .i64 0) ?_))))
     obtain ⟨Yq, hpq, hGq⟩ := GotG.ins (x := (⟨(j + 1 : Nat), q590, n, cq590, l⟩ : GngA)) hG hO590 (show j ≤ bl.length by omega)
     exact fun w' hw => ⟨_, _, _, _, _, Yq, (bl.take j ++ [(⟨(j + 1 : Nat), q590, n, cq590, l⟩ : GngA)] ++ bl.drop j), _, rfl, by rw [inG_val] at q8; rw [fc_ok q3 q8 hI (by omega), val_ins]; rfl, hO650, hGq, form_perm hpq (by have := Hs.pick [[bx (γ1 0) (#[.pointer (some ⟨gb, 0, none⟩)]) 56], [bx gb (#[.slice q650 (m + 1) cq650]) 36], [bx gm (#[.slice p n cap]) 27], [bx gi (#[.int .i64 (j + 1 : Nat)]) 3], Y590, Y650, Yi, YR] [1, 2, 3, 5, 6, 4, 7] [0] (by kernel_rfl) hw; simpa [chunk] using this)⟩
  ·
   refine cD (.bool true) (fun args w => Tryd.call28 args w) (fun w hw => by have := containsf_t _ (bx (γ1 0) (#[.pointer (some ⟨gb, 0, none⟩)]) 56 :: bx gb (#[.slice q m capq]) 36 :: bx gm (#[.slice p n cap]) 27 :: bx gi (#[.int .i64 0]) 3 :: (Y ++ (Yi ++ (YR ++ [])))) 29 #[.pointer (some ⟨γ1 0, 0, none⟩)] (inG bl) p n cap l w (fun args w => Tryd.call29 args w) hw (hsl.kept hw.below) hn (by omega) (fun x hx w' hX => form11_t q m capq bl (γ1 0) gb x w' (SlO.sub hO hX (List.Sublist.cons _ (List.Sublist.cons _ (List.Sublist.cons _ (List.Sublist.cons _ (List.sublist_append_left Y _)))))) hma (by omega) (GotG.reads hG hX (List.Sublist.cons _ (List.Sublist.cons _ (List.Sublist.cons _ (List.Sublist.cons _ (List.Sublist.trans (List.sublist_append_left Yi _) (List.sublist_append_right Y _))))))) hm9 (rd_one14 (hX.row 0 rfl)) (rd_one14 (hX.row 1 rfl))); rw [q8] at this; exact this) (on_ (ds_ (t_ (sq_ (qa0 [] [] [(4, .int .i64 5)] (ds_ (rt ([]) (.int .i64 5) ?_)))))))
   exact fun w' hw => ⟨_, _, _, _, _, _, bl, 0, rfl, by rw [inG_val] at q8; exact (fc_there q3 q8).symm, hO, hG, (by have := Hs.pick [[bx (γ1 0) (#[.pointer (some ⟨gb, 0, none⟩)]) 56], [bx gb (#[.slice q m capq]) 36], [bx gm (#[.slice p n cap]) 27], [bx gi (#[.int .i64 0]) 3], Y, Yi, YR] [1, 2, 3, 4, 5, 6] [0] (by kernel_rfl) hw; simpa [chunk] using this)⟩
end Go.Proofs.YtahccegfahghfaaDoor

/-! Gangs: Form. -/
namespace Go.Proofs.YtahccegfahghfaaDoor
open Go Go.RowKit
theorem perm3 {A B C : List Ob} : (A ++ (B ++ C)).Perm (B ++ (A ++ C)) := by rw [← List.append_assoc, ← List.append_assoc]; exact List.perm_append_comm.append_right _
theorem form_in {w0 w : World} {b m i : Ob} {Y Yi O R : List Ob} (h : Hs w0 (b :: (Y ++ (Yi ++ ((m :: i :: O) ++ R)))) w) : Hs w0 (b :: m :: i :: (Y ++ (Yi ++ (O ++ R)))) w := by
  refine h.perm (.cons _ ?_)
  rw [show Y ++ (Yi ++ ((m :: i :: O) ++ R)) = (Y ++ Yi) ++ ([m, i] ++ (O ++ R)) from by simp, show m :: i :: (Y ++ (Yi ++ (O ++ R))) = [m, i] ++ ((Y ++ Yi) ++ (O ++ R)) from by simp]
  exact perm3
theorem form_out {w0 w : World} {b m i : Ob} {Y Yi O R : List Ob} (h : Hs w0 (b :: m :: i :: (Y ++ (Yi ++ (O ++ R)))) w) : Hs w0 (b :: (Y ++ (Yi ++ ((m :: i :: O) ++ R)))) w := by
  refine h.perm (.cons _ ?_)
  rw [show Y ++ (Yi ++ ((m :: i :: O) ++ R)) = (Y ++ Yi) ++ ([m, i] ++ (O ++ R)) from by simp, show m :: i :: (Y ++ (Yi ++ (O ++ R))) = [m, i] ++ ((Y ++ Yi) ++ (O ++ R)) from by simp]
  exact perm3
theorem form_out2 {w0 w : World} {Y Yi X : List Ob} (h : Hs w0 (Y ++ (Yi ++ X)) w) : Hs w0 (X ++ (Y ++ (Yi ++ []))) w := by
  refine h.perm ?_
  rw [List.append_nil, ← List.append_assoc]
  exact List.perm_append_comm
theorem form_post {gs : Gs} {l : List Int} {er : Int} {bl : List GngA} {X : List Ob} {f : Int → List Ob} (h : (gangB gs = false ∧ er = 240 ∧ bl = [] ∧ X = f 0) ∨ (gangB gs = true ∧ er ≠ 0 ∧ bl = [] ∧ ∃ g2 : Gs, ∃ idn, (g2, idn, er) = formC gs l ∧ X = f idn) ∨ (gangB gs = true ∧ er = 0 ∧ ∃ idn, (bl.map GngA.val, idn, (0 : Int)) = formC gs l ∧ X = f idn)) : ∃ idn, X = f idn ∧ (bl.map GngA.val, idn, er) = formV gs l := by
  rcases h with ⟨h, rfl, rfl, rfl⟩ | ⟨h, h2, rfl, g2, idn, h3, rfl⟩ | ⟨h, rfl, idn, h3, rfl⟩
  · exact ⟨0, rfl, by rw [formV, if_pos h]; rfl⟩
  · exact ⟨idn, rfl, by rw [formV, if_neg (by rw [h]; decide), ← h3, if_neg h2]; rfl⟩
  · exact ⟨idn, rfl, by rw [formV, if_neg (by rw [h]; decide), ← h3, if_pos rfl]⟩

set_option maxRecDepth 100000 in
theorem form_t (q : Option Addr) (m capq : Nat) (al : List GngA) (p : Option Addr) (n cap : Nat) (l : List Int) (w : World)
    (hal : Sv w q al) (hma : m = al.length) (hbm : m ≤ 1000) (hnm : ∀ x ∈ al, x.Reads w) (hm9 : ∀ x ∈ al, x.n ≤ 1000)
    (hsl : Sv w p l) (hn : n = l.length) (hb : n ≤ 1000)
    : Calls Tryd.prog 13 #[.agg #[.slice q m capq], .slice p n cap] w fun e w' => ∃ er q' n' c' Y Yi bl idn, e = .returned (.tuple #[.agg #[.slice q' n' c'], .int .i64 idn, .int .i64 er]) ∧ (bl.map GngA.val, idn, er) = formV (al.map GngA.val) l ∧ SlO 62 Y q' n' c' bl ∧ GotG 3 Yi bl ∧ Below w.heap.size w w' ∧ Hs w (Y ++ Yi) w' := by
  refine enter (Hs.start w) Tryd.func13 rfl Tryd.ntmps13 rfl (sq_ (ma0 [] [] (fun γ1 => [(2, .pointer (some ⟨γ1 0, 0, none⟩)), (3, .pointer (some ⟨γ1 1, 0, none⟩)), (4, .pointer (some ⟨γ1 2, 0, none⟩))]) (fun γ1 L => bx (γ1 2) (#[.slice none 0 0]) 36 :: bx (γ1 1) (#[.slice p n cap]) 27 :: bx (γ1 0) (#[.slice q m capq]) 36 :: L) (fun γ1 => ds_ (sq_ (ma0 [(1, .go (owns 0 0 1))] [2, 3, 4] (fun γ2 => [(7, .pointer (some ⟨γ2 0, 0, none⟩))]) (fun γ2 L => bx (γ2 0) (#[.int .i64 0]) 3 :: L) (fun γ2 => ds_ (sq_ (ao_ (qo0 2 [(0, .go (owns 3 0 1))] [4, 7] [(11, .agg #[.slice q m capq]), (12, .func (.func 26) #[] #[.pointer (some ⟨γ1 1, 0, none⟩), .pointer (some ⟨γ2 0, 0, none⟩)])] (Ops.pick [[bx (γ2 0) (#[.int .i64 0]) 3], [bx (γ1 2) (#[.slice none 0 0]) 36], [bx (γ1 1) (#[.slice p n cap]) 27], [bx (γ1 0) (#[.slice q m capq]) 36]] [2, 0, 1, 3] [] ([bx (γ1 1) (#[.slice p n cap]) 27, bx (γ2 0) (#[.int .i64 0]) 3, bx (γ1 2) (#[.slice none 0 0]) 36, bx (γ1 0) (#[.slice q m capq]) 36]) (by kernel_rfl) rfl rfl (cP (fun v L' => ∃ er q_ n_ c_ Y_ Z_ bl_ idn, v = .tuple #[.agg #[.slice q_ n_ c_], .int .i64 er] ∧ L' = (fun idn => [bx (γ1 1) (#[.slice p n cap]) 27, bx (γ2 0) (#[.int .i64 idn]) 3, bx (γ1 2) (#[.slice none 0 0]) 36, bx (γ1 0) (#[.slice q m capq]) 36]) idn ++ (Y_ ++ (Z_ ++ [])) ∧ SlO 62 Y_ q_ n_ c_ bl_ ∧ GotG 3 Z_ bl_ ∧ (bl_.map GngA.val, idn, er) = formV (al.map GngA.val) l) (fun args w => Tryd.call25 args w) (fun w hw => (with_t _ [bx (γ1 1) (#[.slice p n cap]) 27, bx (γ2 0) (#[.int .i64 0]) 3, bx (γ1 2) (#[.slice none 0 0]) 36, bx (γ1 0) (#[.slice q m capq]) 36] 26 #[.pointer (some ⟨γ1 1, 0, none⟩), .pointer (some ⟨γ2 0, 0, none⟩)] (fun er gs X2 => ∃ idn, (gs, idn, er) = formC (al.map GngA.val) l ∧ X2 = (fun idn => [bx (γ1 1) (#[.slice p n cap]) 27, bx (γ2 0) (#[.int .i64 idn]) 3, bx (γ1 2) (#[.slice none 0 0]) 36, bx (γ1 0) (#[.slice q m capq]) 36]) idn) q m capq al w (fun args w => Tryd.call26 args w) hw hal hma hbm hnm hm9 (fun hgd gb q' c' Y Yi R bl w' hO hG hV hX => (form1_t _ Y Yi ([bx (γ1 2) (#[.slice none 0 0]) 36, bx (γ1 0) (#[.slice q m capq]) 36] ++ R) gb (γ1 1) (γ2 0) q' m c' bl p n cap l w' hsl hn hb hbm hO hG (by rw [hV]; exact hgd) (form_in (O := [bx (γ1 2) (#[.slice none 0 0]) 36, bx (γ1 0) (#[.slice q m capq]) 36]) hX)).mono fun e w'' ⟨er, q2, n2, c2, Y2, Yi2, bl2, idn, he, h1, h2, h3, h4⟩ => ⟨er, q2, n2, c2, Y2, Yi2, bl2, _, he, ⟨idn, by rw [← hV]; exact h1, rfl⟩, h2, h3, form_out (O := [bx (γ1 2) (#[.slice none 0 0]) 36, bx (γ1 0) (#[.slice q m capq]) 36]) h4⟩)).mono fun e w' ⟨er, q_, n_, c_, Y_, Z_, bl_, X_, he, h1, h2, hX, h3⟩ => by obtain ⟨idn, hx, hv⟩ := form_post (f := (fun idn => [bx (γ1 1) (#[.slice p n cap]) 27, bx (γ2 0) (#[.int .i64 idn]) 3, bx (γ1 2) (#[.slice none 0 0]) 36, bx (γ1 0) (#[.slice q m capq]) 36])) h3; subst hx; exact ⟨_, _, he, ⟨er, q_, n_, c_, Y_, Z_, bl_, idn, rfl, rfl, h1, h2, hv⟩, form_out2 hX⟩) ?_)))))))))))
  rintro v4 L4 ⟨er4, q4, n4, c4, Y4, Yz4, bl4, id4, rfl, rfl, hO4, hG4, hV4⟩
  refine mo0 6 [(7, .go (owns 0 0 1))] [4, 7] (fun γ5 => [(8, .pointer (some ⟨γ5 0, 0, none⟩)), (9, .int .i64 er4)]) (fun γ5 L => bx (γ5 0) (#[.slice q4 n4 c4]) 36 :: L) (fun γ5 => on_ (ds_ (sq_ ?_)))
  refine at_any (by kernel_rfl) ?_
  refine tk (m := 5) [2] [] [4, 7, 8] [(18, .int .i64 er4)] ([]) #[false, false, true, false, false, false] al0 ?_
  refine any_cutX (V := Unit) (fun _ => True) 0 #[true, true, true, true, true, true] (fun _ => [(4, .pointer (some ⟨γ1 2, 0, none⟩)), (5, .int .i64 id4), (6, .int .i64 er4)]) (fun _ => bx (γ5 0) (#[.slice q4 n4 c4]) 36 :: bx (γ1 1) (#[.slice p n cap]) 27 :: bx (γ2 0) (#[.int .i64 id4]) 3 :: bx (γ1 2) (#[.slice q4 n4 c4]) 36 :: bx (γ1 0) (#[.slice q m capq]) 36 :: (Y4 ++ (Yz4 ++ []))) ?_ (fun hmx5 => ?_)
  rotate_left
  ·
    refine any_cutX (V := Unit) (fun _ => True) 3 #[true, false, true, true, false, false] (fun _ => [(4, .pointer (some ⟨γ1 2, 0, none⟩)), (7, .pointer (some ⟨γ2 0, 0, none⟩)), (18, .int .i64 er4)]) (fun _ => bx (γ5 0) (#[.slice q4 n4 c4]) 36 :: bx (γ1 1) (#[.slice p n cap]) 27 :: bx (γ2 0) (#[.int .i64 id4]) 3 :: bx (γ1 2) (#[.slice q4 n4 c4]) 36 :: bx (γ1 0) (#[.slice q m capq]) 36 :: (Y4 ++ (Yz4 ++ []))) ?_ (fun hmx4 => ?_)
    ·
      rintro _ _
      refine a1 1 rfl ?_
      refine qo0 1 [(1, .go (owns 2 0 1))] [4, 18] [(17, .int .i64 id4)] ?_
      refine od_ ?_
      refine tk (m := 0) [4, 5] [] [4] [(5, .int .i64 id4), (6, .int .i64 er4)] ([]) #[true, true, true, true, true, true] al0 ?_
      exact wk (hmx5 () trivial) [4, 5, 6] [[_], [_], [_], [_], [_], _, _] [0, 1, 2, 3, 4, 5, 6] rfl rfl
    refine any_cutX (V := Unit) (fun _ => True) 3 #[true, true, true, false, false, false] (fun _ => [(4, .pointer (some ⟨γ1 2, 0, none⟩)), (16, .agg #[.slice q4 n4 c4]), (17, .int .i64 id4), (18, .int .i64 er4)]) (fun _ => bx (γ5 0) (#[.slice q4 n4 c4]) 36 :: bx (γ1 1) (#[.slice p n cap]) 27 :: bx (γ2 0) (#[.int .i64 id4]) 3 :: bx (γ1 2) (#[.slice none 0 0]) 36 :: bx (γ1 0) (#[.slice q m capq]) 36 :: (Y4 ++ (Yz4 ++ []))) ?_ (fun hmx3 => ?_)
    ·
      rintro _ _
      refine a1 3 rfl ?_
      refine mo0 1 [(3, .go (owns 3 0 1))] [4, 17, 18] (fun _ => []) (fun _ L => (L.set 3 (bx (γ1 2) (#[.slice q4 n4 c4]) 36))) (fun _ => ?_)
      refine od_ ?_
      refine tk (m := 0) [4, 5] [] [4] [(5, .int .i64 id4), (6, .int .i64 er4)] ([]) #[true, true, true, true, true, true] al0 ?_
      exact wk (hmx5 () trivial) [4, 5, 6] [[_], [_], [_], [_], [_], _, _] [0, 1, 2, 3, 4, 5, 6] rfl rfl
    refine any_cutX (V := Unit) (fun _ => True) 4 #[false, true, true, false, false, false] (fun _ => [(4, .pointer (some ⟨γ1 2, 0, none⟩)), (8, .pointer (some ⟨γ5 0, 0, none⟩)), (17, .int .i64 id4), (18, .int .i64 er4)]) (fun _ => bx (γ5 0) (#[.slice q4 n4 c4]) 36 :: bx (γ1 1) (#[.slice p n cap]) 27 :: bx (γ2 0) (#[.int .i64 id4]) 3 :: bx (γ1 2) (#[.slice none 0 0]) 36 :: bx (γ1 0) (#[.slice q m capq]) 36 :: (Y4 ++ (Yz4 ++ []))) ?_ (fun hmx2 => ?_)
    ·
      rintro _ _
      refine a1 0 rfl ?_
      refine qo0 1 [(0, .go (owns 0 0 1))] [4, 17, 18] [(16, .agg #[.slice q4 n4 c4])] ?_
      refine od_ ?_
      exact wk (hmx3 () trivial) [4, 16, 17, 18] [[_], [_], [_], [_], [_], _, _] [0, 1, 2, 3, 4, 5, 6] rfl rfl
    refine any_cutX (V := Unit) (fun _ => True) 4 #[true, false, true, false, false, false] (fun _ => [(4, .pointer (some ⟨γ1 2, 0, none⟩)), (7, .pointer (some ⟨γ2 0, 0, none⟩)), (16, .agg #[.slice q4 n4 c4]), (18, .int .i64 er4)]) (fun _ => bx (γ5 0) (#[.slice q4 n4 c4]) 36 :: bx (γ1 1) (#[.slice p n cap]) 27 :: bx (γ2 0) (#[.int .i64 id4]) 3 :: bx (γ1 2) (#[.slice none 0 0]) 36 :: bx (γ1 0) (#[.slice q m capq]) 36 :: (Y4 ++ (Yz4 ++ []))) ?_ (fun hmx1 => ?_)
    ·
      rintro _ _
      refine any_fork [1, 3] (by kernel_rfl) (by simp) (each_cons _ rfl ?_ (each_cons _ rfl ?_ (each_nil)))
      ·
        refine qo0 1 [(1, .go (owns 2 0 1))] [4, 16, 18] [(17, .int .i64 id4)] ?_
        refine od_ ?_
        exact wk (hmx3 () trivial) [4, 16, 17, 18] [[_], [_], [_], [_], [_], _, _] [0, 1, 2, 3, 4, 5, 6] rfl rfl
      ·
        refine mo0 1 [(3, .go (owns 3 0 1))] [4, 7, 18] (fun _ => []) (fun _ L => (L.set 3 (bx (γ1 2) (#[.slice q4 n4 c4]) 36))) (fun _ => ?_)
        refine od_ ?_
        exact wk (hmx4 () trivial) [4, 7, 18] [[_], [_], [_], [_], [_], _, _] [0, 1, 2, 3, 4, 5, 6] rfl rfl
    refine any_fork [0, 1] (by kernel_rfl) (by simp) (each_cons _ rfl ?_ (each_cons _ rfl ?_ (each_nil)))
    ·
      refine qo0 1 [(0, .go (owns 0 0 1))] [4, 7, 18] [(16, .agg #[.slice q4 n4 c4])] ?_
      refine od_ ?_
      exact wk (hmx1 () trivial) [4, 7, 16, 18] [[_], [_], [_], [_], [_], _, _] [0, 1, 2, 3, 4, 5, 6] rfl rfl
    ·
      refine qo0 1 [(1, .go (owns 2 0 1))] [4, 8, 18] [(17, .int .i64 id4)] ?_
      refine od_ ?_
      exact wk (hmx2 () trivial) [4, 8, 17, 18] [[_], [_], [_], [_], [_], _, _] [0, 1, 2, 3, 4, 5, 6] rfl rfl
  rintro _ _
  refine any_nil (by kernel_rfl) ?_
  refine ds_ (rt (owns 3 0 1) (.tuple #[.agg #[.slice q4 n4 c4], .int .i64 id4, .int .i64 er4]) ?_)
  exact fun w' hw => ⟨_, _, _, _, _, _, _, _, rfl, hV4, hO4, hG4, hw.below, two_tails14 (Hs.pick [[bx (γ5 0) (#[.slice q4 n4 c4]) 36], [bx (γ1 1) (#[.slice p n cap]) 27], [bx (γ2 0) (#[.int .i64 id4]) 3], [bx (γ1 2) (#[.slice q4 n4 c4]) 36], [bx (γ1 0) (#[.slice q m capq]) 36], Y4, Yz4] [5, 6] [0, 1, 2, 3, 4] (by kernel_rfl) hw)⟩
end Go.Proofs.YtahccegfahghfaaDoor

/-! The layer does something. -/
namespace Go.Proofs.YtahccegfahghfaaDoor
open Go Go.RowKit
theorem bool_eqRun (op : BinOp) (hop : op = .eql ∨ op = .neq) (x y : Operand) (a b r : Bool) (hr : r = (if op = .eql then a == b else !(a == b))) : EqRun Tryd.prog op 4 x y (.bool a) (.bool b) r := by
 intro w
 subst hr
 have hg : Tryd.prog.eqGuardType Tryd.prog.depth 4 = false := by kernel_rfl
 have key : (Op.equal 4 (.bool a) (.bool b)).run Tryd.prog w = .ok (a == b) w := by
  unfold Op.equal
  rw [show Op.maxDepth = 9999 + 1 from rfl]
  exact run_equalIn_bool' w 9999 4 a b Tryd.underlying4
 have guard : (eqGuard op 4 x y (.bool a) (.bool b)).run Tryd.prog w = .ok () w := by
  unfold eqGuard
  rcases hop with rfl | rfl <;> simp [hg]
 rw [Sem.run_bind, guard]
 simp only [Result.andThen_ok]
 rcases hop with rfl | rfl <;> simp [binOp, Sem.run_bind, key]
theorem bool_ne {x y : Operand} (a b : Bool) : EqRun Tryd.prog .neq 4 x y (.bool a) (.bool b) (!(a == b)) := bool_eqRun _ (.inr rfl) x y a b _ (by simp)
theorem hs_re {w0 w : World} {A Y Z B : List Ob} (h : Hs w0 (A ++ ((Y ++ Z) ++ B)) w) : Hs w0 (A ++ (Y ++ (Z ++ B))) w := by rwa [← List.append_assoc Y Z B]

set_option maxRecDepth 100000 in
theorem wakes_t  (w : World)
 : Calls Tryd.prog 5 #[] w fun e w' => e = .returned (.bool true) ∧ Below w.heap.size w w' := by
 refine enter (Hs.start w) Tryd.func5 rfl Tryd.ntmps5 rfl (sq_ (qa0 [] [] [] (ds_ (sq_ (ao_ (mo0 2 [] [] (fun γ2 => [(10, .agg #[.slice none 0 0]), (11, .slice (some ⟨γ2 0, 0, none⟩) 2 2)]) (fun γ2 L => bx (γ2 0) (#[.int .i64 1, .int .i64 3]) 3 :: L) (fun γ2 => cP (fun v L' => ∃ q_ n_ c_ Y_ Z_ bl_, v = .tuple #[.agg #[.slice q_ n_ c_], .int .i64 1, .int .i64 0] ∧ L' = List.take 1 ([bx (γ2 0) (#[.int .i64 1, .int .i64 3]) 3]) ++ (Y_ ++ (Z_ ++ List.drop 1 ([bx (γ2 0) (#[.int .i64 1, .int .i64 3]) 3]))) ∧ SlO 62 Y_ q_ n_ c_ bl_ ∧ GotG 3 Z_ bl_ ∧ bl_.map GngA.val = [(1, [1, 3])]) (fun args w => Tryd.call13 args w) (fun w hw => (form_t none 0 0 [] (some ⟨γ2 0, 0, none⟩) 2 2 [1, 3] w Sv.nil rfl (by decide) (fun x hx => nomatch hx) (fun x hx => nomatch hx) (sv_row (hw.row 0 rfl) rfl) rfl (by decide)).mono fun e w' ⟨er, q_, n_, c_, Y_, Z_, bl_, idn, he, hv, hO, hG, hb, hY⟩ => by have hq := hv.trans (show _ = ([(1, [1, 3])], (1 : Int), (0 : Int)) from by kernel_rfl); simp only [Prod.mk.injEq] at hq; obtain ⟨hq1, rfl, rfl⟩ := hq; exact ⟨_, _, he, ⟨q_, n_, c_, Y_, Z_, bl_, rfl, rfl, hO, hG, hq1⟩, hs_re (hw.join hb hY 1)⟩) ?_)))))))
 rintro v3 L3 ⟨q3, n3, c3, Y3, Yz3, bl3, rfl, rfl, hO3, hG3, hV3⟩
 have hbl3 : bl3.length = 1 := by have := congrArg List.length hV3; simpa using this
 refine mo0 8 [(8, .go (owns 0 0 1))] [] (fun γ4 => [(1, .pointer (some ⟨γ4 0, 0, none⟩)), (2, .int .i64 1), (3, .int .i64 0)]) (fun γ4 L => bx (γ4 0) (#[.slice q3 n3 c3]) 36 :: L) (fun γ4 => on_ (ds_ (sq_ (ao_ (mo0 2 [(0, .go (owns 0 0 1))] [2, 3] (fun γ5 => [(17, .agg #[.slice q3 n3 c3]), (18, .slice (some ⟨γ5 0, 0, none⟩) 2 2)]) (fun γ5 L => bx (γ5 0) (#[.int .i64 3, .int .i64 4]) 3 :: L) (fun γ5 => cP (fun v L' => ∃ q_ n_ c_ Y_ Z_ bl_, v = .tuple #[.agg #[.slice q_ n_ c_], .int .i64 0, .int .i64 5] ∧ L' = List.take 3 (bx (γ5 0) (#[.int .i64 3, .int .i64 4]) 3 :: bx (γ4 0) (#[.slice q3 n3 c3]) 36 :: bx (γ2 0) (#[.int .i64 1, .int .i64 3]) 3 :: (Y3 ++ (Yz3 ++ []))) ++ (Y_ ++ (Z_ ++ List.drop 3 (bx (γ5 0) (#[.int .i64 3, .int .i64 4]) 3 :: bx (γ4 0) (#[.slice q3 n3 c3]) 36 :: bx (γ2 0) (#[.int .i64 1, .int .i64 3]) 3 :: (Y3 ++ (Yz3 ++ []))))) ∧ SlO 62 Y_ q_ n_ c_ bl_ ∧ GotG 3 Z_ bl_ ∧ bl_.map GngA.val = []) (fun args w => Tryd.call13 args w) (fun w hw => (form_t q3 n3 c3 bl3 (some ⟨γ5 0, 0, none⟩) 2 2 [3, 4] w (SlO.sub hO3 hw (List.Sublist.cons _ (List.Sublist.cons _ (List.Sublist.cons _ (List.sublist_append_left Y3 _))))) hO3.len (by have := hO3.len; omega) (GotG.reads hG3 hw (List.Sublist.cons _ (List.Sublist.cons _ (List.Sublist.cons _ (List.Sublist.trans (List.sublist_append_left Yz3 _) (List.sublist_append_right Y3 _)))))) (got_small hG3 (by rw [hV3]; kernel_rfl)) (sv_row (hw.row 0 rfl) rfl) rfl (by decide)).mono fun e w' ⟨er, q_, n_, c_, Y_, Z_, bl_, idn, he, hv, hO, hG, hb, hY⟩ => by have hq := hv.trans (show _ = ([], (0 : Int), (5 : Int)) from by rw [hV3]; kernel_rfl); simp only [Prod.mk.injEq] at hq; obtain ⟨hq1, rfl, rfl⟩ := hq; exact ⟨_, _, he, ⟨q_, n_, c_, Y_, Z_, bl_, rfl, rfl, hO, hG, hq1⟩, hs_re (hw.join hb hY 3)⟩) ?_))))))
 rintro v6 L6 ⟨q6, n6, c6, Y6, Yz6, bl6, rfl, rfl, hO6, hG6, hV6⟩
 have hbl6 : bl6.length = 0 := by have := congrArg List.length hV6; simpa using this
 refine mo0 8 [(8, .go (owns 0 0 1))] [2, 3] (fun γ7 => [(6, .int .i64 5)]) (fun γ7 L => bx (γ7 0) (#[.slice q6 n6 c6]) 36 :: L) (fun γ7 => on_ (ds_ (sq_ (ao_ (mo0 3 [] [2, 3, 6] (fun γ8 => [(26, .slice (some ⟨γ8 2, 0, none⟩) 2 2)]) (fun γ8 L => bx (γ8 2) (#[.slice (some ⟨γ8 0, 0, none⟩) 2 2, .slice (some ⟨γ8 1, 0, none⟩) 1 1]) 27 :: bx (γ8 1) (#[.int .i64 0]) 3 :: bx (γ8 0) (#[.int .i64 0, .int .i64 1]) 3 :: L) (fun γ8 => cP (fun v L' => ∃ q_ c_ Y_, v = .tuple #[.slice q_ 2 c_, .bool true] ∧ L' = List.take 7 (bx (γ8 2) (#[.slice (some ⟨γ8 0, 0, none⟩) 2 2, .slice (some ⟨γ8 1, 0, none⟩) 1 1]) 27 :: bx (γ8 1) (#[.int .i64 0]) 3 :: bx (γ8 0) (#[.int .i64 0, .int .i64 1]) 3 :: bx (γ7 0) (#[.slice q6 n6 c6]) 36 :: bx (γ5 0) (#[.int .i64 3, .int .i64 4]) 3 :: bx (γ4 0) (#[.slice q3 n3 c3]) 36 :: bx (γ2 0) (#[.int .i64 1, .int .i64 3]) 3 :: (Y6 ++ (Yz6 ++ (Y3 ++ (Yz3 ++ []))))) ++ (Y_ ++ List.drop 7 (bx (γ8 2) (#[.slice (some ⟨γ8 0, 0, none⟩) 2 2, .slice (some ⟨γ8 1, 0, none⟩) 1 1]) 27 :: bx (γ8 1) (#[.int .i64 0]) 3 :: bx (γ8 0) (#[.int .i64 0, .int .i64 1]) 3 :: bx (γ7 0) (#[.slice q6 n6 c6]) 36 :: bx (γ5 0) (#[.int .i64 3, .int .i64 4]) 3 :: bx (γ4 0) (#[.slice q3 n3 c3]) 36 :: bx (γ2 0) (#[.int .i64 1, .int .i64 3]) 3 :: (Y6 ++ (Yz6 ++ (Y3 ++ (Yz3 ++ [])))))) ∧ SlO 3 Y_ q_ 2 c_ ([1, 0] : List Int)) (fun args w => Tryd.call14 args w) (fun w hw => (match_t (some ⟨γ8 2, 0, none⟩) 2 2 ([(⟨(some ⟨γ8 0, 0, none⟩), 2, 2, [0, 1]⟩ : IntsA), (⟨(some ⟨γ8 1, 0, none⟩), 1, 1, [0]⟩ : IntsA)]) w (sv_row (hw.row 0 rfl) rfl) rfl (by decide) (fun x hx => by simp only [List.mem_cons, List.not_mem_nil, or_false] at hx; rcases hx with rfl | rfl; exact ⟨sv_row (hw.row 2 rfl) rfl, rfl, Nat.le_refl _, (by simp)⟩; exact ⟨sv_row (hw.row 1 rfl) rfl, rfl, Nat.le_refl _, (by simp)⟩) (fun x hx => by simp only [List.mem_cons, List.not_mem_nil, or_false] at hx; rcases hx with rfl | rfl <;> simp)).mono fun e w' ⟨q_, n_, c_, Y_, he, hO, hb, hY⟩ => by rw [show matchA _ = (([1, 0] : List Int), true) from (by kernel_rfl)] at he hO; obtain rfl : n_ = 2 := hO.len; exact ⟨_, _, he, ⟨q_, c_, Y_, rfl, rfl, hO⟩, hw.join hb hY 7⟩) ?_))))))
 rintro v9 L9 ⟨q9, c9, Y9, rfl, rfl, hO9⟩
 refine qo0 5 [] [2, 3, 6] [(7, .slice q9 2 c9), (8, .bool true)] (on_ (ds_ (sq_ ?_)))
 have hln12 := hO9.len
 obtain ⟨g12, cs12, rfl, rfl, hOw12⟩ := hO9.rowOf (i := 0) (by omega)
 refine qa [(20, .at g12 0 0), (21, .go (ownps 7 (0 + 0 * 1) [.int .i64 1])), (26, .at g12 0 1), (27, .go (ownps 7 (0 + 1 * 1) [.int .i64 0]))] [] [(0, .bool true)] ([(some ⟨g12, 0, none⟩ : Option Addr) = some ⟨g12, 0, none⟩, 0 = ((0 : Nat) : Int), 0 < 2] ++ (acellsP cs12 (0 + 0 * 1) [.int .i64 1] ++ ([(some ⟨g12, 0, none⟩ : Option Addr) = some ⟨g12, 0, none⟩, 1 = ((1 : Nat) : Int), 1 < 2] ++ (acellsP cs12 (0 + 1 * 1) [.int .i64 0])))) (alA (al2 rfl (al2 rfl (al1 (by omega)))) (alA (rda_pre (hOw12.rdx hO9.len rfl) _ rfl) (alA (al2 rfl (al2 rfl (al1 (by omega)))) (rda_pre (hOw12.rdx hO9.len rfl) _ rfl)))) (ds_ (rt ([]) (.bool true) ?_))
 exact fun w' hw => ⟨rfl, hw.below⟩
end Go.Proofs.YtahccegfahghfaaDoor

/-! Whether sets have a match. -/
namespace Go.Proofs.YtahccegfahghfaaDoor
open Go Go.RowKit
theorem sets_add {rl : List IntsA} {al : List CpuA} {x : CpuA} {y : IntsA} {j : Nat} (hB : rl.map IntsA.l = ((al.take j).map CpuA.s).map listI) (hx : al[j]? = some x) (hy : y.l = listI x.s) : (rl ++ [y]).map IntsA.l = ((al.take (j + 1)).map CpuA.s).map listI := by
 rw [take_one hx, List.map_append, List.map_append, List.map_append, hB, List.map_cons, List.map_nil, hy]; rfl
/-- Whether sets have a match. -/
def mayM (ms : List Int) : Bool := rightM ms && matchV (ms.map listI)
theorem may_bad {ms : List Int} (h : rightM ms = false) : mayM ms = false := by unfold mayM; rw [h]; rfl
theorem may_ok {ms : List Int} (h : rightM ms = true) : mayM ms = matchV (ms.map listI) := by unfold mayM; rw [h]; rfl
theorem cpu_nn {al : List CpuA} (hgd : ∀ x ∈ al, x.Good) : ∀ s ∈ al.map CpuA.s, 0 ≤ s := fun s hs => by obtain ⟨x, hx, rfl⟩ := List.mem_map.1 hs; exact (hgd x hx).1

set_option maxRecDepth 100000 in
theorem lists_t (q : Option Addr) (m capq : Nat) (al : List CpuA) (w : World)
 (hal : Sv w q al) (hma : m = al.length) (hbm : m ≤ 1000) (hgd : ∀ x ∈ al, x.Good)
 (hT : TabAt 0 Lib.deBruijn32tab w)
 : Calls Tryd.prog 15 #[.slice q m capq] w fun e w' => ∃ q' n' c' Y rl Yi, e = .returned (.tuple #[.slice q' n' c', .bool (rightM (al.map CpuA.s))]) ∧ SlO 27 Y q' n' c' rl ∧ GotR 3 Yi rl ∧ (rightM (al.map CpuA.s) = true → rl.map IntsA.l = (al.map CpuA.s).map listI) ∧ Below w.heap.size w w' ∧ Hs w (Y ++ Yi) w' := by
 refine enter (Hs.start w) Tryd.func15 rfl Tryd.ntmps15 rfl (sq_ (qa0 [] [0] [] (ds_ (sq_ (qa0 [] [0] [(4, .slice none 0 0)] (ds_ (sq_ (sq_ (qa0 [] [0, 4] [(7, .slice q m capq), (8, .int .i64 (m : Nat)), (9, .int .i64 0)] (ds_ (at_block (at_loop (α := Nat × List Ob × Option Addr × Nat × List IntsA × List Ob) [0, 4, 7, 8, 9] (fun ⟨j, Yo, po, co, rl, Yi⟩ => [(0, .slice q m capq), (4, .slice po j co), (7, .slice q m capq), (8, .int .i64 (m : Nat)), (9, .int .i64 (j : Nat))]) (fun ⟨j, Yo, po, co, rl, Yi⟩ => (Yo ++ (Yi ++ []))) (fun ⟨j, Yo, po, co, rl, Yi⟩ => j ≤ m ∧ (∀ y ∈ al.take j, y.s < 256) ∧ SlO 27 Yo po j co rl ∧ GotR 3 Yi rl ∧ rl.map IntsA.l = ((al.take j).map CpuA.s).map listI) (fun ⟨j, Yo, po, co, rl, Yi⟩ => m - j) (0, [], none, 0, [], []) (by kernel_rfl) rfl ⟨Nat.zero_le _, all_take0T, SlO.nil, GotR.nil, rfl⟩ ?_))))))))))))
 rintro ⟨j, Yo, po, co, rl, Yi⟩
 rintro ⟨hj, hI, hO, hG, hB⟩
 have hlb := hO.len
 refine sq_ ?_
 by_cases q5 : ((j : Nat) : Int) < ((m : Nat) : Int)
 ·
  refine qa [(0, .yes)] [0, 4, 7, 8, 9] [(10, .bool true)] ([((j : Nat) : Int) < ((m : Nat) : Int)]) (al1 q5) (ds_ (sq_ (t_ (at_skip (ds_ (sq_ (at_block (sq_ ?_))))))))
  obtain ⟨b8, o8, rfl⟩ := hal.pos (i := j) (by omega)
  obtain ⟨x10, hx10⟩ := get_some (l := al) (m := j) (by omega)
  have hgx10 := hgd x10 (List.mem_of_getElem? hx10)
  have hg0x10 : 0 ≤ x10.s := hgx10.1
  have hg1x10 : x10.s < 4294967296 := hgx10.2
  refine qa [(0, .at b8 o8 j), (1, .go (outs b8 (o8 + j * 1) [.int .u32 x10.s]))] [0, 4, 7, 8, 9] [(6, .int .u32 x10.s)] ([(some ⟨b8, o8, none⟩ : Option Addr) = some ⟨b8, o8, none⟩, (j : Nat) = ((j : Nat) : Int), j < m] ++ (cellsP w b8 (o8 + j * 1) [.int .u32 x10.s])) (alA (al2 rfl (al2 rfl (al1 (by omega)))) (rd_pre (hal.get hx10) _ rfl)) (ds_ (sq_ (sq_ (ao_ (qo0 1 [] [0, 4, 6, 7, 8, 9] [(13, .int .u32 x10.s)] ?_)))))
  rcases q13 : decide (x10.s < 256) with _ | _
  ·
   refine cD (.int .i64 140) (fun args w => Tryd.call36 args w) (fun w hw => by have := ccheck_t x10.s w hg0x10 hg1x10; rw [q13] at this; exact this) (qo0 1 [] [0, 4, 6, 7, 8, 9] [(15, .bool true)] (on_ (ds_ (t_ (sq_ (qa0 [] [] [(2, .slice none 0 0), (3, .bool false)] (ds_ (rt ([]) (.tuple #[.slice none 0 0, .bool false]) ?_))))))))
   have hrm := rm_bad (s_at hx10) (of_decide_eq_false q13)
   exact fun w' hw => ⟨none, 0, 0, [], [], [], by rw [hrm], SlO.nil, GotR.nil, fun h => absurd (hrm.symm.trans h) (by decide), hw.below, hw.sub (List.nil_sublist _)⟩
  ·
   refine cD (.int .i64 0) (fun args w => Tryd.call36 args w) (fun w hw => by have := ccheck_t x10.s w hg0x10 hg1x10; rw [q13] at this; exact this) (qo0 1 [] [0, 4, 6, 7, 8, 9] [(15, .bool false)] (on_ (ds_ (f_ (at_skip (ds_ (ao_ (qo0 2 [] [0, 7, 8, 9] [(16, .slice po j co), (17, .int .u32 x10.s)] (cP (fun v L' => ∃ q_ n_ c_ Y_, v = .slice q_ n_ c_ ∧ L' = List.take 0 ((Yo ++ (Yi ++ []))) ++ (Y_ ++ List.drop 0 ((Yo ++ (Yi ++ [])))) ∧ SlO 3 Y_ q_ n_ c_ (listI x10.s)) (fun args w => Tryd.call37 args w) (fun w hw => (list_t x10.s w hg0x10 (of_decide_eq_true q13) (tab_kept hT hw.below)).mono fun e w' ⟨q_, n_, c_, Y_, he, hO, hb, hY⟩ => ⟨_, _, he, ⟨q_, n_, c_, Y_, rfl, rfl, hO⟩, hw.join hb hY 0⟩) ?_)))))))))
   rintro v18 L18 ⟨q18, n18, c18, Y18, rfl, rfl, hO18⟩
   refine mo0 1 [] [0, 7, 8, 9, 16] (fun γ19 => [(19, .slice (some ⟨γ19 0, 0, none⟩) 1 1)]) (fun γ19 L => bx (γ19 0) (#[.slice q18 n18 c18]) 27 :: L) (fun γ19 => Ops.pick [[bx (γ19 0) (#[.slice q18 n18 c18]) 27], Y18, Yo, Yi] [0, 2, 1, 3] [] (bx (γ19 0) (#[.slice q18 n18 c18]) 27 :: (Yo ++ (Y18 ++ (Yi ++ [])))) (by kernel_rfl) rfl rfl (ops_append (α := IntsA) [bx (γ19 0) (#[.slice q18 n18 c18]) 27] Yo (Y18 ++ (Yi ++ [])) (.refl _) rfl (by kernel_rfl) (by kernel_rfl) (p := po) (n := j) (cap := co) (m := 1) (yv := .slice (some ⟨γ19 0, 0, none⟩) 1 1) (by kernel_rfl) (by kernel_rfl) (T := 27) (by_ := 24) (by kernel_rfl) rl ([(⟨q18, n18, c18, (listI x10.s)⟩ : IntsA)]) hO (fun w hw => src_svn Tryd.underlying42 (sv_row (hw.row 0 rfl) (by rfl)) (by rfl)) (by rfl) (by have hmx : maxLen = 9223372036854775807 := rfl; omega) (by have hmx : maxLen = 9223372036854775807 := rfl; omega) (fun Y20 p20 cap20 hO20 => qo0 1 [] [0, 7, 8, 9] [(4, .slice p20 (j + 1) cap20)] (on_ (done_block (ds_ (qa [(0, .fit)] [0, 4, 7, 8] [(9, .int .i64 (j + 1 : Nat))] ([Fit .i64 ((j + 1 : Nat))]) (al1 (fit64 (by omega) (by omega))) (Done.pick [[bx (γ19 0) (#[.slice q18 n18 c18]) 27], Y20, Y18, Yi] [1, 3, 2] [0] ((Y20 ++ (Yi ++ (Y18 ++ [])))) (by kernel_rfl) rfl rfl (Done.as (L' := (Y20 ++ ((Yi ++ Y18) ++ []))) (by simp only [List.append_assoc]) ?_)))))))))
   exact dr [0, 4, 7, 8, 9] (j + 1, Y20, p20, cap20, (rl ++ [(⟨q18, n18, c18, (listI x10.s)⟩ : IntsA)]), Yi ++ Y18) ⟨by omega, all_onT hI hx10 (of_decide_eq_true q13), hO20, GotR.snoc hG hO18, sets_add hB hx10 rfl⟩
 ·
  refine qa [(0, .no)] [0, 4, 7, 8, 9] [(10, .bool false)] ([¬ (((j : Nat) : Int) < ((m : Nat) : Int))]) (al1 q5) (ds_ (sq_ (f_ (at_leave _ rfl (ds_ (sq_ ?_))))))
  by_cases q25 : ((m : Nat) : Int) ≤ (8 : Int)
  ·
   refine qa [(3, .yes)] [] [(2, .slice po j co), (3, .bool true)] ([((m : Nat) : Int) ≤ (8 : Int)]) (al1 q25) (ds_ (rt ([]) (.tuple #[.slice po j co, .bool true]) ?_))
   exact fun w' hw => ⟨_, _, _, _, _, _, by rw [rm_end hI (by omega), decide_eq_true (by omega)], hO, hG, fun _ => by rw [hB, List.take_of_length_le (by omega)], hw.below, two_tails14 (Hs.pick [Yo, Yi] [0, 1] [] (by kernel_rfl) hw)⟩
  ·
   refine qa [(3, .no)] [] [(2, .slice po j co), (3, .bool false)] ([¬ (((m : Nat) : Int) ≤ (8 : Int))]) (al1 q25) (ds_ (rt ([]) (.tuple #[.slice po j co, .bool false]) ?_))
   exact fun w' hw => ⟨_, _, _, _, _, _, by rw [rm_end hI (by omega), decide_eq_false (by omega)], hO, hG, fun _ => by rw [hB, List.take_of_length_le (by omega)], hw.below, two_tails14 (Hs.pick [Yo, Yi] [0, 1] [] (by kernel_rfl) hw)⟩

set_option maxRecDepth 100000 in
theorem gmay_t (q : Option Addr) (m capq : Nat) (al : List CpuA) (w : World)
 (hal : Sv w q al) (hma : m = al.length) (hbm : m ≤ 1000) (hgd : ∀ x ∈ al, x.Good)
 (hT : TabAt 0 Lib.deBruijn32tab w)
 : Calls Tryd.prog 6 #[.slice q m capq] w fun e w' => e = .returned (.bool (mayM (al.map CpuA.s))) ∧ Below w.heap.size w w' := by
 refine enter (Hs.start w) Tryd.func6 rfl Tryd.ntmps6 rfl (sq_ (qa0 [] [0] [] (ds_ (sq_ (ao_ (qo0 1 [] [] [(6, .slice q m capq)] ?_))))))
 rcases q3 : rightM (al.map CpuA.s) with _ | _
 ·
  refine cP (fun v L' => ∃ q_ n_ c_ Y_ Z_ rl_, v = .tuple #[.slice q_ n_ c_, .bool false] ∧ L' = List.take 0 ([]) ++ (Y_ ++ (Z_ ++ List.drop 0 ([]))) ∧ SlO 27 Y_ q_ n_ c_ rl_ ∧ GotR 3 Z_ rl_ ∧ (rightM (al.map CpuA.s) = true → rl_.map IntsA.l = (al.map CpuA.s).map listI)) (fun args w => Tryd.call15 args w) (fun w hw => (lists_t q m capq al w (hal.kept hw.below) hma hbm hgd (tab_kept hT hw.below)).mono fun e w' ⟨q_, n_, c_, Y_, rl_, Z_, he, hO, hG, hB, hb, hY⟩ => by rw [q3] at he; exact ⟨_, _, he, ⟨q_, n_, c_, Y_, Z_, rl_, rfl, rfl, hO, hG, hB⟩, hs_re (hw.join hb hY 0)⟩) ?_
  rintro v4 L4 ⟨q4, n4, c4, Y4, Yz4, rl4, rfl, rfl, hO4, hG4, hB4⟩
  refine qo0 5 [] [] [(3, .slice q4 n4 c4), (4, .bool false)] (on_ (ds_ (sq_ (qa0 [] [] [(2, .bool false)] (ds_ (rt ([]) (.bool false) ?_))))))
  exact fun w' hw => ⟨by rw [may_bad q3], hw.below⟩
 ·
  refine cP (fun v L' => ∃ q_ n_ c_ Y_ Z_ rl_, v = .tuple #[.slice q_ n_ c_, .bool true] ∧ L' = List.take 0 ([]) ++ (Y_ ++ (Z_ ++ List.drop 0 ([]))) ∧ SlO 27 Y_ q_ n_ c_ rl_ ∧ GotR 3 Z_ rl_ ∧ (rightM (al.map CpuA.s) = true → rl_.map IntsA.l = (al.map CpuA.s).map listI)) (fun args w => Tryd.call15 args w) (fun w hw => (lists_t q m capq al w (hal.kept hw.below) hma hbm hgd (tab_kept hT hw.below)).mono fun e w' ⟨q_, n_, c_, Y_, rl_, Z_, he, hO, hG, hB, hb, hY⟩ => by rw [q3] at he; exact ⟨_, _, he, ⟨q_, n_, c_, Y_, Z_, rl_, rfl, rfl, hO, hG, hB⟩, hs_re (hw.join hb hY 0)⟩) ?_
  rintro v7 L7 ⟨q7, n7, c7, Y7, Yz7, rl7, rfl, rfl, hO7, hG7, hB7⟩
  replace hB7 := hB7 q3
  have hlr7 : rl7.length = al.length := by have := congrArg List.length hB7; simpa using this
  refine qo0 5 [] [] [(3, .slice q7 n7 c7), (4, .bool true)] (on_ (ds_ (sq_ (ao_ (qo0 3 [] [] [(11, .bool true), (12, .slice q7 n7 c7)] ?_)))))
  rcases q10 : matchV ((al.map CpuA.s).map listI) with _ | _
  ·
   refine cD (.bool false) (fun args w => Tryd.call16 args w) (fun w hw => by have := matching_t q7 n7 c7 rl7 w (SlO.sub hO7 hw (List.sublist_append_left Y7 _)) hO7.len (by have := hO7.len; have := hlr7; omega) (GotR.reads hG7 hw (List.Sublist.trans (List.sublist_append_left Yz7 _) (List.sublist_append_right Y7 _))) (by rw [hB7]; exact rows_in _); rw [hB7, q10] at this; exact this) (qo0 2 [] [] [(2, .bool false)] (on_ (ds_ (rt ([]) (.bool false) ?_))))
   exact fun w' hw => ⟨by rw [may_ok q3, q10], hw.below⟩
  ·
   refine cD (.bool true) (fun args w => Tryd.call16 args w) (fun w hw => by have := matching_t q7 n7 c7 rl7 w (SlO.sub hO7 hw (List.sublist_append_left Y7 _)) hO7.len (by have := hO7.len; have := hlr7; omega) (GotR.reads hG7 hw (List.Sublist.trans (List.sublist_append_left Yz7 _) (List.sublist_append_right Y7 _))) (by rw [hB7]; exact rows_in _); rw [hB7, q10] at this; exact this) (qo0 2 [] [] [(2, .bool true)] (on_ (ds_ (rt ([]) (.bool true) ?_))))
   exact fun w' hw => ⟨by rw [may_ok q3, q10], hw.below⟩
end Go.Proofs.YtahccegfahghfaaDoor
