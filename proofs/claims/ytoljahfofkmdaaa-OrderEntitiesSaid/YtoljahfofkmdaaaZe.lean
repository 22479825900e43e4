/- Texts of this proof, one behind the other. -/
import Derived.Test.YtoljahfofkmdaaaZc
import Derived.Test.YtoljahfofkmdaaaZb
import Derived.Laws.OwnMore
import Derived.Test.YtoljahfofkmdaaaZd
/-! Order: the entity of some runners. -/
namespace Go.Proofs.Ytoljahfofkmdaaa
open Go Go.RowKit

set_option maxRecDepth 100000 in
theorem ent1_t (p : Option Addr) (n cap : Nat) (l : List Pr) (w : World)
 (hsl : Sv w p l) (hn : n = l.length) (hb : n ≤ 1000) (h0 : 0 < n) (hU : ∀ x ∈ l, x.U)
 : Calls Try.prog 36 #[.slice p n cap] w fun e w' => ∃ q' n' c' Y, e = .returned (.agg #[.slice q' n' c', .int .u64 (entO l).t.hi, .int .u64 (entO l).t.lo, .int .u64 (entO l).t.w, .int .u64 (entO l).ord, .bool (entO l).fresh]) ∧ SlO 3 Y q' n' c' (entO l).mem ∧ Below w.heap.size w w' ∧ Hs w Y w' := by
 refine enter (Hs.start w) Try.func36 rfl Try.ntmps36 rfl (sq_ (ma0 [] [0] (fun γ1 => [(2, .pointer (some ⟨γ1 0, 0, none⟩))]) (fun γ1 L => bx (γ1 0) (#[.slice none 0 0, .int .u64 0, .int .u64 0, .int .u64 0, .int .u64 0, .bool false]) 47 :: L) (fun γ1 => ds_ (sq_ ?_))))
 obtain ⟨b2, o2, hbo2⟩ := hsl.pos (i := 0) (by omega)
 have hsv2 := hsl
 rw [hbo2] at hsv2
 obtain ⟨x3, hx3⟩ := get_some (l := l) (m := 0) (by omega)
 have hUx3 := hU x3 (List.mem_of_getElem? hx3)
 refine at_any (by kernel_rfl) ?_
 refine tk (m := 5) [0, 1, 2, 3, 5, 6, 7, 8] [(1, .at b2 o2 0), (6, .at b2 o2 0)] [0, 2] [(9, .pointer (some ⟨b2, o2 + 0 * 8 + 2, none⟩)), (14, .pointer (some ⟨b2, o2 + 0 * 8 + 6, none⟩))] ([(p : Option Addr) = some ⟨b2, o2, none⟩, 0 = ((0 : Nat) : Int), 0 < n] ++ ([(p : Option Addr) = some ⟨b2, o2, none⟩, 0 = ((0 : Nat) : Int), 0 < n])) #[true, true, true, true, false, true, true, true, true, false, false, false, false] (alA (al2 hbo2 (al2 rfl (al1 (by omega)))) (al2 hbo2 (al2 rfl (al1 (by omega))))) ?_
 refine any_cutX (V := (Nat → Nat)) (fun γ227 => True) 0 #[true, true, true, true, true, true, true, true, true, true, true, true, true] (fun γ227 => [(0, .slice p n cap), (2, .pointer (some ⟨γ1 0, 0, none⟩)), (3, .pointer (some ⟨γ227 0, 0, none⟩))]) (fun γ227 => [bx (γ227 0) (#[.slice none 0 0, .int .u64 x3.r.th, .int .u64 x3.r.tl, .int .u64 x3.r.tw, .int .u64 x3.w.ord, .bool true]) 47, bx (γ1 0) (#[.slice none 0 0, .int .u64 0, .int .u64 0, .int .u64 0, .int .u64 0, .bool false]) 47]) ?_ (fun hmx8 => ?_)
 rotate_left
 ·
  refine any_cutX (V := (Nat → Nat)) (fun γ227 => True) 1 #[true, true, true, true, true, true, true, true, true, true, true, true, false] (fun γ227 => [(0, .slice p n cap), (2, .pointer (some ⟨γ1 0, 0, none⟩)), (3, .pointer (some ⟨γ227 0, 0, none⟩)), (16, .agg #[.slice none 0 0, .int .u64 x3.r.th, .int .u64 x3.r.tl, .int .u64 x3.r.tw, .int .u64 x3.w.ord, .bool true])]) (fun γ227 => [bx (γ227 0) (#[.slice none 0 0, .int .u64 0, .int .u64 0, .int .u64 0, .int .u64 0, .bool false]) 47, bx (γ1 0) (#[.slice none 0 0, .int .u64 0, .int .u64 0, .int .u64 0, .int .u64 0, .bool false]) 47]) ?_ (fun hmx7 => ?_)
  ·
   rintro γ227 _
   refine a1 12 rfl ?_
   refine mo0 1 [(12, .go (owns 0 0 6))] [0, 2, 3] (fun _ => []) (fun _ L => (L.set 0 (bx (γ227 0) (#[.slice none 0 0, .int .u64 x3.r.th, .int .u64 x3.r.tl, .int .u64 x3.r.tw, .int .u64 x3.w.ord, .bool true]) 47))) (fun _ => ?_)
   refine od_ ?_
   exact wk (hmx8 γ227 trivial) [0, 2, 3] [[_], [_]] [0, 1] rfl rfl
  refine any_cutX (V := Unit) (fun _ => True) 2 #[true, true, true, true, true, true, true, true, true, true, true, false, false] (fun _ => [(0, .slice p n cap), (2, .pointer (some ⟨γ1 0, 0, none⟩)), (16, .agg #[.slice none 0 0, .int .u64 x3.r.th, .int .u64 x3.r.tl, .int .u64 x3.r.tw, .int .u64 x3.w.ord, .bool true])]) (fun _ => [bx (γ1 0) (#[.slice none 0 0, .int .u64 0, .int .u64 0, .int .u64 0, .int .u64 0, .bool false]) 47]) ?_ (fun hmx6 => ?_)
  ·
   rintro _ _
   refine a1 11 rfl ?_
   refine mo0 1 [] [0, 2, 16] (fun γ227 => [(3, .pointer (some ⟨γ227 0, 0, none⟩))]) (fun γ227 L => bx (γ227 0) (#[.slice none 0 0, .int .u64 0, .int .u64 0, .int .u64 0, .int .u64 0, .bool false]) 47 :: L) (fun γ227 => ?_)
   refine od_ ?_
   exact wk (hmx7 γ227 trivial) [0, 2, 3, 16] [[_], [_]] [0, 1] rfl rfl
  refine any_cutX (V := (Nat → Nat)) (fun γ227 => True) 3 #[true, true, true, true, false, true, true, true, true, true, false, true, false] (fun γ227 => [(0, .slice p n cap), (2, .pointer (some ⟨γ1 0, 0, none⟩)), (3, .pointer (some ⟨γ227 0, 0, none⟩)), (9, .pointer (some ⟨b2, o2 + 0 * 8 + 2, none⟩)), (15, .int .u64 x3.w.ord)]) (fun γ227 => [bx (γ227 0) (#[.slice none 0 0, .int .u64 0, .int .u64 0, .int .u64 0, .int .u64 0, .bool false]) 47, bx (γ1 0) (#[.slice none 0 0, .int .u64 0, .int .u64 0, .int .u64 0, .int .u64 0, .bool false]) 47]) ?_ (fun hmx5 => ?_)
  ·
   rintro γ227 _
   refine a1 4 rfl ?_
   refine qo 1 [(4, .go (outs b2 (o2 + 0 * 8 + 2) [.int .u64 x3.r.th, .int .u64 x3.r.tl, .int .u64 x3.r.tw]))] [0, 2, 3, 15] [(10, .agg #[.int .u64 x3.r.th, .int .u64 x3.r.tl, .int .u64 x3.r.tw])] (cellsP w b2 (o2 + 0 * 8 + 2) [.int .u64 x3.r.th, .int .u64 x3.r.tl, .int .u64 x3.r.tw]) (rd_part (hsv2.get hx3) 2 _ rfl) ?_
   refine od_ ?_
   refine tk (m := 1) [10] [] [0, 2, 3] [(16, .agg #[.slice none 0 0, .int .u64 x3.r.th, .int .u64 x3.r.tl, .int .u64 x3.r.tw, .int .u64 x3.w.ord, .bool true])] ([]) #[true, true, true, true, true, true, true, true, true, true, true, true, false] al0 ?_
   exact wk (hmx7 γ227 trivial) [0, 2, 3, 16] [[_], [_]] [0, 1] rfl rfl
  refine any_cutX (V := (Nat → Nat)) (fun γ227 => True) 3 #[true, true, true, true, true, true, true, true, true, false, false, true, false] (fun γ227 => [(0, .slice p n cap), (2, .pointer (some ⟨γ1 0, 0, none⟩)), (3, .pointer (some ⟨γ227 0, 0, none⟩)), (10, .agg #[.int .u64 x3.r.th, .int .u64 x3.r.tl, .int .u64 x3.r.tw]), (14, .pointer (some ⟨b2, o2 + 0 * 8 + 6, none⟩))]) (fun γ227 => [bx (γ227 0) (#[.slice none 0 0, .int .u64 0, .int .u64 0, .int .u64 0, .int .u64 0, .bool false]) 47, bx (γ1 0) (#[.slice none 0 0, .int .u64 0, .int .u64 0, .int .u64 0, .int .u64 0, .bool false]) 47]) ?_ (fun hmx4 => ?_)
  ·
   rintro γ227 _
   refine a1 9 rfl ?_
   refine qo 1 [(9, .go (outs b2 (o2 + 0 * 8 + 6) [.int .u64 x3.w.ord]))] [0, 2, 3, 10] [(15, .int .u64 x3.w.ord)] (cellsP w b2 (o2 + 0 * 8 + 6) [.int .u64 x3.w.ord]) (rd_part (hsv2.get hx3) 6 _ rfl) ?_
   refine od_ ?_
   refine tk (m := 1) [10] [] [0, 2, 3] [(16, .agg #[.slice none 0 0, .int .u64 x3.r.th, .int .u64 x3.r.tl, .int .u64 x3.r.tw, .int .u64 x3.w.ord, .bool true])] ([]) #[true, true, true, true, true, true, true, true, true, true, true, true, false] al0 ?_
   exact wk (hmx7 γ227 trivial) [0, 2, 3, 16] [[_], [_]] [0, 1] rfl rfl
  refine any_cutX (V := (Nat → Nat)) (fun γ227 => True) 4 #[true, true, true, true, false, true, true, true, true, false, false, true, false] (fun γ227 => [(0, .slice p n cap), (2, .pointer (some ⟨γ1 0, 0, none⟩)), (3, .pointer (some ⟨γ227 0, 0, none⟩)), (9, .pointer (some ⟨b2, o2 + 0 * 8 + 2, none⟩)), (14, .pointer (some ⟨b2, o2 + 0 * 8 + 6, none⟩))]) (fun γ227 => [bx (γ227 0) (#[.slice none 0 0, .int .u64 0, .int .u64 0, .int .u64 0, .int .u64 0, .bool false]) 47, bx (γ1 0) (#[.slice none 0 0, .int .u64 0, .int .u64 0, .int .u64 0, .int .u64 0, .bool false]) 47]) ?_ (fun hmx3 => ?_)
  ·
   rintro γ227 _
   refine any_fork [4, 9] (by kernel_rfl) (by simp) (each_cons _ rfl ?_ (each_cons _ rfl ?_ (each_nil)))
   ·
    refine qo 1 [(4, .go (outs b2 (o2 + 0 * 8 + 2) [.int .u64 x3.r.th, .int .u64 x3.r.tl, .int .u64 x3.r.tw]))] [0, 2, 3, 14] [(10, .agg #[.int .u64 x3.r.th, .int .u64 x3.r.tl, .int .u64 x3.r.tw])] (cellsP w b2 (o2 + 0 * 8 + 2) [.int .u64 x3.r.th, .int .u64 x3.r.tl, .int .u64 x3.r.tw]) (rd_part (hsv2.get hx3) 2 _ rfl) ?_
    refine od_ ?_
    exact wk (hmx4 γ227 trivial) [0, 2, 3, 10, 14] [[_], [_]] [0, 1] rfl rfl
   ·
    refine qo 1 [(9, .go (outs b2 (o2 + 0 * 8 + 6) [.int .u64 x3.w.ord]))] [0, 2, 3, 9] [(15, .int .u64 x3.w.ord)] (cellsP w b2 (o2 + 0 * 8 + 6) [.int .u64 x3.w.ord]) (rd_part (hsv2.get hx3) 6 _ rfl) ?_
    refine od_ ?_
    exact wk (hmx5 γ227 trivial) [0, 2, 3, 9, 15] [[_], [_]] [0, 1] rfl rfl
  refine any_cutX (V := Unit) (fun _ => True) 4 #[true, true, true, true, false, true, true, true, true, true, false, false, false] (fun _ => [(0, .slice p n cap), (2, .pointer (some ⟨γ1 0, 0, none⟩)), (9, .pointer (some ⟨b2, o2 + 0 * 8 + 2, none⟩)), (15, .int .u64 x3.w.ord)]) (fun _ => [bx (γ1 0) (#[.slice none 0 0, .int .u64 0, .int .u64 0, .int .u64 0, .int .u64 0, .bool false]) 47]) ?_ (fun hmx2 => ?_)
  ·
   rintro _ _
   refine any_fork [4, 11] (by kernel_rfl) (by simp) (each_cons _ rfl ?_ (each_cons _ rfl ?_ (each_nil)))
   ·
    refine qo 1 [(4, .go (outs b2 (o2 + 0 * 8 + 2) [.int .u64 x3.r.th, .int .u64 x3.r.tl, .int .u64 x3.r.tw]))] [0, 2, 15] [(10, .agg #[.int .u64 x3.r.th, .int .u64 x3.r.tl, .int .u64 x3.r.tw])] (cellsP w b2 (o2 + 0 * 8 + 2) [.int .u64 x3.r.th, .int .u64 x3.r.tl, .int .u64 x3.r.tw]) (rd_part (hsv2.get hx3) 2 _ rfl) ?_
    refine od_ ?_
    refine tk (m := 2) [10] [] [0, 2] [(16, .agg #[.slice none 0 0, .int .u64 x3.r.th, .int .u64 x3.r.tl, .int .u64 x3.r.tw, .int .u64 x3.w.ord, .bool true])] ([]) #[true, true, true, true, true, true, true, true, true, true, true, false, false] al0 ?_
    exact wk (hmx6 () trivial) [0, 2, 16] [[_]] [0] rfl rfl
   ·
    refine mo0 1 [] [0, 2, 9, 15] (fun γ227 => [(3, .pointer (some ⟨γ227 0, 0, none⟩))]) (fun γ227 L => bx (γ227 0) (#[.slice none 0 0, .int .u64 0, .int .u64 0, .int .u64 0, .int .u64 0, .bool false]) 47 :: L) (fun γ227 => ?_)
    refine od_ ?_
    exact wk (hmx5 γ227 trivial) [0, 2, 3, 9, 15] [[_], [_]] [0, 1] rfl rfl
  refine any_cutX (V := Unit) (fun _ => True) 4 #[true, true, true, true, true, true, true, true, true, false, false, false, false] (fun _ => [(0, .slice p n cap), (2, .pointer (some ⟨γ1 0, 0, none⟩)), (10, .agg #[.int .u64 x3.r.th, .int .u64 x3.r.tl, .int .u64 x3.r.tw]), (14, .pointer (some ⟨b2, o2 + 0 * 8 + 6, none⟩))]) (fun _ => [bx (γ1 0) (#[.slice none 0 0, .int .u64 0, .int .u64 0, .int .u64 0, .int .u64 0, .bool false]) 47]) ?_ (fun hmx1 => ?_)
  ·
   rintro _ _
   refine any_fork [9, 11] (by kernel_rfl) (by simp) (each_cons _ rfl ?_ (each_cons _ rfl ?_ (each_nil)))
   ·
    refine qo 1 [(9, .go (outs b2 (o2 + 0 * 8 + 6) [.int .u64 x3.w.ord]))] [0, 2, 10] [(15, .int .u64 x3.w.ord)] (cellsP w b2 (o2 + 0 * 8 + 6) [.int .u64 x3.w.ord]) (rd_part (hsv2.get hx3) 6 _ rfl) ?_
    refine od_ ?_
    refine tk (m := 2) [10] [] [0, 2] [(16, .agg #[.slice none 0 0, .int .u64 x3.r.th, .int .u64 x3.r.tl, .int .u64 x3.r.tw, .int .u64 x3.w.ord, .bool true])] ([]) #[true, true, true, true, true, true, true, true, true, true, true, false, false] al0 ?_
    exact wk (hmx6 () trivial) [0, 2, 16] [[_]] [0] rfl rfl
   ·
    refine mo0 1 [] [0, 2, 10, 14] (fun γ227 => [(3, .pointer (some ⟨γ227 0, 0, none⟩))]) (fun γ227 L => bx (γ227 0) (#[.slice none 0 0, .int .u64 0, .int .u64 0, .int .u64 0, .int .u64 0, .bool false]) 47 :: L) (fun γ227 => ?_)
    refine od_ ?_
    exact wk (hmx4 γ227 trivial) [0, 2, 3, 10, 14] [[_], [_]] [0, 1] rfl rfl
  refine any_fork [4, 9, 11] (by kernel_rfl) (by simp) (each_cons _ rfl ?_ (each_cons _ rfl ?_ (each_cons _ rfl ?_ (each_nil))))
  ·
   refine qo 1 [(4, .go (outs b2 (o2 + 0 * 8 + 2) [.int .u64 x3.r.th, .int .u64 x3.r.tl, .int .u64 x3.r.tw]))] [0, 2, 14] [(10, .agg #[.int .u64 x3.r.th, .int .u64 x3.r.tl, .int .u64 x3.r.tw])] (cellsP w b2 (o2 + 0 * 8 + 2) [.int .u64 x3.r.th, .int .u64 x3.r.tl, .int .u64 x3.r.tw]) (rd_part (hsv2.get hx3) 2 _ rfl) ?_
   refine od_ ?_
   exact wk (hmx1 () trivial) [0, 2, 10, 14] [[_]] [0] rfl rfl
  ·
   refine qo 1 [(9, .go (outs b2 (o2 + 0 * 8 + 6) [.int .u64 x3.w.ord]))] [0, 2, 9] [(15, .int .u64 x3.w.ord)] (cellsP w b2 (o2 + 0 * 8 + 6) [.int .u64 x3.w.ord]) (rd_part (hsv2.get hx3) 6 _ rfl) ?_
   refine od_ ?_
   exact wk (hmx2 () trivial) [0, 2, 9, 15] [[_]] [0] rfl rfl
  ·
   refine mo0 1 [] [0, 2, 9, 14] (fun γ227 => [(3, .pointer (some ⟨γ227 0, 0, none⟩))]) (fun γ227 L => bx (γ227 0) (#[.slice none 0 0, .int .u64 0, .int .u64 0, .int .u64 0, .int .u64 0, .bool false]) 47 :: L) (fun γ227 => ?_)
   refine od_ ?_
   exact wk (hmx3 γ227 trivial) [0, 2, 3, 9, 14] [[_], [_]] [0, 1] rfl rfl
 rintro γ227 _
 refine any_nil (by kernel_rfl) ?_
 refine ds_ (sq_ (sq_ (qa0 [] [2, 3] [(17, .slice p n cap), (18, .int .i64 (n : Nat)), (19, .int .i64 0)] (ds_ (at_block (at_loop (α := Nat × List Ob × Option Addr × Nat × Nat × Fq × Int × Bool) [2, 3, 17, 18, 19] (fun ⟨j, Yo, po, nu, co, f, od, fb⟩ => [(2, .pointer (some ⟨γ1 0, 0, none⟩)), (3, .pointer (some ⟨γ227 0, 0, none⟩)), (17, .slice p n cap), (18, .int .i64 (n : Nat)), (19, .int .i64 (j : Nat))]) (fun ⟨j, Yo, po, nu, co, f, od, fb⟩ => bx (γ227 0) (#[.slice po nu co, .int .u64 f.hi, .int .u64 f.lo, .int .u64 f.w, .int .u64 od, .bool fb]) 47 :: bx (γ1 0) (#[.slice none 0 0, .int .u64 0, .int .u64 0, .int .u64 0, .int .u64 0, .bool false]) 47 :: (Yo ++ [])) (fun ⟨j, Yo, po, nu, co, f, od, fb⟩ => j ≤ n ∧ nu ≤ j ∧ f.U ∧ (l.take j).foldl oneS (oneI l) = ⟨memP l j, f, od, fb⟩ ∧ SlO 3 Yo po nu co (memP l j)) (fun ⟨j, Yo, po, nu, co, f, od, fb⟩ => n - j) (0, [], none, 0, 0, x3.r.t, x3.w.ord, true) (by kernel_rfl) rfl ⟨Nat.zero_le _, Nat.le_refl _, hUx3.r.t, one_0T hx3, SlO.nil⟩ ?_))))))
 rintro ⟨j, Yo, po, nu, co, f, od, fb⟩
 rintro ⟨hj, hnu, hUf, hE, hO⟩
 refine sq_ ?_
 by_cases q314 : ((j : Nat) : Int) < ((n : Nat) : Int)
 ·
  refine qa [(0, .yes)] [2, 3, 17, 18, 19] [(20, .bool true)] ([((j : Nat) : Int) < ((n : Nat) : Int)]) (al1 q314) (ds_ (sq_ (t_ (at_skip (ds_ (sq_ (at_block (sq_ ?_))))))))
  obtain ⟨x317, hx317⟩ := get_some (l := l) (m := j) (by omega)
  have hUx317 := hU x317 (List.mem_of_getElem? hx317)
  refine ma [(0, .at b2 o2 j), (1, .go (outs b2 (o2 + j * 8) [.int .i64 x317.r.id, .int .i64 x317.r.each, .int .u64 x317.r.th, .int .u64 x317.r.tl, .int .u64 x317.r.tw, .int .i64 x317.w.id, .int .u64 x317.w.ord, .bool x317.w.fresh])), (3, .go (owns 0 0 8))] [2, 3, 17, 18, 19] (fun γ318 => [(5, .pointer (some ⟨γ318 0, 0, none⟩))]) (fun γ318 L => bx (γ318 0) (#[.int .i64 x317.r.id, .int .i64 x317.r.each, .int .u64 x317.r.th, .int .u64 x317.r.tl, .int .u64 x317.r.tw, .int .i64 x317.w.id, .int .u64 x317.w.ord, .bool x317.w.fresh]) 78 :: L) (fun γ318 => [(p : Option Addr) = some ⟨b2, o2, none⟩, (j : Nat) = ((j : Nat) : Int), j < n] ++ (cellsP w b2 (o2 + j * 8) [.int .i64 x317.r.id, .int .i64 x317.r.each, .int .u64 x317.r.th, .int .u64 x317.r.tl, .int .u64 x317.r.tw, .int .i64 x317.w.id, .int .u64 x317.w.ord, .bool x317.w.fresh])) (fun γ318 => (alA (al2 hbo2 (al2 rfl (al1 (by omega)))) (rd_pre (hsv2.get hx317) _ rfl))) (fun γ318 => ds_ (sq_ (sq_ (ao_ (qo0 5 [(2, .go (owns 0 2 3)), (4, .go (owns 1 1 3))] [2, 3, 5, 17, 18, 19] [(25, .agg #[.int .u64 x317.r.th, .int .u64 x317.r.tl, .int .u64 x317.r.tw]), (27, .agg #[.int .u64 f.hi, .int .u64 f.lo, .int .u64 f.w])] (cD (.int .i64 (cmpF x317.r.t f)) Try.call17 (fun w hw => fcmp_t x317.r.t f w hUx317.r.t hUf) ?_))))))
  by_cases q321 : ((cmpF x317.r.t f) : Int) > (0 : Int)
  ·
   refine qo 1 [(6, .yes)] [2, 3, 5, 17, 18, 19] [(29, .bool true)] ([((cmpF x317.r.t f) : Int) > (0 : Int)]) (al1 q321) (on_ (ds_ (t_ (ma0 [(2, .go (owns 0 2 3)), (4, .go (owns 1 1 3))] [2, 3, 5, 17, 18, 19] (fun _ => []) (fun _ L => (L.set 1 (bx (γ227 0) (#[.slice po nu co, .int .u64 x317.r.th, .int .u64 x317.r.tl, .int .u64 x317.r.tw, .int .u64 od, .bool fb]) 47))) (fun _ => ds_ (sq_ ?_))))))
   rcases q324 : fb with _ | _
   ·
    refine at_any (by kernel_rfl) ?_
    refine tk (m := 13) [0, 2, 3, 6] [] [2, 3, 5, 17, 18, 19] [(34, .pointer (some ⟨γ227 0, 4, none⟩)), (37, .pointer (some ⟨γ318 0, 6, none⟩)), (40, .pointer (some ⟨γ227 0, 5, none⟩))] ([]) #[true, false, true, true, false, false, true, false, false, false, false, false, false, false, false, false, false] al0 ?_
    refine any_cutX (V := Unit) (fun _ => True) 0 #[true, true, true, true, true, true, true, true, true, true, true, true, true, true, true, true, true] (fun _ => [(2, .pointer (some ⟨γ1 0, 0, none⟩)), (3, .pointer (some ⟨γ227 0, 0, none⟩)), (5, .pointer (some ⟨γ318 0, 0, none⟩)), (17, .slice p n cap), (18, .int .i64 (n : Nat)), (19, .int .i64 (j : Nat))]) (fun _ => bx (γ318 0) (#[.int .i64 x317.r.id, .int .i64 x317.r.each, .int .u64 x317.r.th, .int .u64 x317.r.tl, .int .u64 x317.r.tw, .int .i64 x317.w.id, .int .u64 x317.w.ord, .bool x317.w.fresh]) 78 :: bx (γ227 0) (#[.slice po nu co, .int .u64 x317.r.th, .int .u64 x317.r.tl, .int .u64 x317.r.tw, .int .u64 (if (x317.w.ord : Int) < (od : Int) then x317.w.ord else od), .bool false]) 47 :: bx (γ1 0) (#[.slice none 0 0, .int .u64 0, .int .u64 0, .int .u64 0, .int .u64 0, .bool false]) 47 :: (Yo ++ [])) ?_ (fun hmx14 => ?_)
    rotate_left
    ·
     refine any_cutX (V := Unit) (fun _ => True) 1 #[true, true, true, true, true, true, true, true, true, true, true, true, true, true, true, true, false] (fun _ => [(2, .pointer (some ⟨γ1 0, 0, none⟩)), (3, .pointer (some ⟨γ227 0, 0, none⟩)), (5, .pointer (some ⟨γ318 0, 0, none⟩)), (17, .slice p n cap), (18, .int .i64 (n : Nat)), (19, .int .i64 (j : Nat)), (46, .bool false), (48, .pointer (some ⟨γ227 0, 5, none⟩))]) (fun _ => bx (γ318 0) (#[.int .i64 x317.r.id, .int .i64 x317.r.each, .int .u64 x317.r.th, .int .u64 x317.r.tl, .int .u64 x317.r.tw, .int .i64 x317.w.id, .int .u64 x317.w.ord, .bool x317.w.fresh]) 78 :: bx (γ227 0) (#[.slice po nu co, .int .u64 x317.r.th, .int .u64 x317.r.tl, .int .u64 x317.r.tw, .int .u64 (if (x317.w.ord : Int) < (od : Int) then x317.w.ord else od), .bool false]) 47 :: bx (γ1 0) (#[.slice none 0 0, .int .u64 0, .int .u64 0, .int .u64 0, .int .u64 0, .bool false]) 47 :: (Yo ++ [])) ?_ (fun hmx13 => ?_)
     ·
      rintro _ _
      refine a1 16 rfl ?_
      refine qo0 1 [(16, .go (owns 1 5 1))] [2, 3, 5, 17, 18, 19] [] ?_
      refine od_ ?_
      exact wk (hmx14 () trivial) [2, 3, 5, 17, 18, 19] [[_], [_], [_], _] [0, 1, 2, 3] rfl rfl
     refine any_cutX (V := Unit) (fun _ => True) 3 #[true, true, true, true, true, true, true, true, true, true, true, true, true, true, false, false, false] (fun _ => [(2, .pointer (some ⟨γ1 0, 0, none⟩)), (3, .pointer (some ⟨γ227 0, 0, none⟩)), (5, .pointer (some ⟨γ318 0, 0, none⟩)), (17, .slice p n cap), (18, .int .i64 (n : Nat)), (19, .int .i64 (j : Nat)), (39, .int .u64 (if (x317.w.ord : Int) < (od : Int) then x317.w.ord else od)), (46, .bool false), (47, .pointer (some ⟨γ227 0, 4, none⟩))]) (fun _ => bx (γ318 0) (#[.int .i64 x317.r.id, .int .i64 x317.r.each, .int .u64 x317.r.th, .int .u64 x317.r.tl, .int .u64 x317.r.tw, .int .i64 x317.w.id, .int .u64 x317.w.ord, .bool x317.w.fresh]) 78 :: bx (γ227 0) (#[.slice po nu co, .int .u64 x317.r.th, .int .u64 x317.r.tl, .int .u64 x317.r.tw, .int .u64 od, .bool false]) 47 :: bx (γ1 0) (#[.slice none 0 0, .int .u64 0, .int .u64 0, .int .u64 0, .int .u64 0, .bool false]) 47 :: (Yo ++ [])) ?_ (fun hmx12 => ?_)
     ·
      rintro _ _
      refine a1 14 rfl ?_
      refine mo0 1 [(14, .go (owns 1 4 1))] [2, 3, 5, 17, 18, 19, 46] (fun _ => []) (fun _ L => (L.set 1 (bx (γ227 0) (#[.slice po nu co, .int .u64 x317.r.th, .int .u64 x317.r.tl, .int .u64 x317.r.tw, .int .u64 (if (x317.w.ord : Int) < (od : Int) then x317.w.ord else od), .bool false]) 47))) (fun _ => ?_)
      refine od_ ?_
      refine tk (m := 1) [15] [] [2, 3, 5, 17, 18, 19, 46] [(48, .pointer (some ⟨γ227 0, 5, none⟩))] ([]) #[true, true, true, true, true, true, true, true, true, true, true, true, true, true, true, true, false] al0 ?_
      exact wk (hmx13 () trivial) [2, 3, 5, 17, 18, 19, 46, 48] [[_], [_], [_], _] [0, 1, 2, 3] rfl rfl
     refine any_cutX (V := Unit) (fun _ => True) 4 #[true, true, true, true, true, true, true, true, true, true, true, false, false, true, true, false, false] (fun _ => [(2, .pointer (some ⟨γ1 0, 0, none⟩)), (3, .pointer (some ⟨γ227 0, 0, none⟩)), (5, .pointer (some ⟨γ318 0, 0, none⟩)), (17, .slice p n cap), (18, .int .i64 (n : Nat)), (19, .int .i64 (j : Nat)), (42, .bool false), (44, undef)]) (fun _ => bx (γ318 0) (#[.int .i64 x317.r.id, .int .i64 x317.r.each, .int .u64 x317.r.th, .int .u64 x317.r.tl, .int .u64 x317.r.tw, .int .i64 x317.w.id, .int .u64 x317.w.ord, .bool x317.w.fresh]) 78 :: bx (γ227 0) (#[.slice po nu co, .int .u64 x317.r.th, .int .u64 x317.r.tl, .int .u64 x317.r.tw, .int .u64 (if (x317.w.ord : Int) < (od : Int) then x317.w.ord else od), .bool false]) 47 :: bx (γ1 0) (#[.slice none 0 0, .int .u64 0, .int .u64 0, .int .u64 0, .int .u64 0, .bool false]) 47 :: (Yo ++ [])) ?_ (fun hmx11 => ?_)
     ·
      rintro _ _
      refine a1 11 rfl ?_
      refine qo0 1 [] [2, 3, 5, 17, 18, 19, 42] [(45, undef)] ?_
      refine od_ ?_
      refine tk (m := 1) [12, 15] [] [2, 3, 5, 17, 18, 19] [(46, .bool false), (48, .pointer (some ⟨γ227 0, 5, none⟩))] ([]) #[true, true, true, true, true, true, true, true, true, true, true, true, true, true, true, true, false] al0 ?_
      exact wk (hmx13 () trivial) [2, 3, 5, 17, 18, 19, 46, 48] [[_], [_], [_], _] [0, 1, 2, 3] rfl rfl
     refine any_cutX (V := Unit) (fun _ => True) 5 #[true, true, true, true, true, true, true, true, true, true, true, false, false, true, false, false, false] (fun _ => [(2, .pointer (some ⟨γ1 0, 0, none⟩)), (3, .pointer (some ⟨γ227 0, 0, none⟩)), (5, .pointer (some ⟨γ318 0, 0, none⟩)), (17, .slice p n cap), (18, .int .i64 (n : Nat)), (19, .int .i64 (j : Nat)), (39, .int .u64 (if (x317.w.ord : Int) < (od : Int) then x317.w.ord else od)), (42, .bool false), (44, undef), (47, .pointer (some ⟨γ227 0, 4, none⟩))]) (fun _ => bx (γ318 0) (#[.int .i64 x317.r.id, .int .i64 x317.r.each, .int .u64 x317.r.th, .int .u64 x317.r.tl, .int .u64 x317.r.tw, .int .i64 x317.w.id, .int .u64 x317.w.ord, .bool x317.w.fresh]) 78 :: bx (γ227 0) (#[.slice po nu co, .int .u64 x317.r.th, .int .u64 x317.r.tl, .int .u64 x317.r.tw, .int .u64 od, .bool false]) 47 :: bx (γ1 0) (#[.slice none 0 0, .int .u64 0, .int .u64 0, .int .u64 0, .int .u64 0, .bool false]) 47 :: (Yo ++ [])) ?_ (fun hmx10 => ?_)
     ·
      rintro _ _
      refine any_fork [11, 14] (by kernel_rfl) (by simp) (each_cons _ rfl ?_ (each_cons _ rfl ?_ (each_nil)))
      ·
       refine qo0 1 [] [2, 3, 5, 17, 18, 19, 39, 42, 47] [(45, undef)] ?_
       refine od_ ?_
       refine tk (m := 3) [12] [] [2, 3, 5, 17, 18, 19, 39, 47] [(46, .bool false)] ([]) #[true, true, true, true, true, true, true, true, true, true, true, true, true, true, false, false, false] al0 ?_
       exact wk (hmx12 () trivial) [2, 3, 5, 17, 18, 19, 39, 46, 47] [[_], [_], [_], _] [0, 1, 2, 3] rfl rfl
      ·
       refine mo0 1 [(14, .go (owns 1 4 1))] [2, 3, 5, 17, 18, 19, 42, 44] (fun _ => []) (fun _ L => (L.set 1 (bx (γ227 0) (#[.slice po nu co, .int .u64 x317.r.th, .int .u64 x317.r.tl, .int .u64 x317.r.tw, .int .u64 (if (x317.w.ord : Int) < (od : Int) then x317.w.ord else od), .bool false]) 47))) (fun _ => ?_)
       refine od_ ?_
       exact wk (hmx11 () trivial) [2, 3, 5, 17, 18, 19, 42, 44] [[_], [_], [_], _] [0, 1, 2, 3] rfl rfl
     refine any_cutX (V := Unit) (fun _ => True) 6 #[true, false, true, true, true, false, true, true, true, true, true, true, true, false, false, false, false] (fun _ => [(2, .pointer (some ⟨γ1 0, 0, none⟩)), (3, .pointer (some ⟨γ227 0, 0, none⟩)), (5, .pointer (some ⟨γ318 0, 0, none⟩)), (17, .slice p n cap), (18, .int .i64 (n : Nat)), (19, .int .i64 (j : Nat)), (34, .pointer (some ⟨γ227 0, 4, none⟩)), (38, .int .u64 x317.w.ord), (46, .bool false)]) (fun _ => bx (γ318 0) (#[.int .i64 x317.r.id, .int .i64 x317.r.each, .int .u64 x317.r.th, .int .u64 x317.r.tl, .int .u64 x317.r.tw, .int .i64 x317.w.id, .int .u64 x317.w.ord, .bool x317.w.fresh]) 78 :: bx (γ227 0) (#[.slice po nu co, .int .u64 x317.r.th, .int .u64 x317.r.tl, .int .u64 x317.r.tw, .int .u64 od, .bool false]) 47 :: bx (γ1 0) (#[.slice none 0 0, .int .u64 0, .int .u64 0, .int .u64 0, .int .u64 0, .bool false]) 47 :: (Yo ++ [])) ?_ (fun hmx9 => ?_)
     ·
      rintro _ _
      refine a1 1 rfl ?_
      refine qo0 1 [(1, .go (owns 1 4 1))] [2, 3, 5, 17, 18, 19, 38, 46] [(35, .int .u64 od)] ?_
      refine od_ ?_
      refine tk (m := 3) [5, 13] [] [2, 3, 5, 17, 18, 19, 46] [(39, .int .u64 (if (x317.w.ord : Int) < (od : Int) then x317.w.ord else od)), (47, .pointer (some ⟨γ227 0, 4, none⟩))] ([]) #[true, true, true, true, true, true, true, true, true, true, true, true, true, true, false, false, false] al0 ?_
      exact wk (hmx12 () trivial) [2, 3, 5, 17, 18, 19, 39, 46, 47] [[_], [_], [_], _] [0, 1, 2, 3] rfl rfl
     refine any_cutX (V := Unit) (fun _ => True) 6 #[true, true, true, true, false, false, true, true, true, true, true, true, true, false, false, false, false] (fun _ => [(2, .pointer (some ⟨γ1 0, 0, none⟩)), (3, .pointer (some ⟨γ227 0, 0, none⟩)), (5, .pointer (some ⟨γ318 0, 0, none⟩)), (17, .slice p n cap), (18, .int .i64 (n : Nat)), (19, .int .i64 (j : Nat)), (35, .int .u64 od), (37, .pointer (some ⟨γ318 0, 6, none⟩)), (46, .bool false)]) (fun _ => bx (γ318 0) (#[.int .i64 x317.r.id, .int .i64 x317.r.each, .int .u64 x317.r.th, .int .u64 x317.r.tl, .int .u64 x317.r.tw, .int .i64 x317.w.id, .int .u64 x317.w.ord, .bool x317.w.fresh]) 78 :: bx (γ227 0) (#[.slice po nu co, .int .u64 x317.r.th, .int .u64 x317.r.tl, .int .u64 x317.r.tw, .int .u64 od, .bool false]) 47 :: bx (γ1 0) (#[.slice none 0 0, .int .u64 0, .int .u64 0, .int .u64 0, .int .u64 0, .bool false]) 47 :: (Yo ++ [])) ?_ (fun hmx8 => ?_)
     ·
      rintro _ _
      refine a1 4 rfl ?_
      refine qo0 1 [(4, .go (owns 0 6 1))] [2, 3, 5, 17, 18, 19, 35, 46] [(38, .int .u64 x317.w.ord)] ?_
      refine od_ ?_
      refine tk (m := 3) [5, 13] [] [2, 3, 5, 17, 18, 19, 46] [(39, .int .u64 (if (x317.w.ord : Int) < (od : Int) then x317.w.ord else od)), (47, .pointer (some ⟨γ227 0, 4, none⟩))] ([]) #[true, true, true, true, true, true, true, true, true, true, true, true, true, true, false, false, false] al0 ?_
      exact wk (hmx12 () trivial) [2, 3, 5, 17, 18, 19, 39, 46, 47] [[_], [_], [_], _] [0, 1, 2, 3] rfl rfl
     refine any_cutX (V := Unit) (fun _ => True) 7 #[true, false, true, true, false, false, true, true, true, true, true, true, true, false, false, false, false] (fun _ => [(2, .pointer (some ⟨γ1 0, 0, none⟩)), (3, .pointer (some ⟨γ227 0, 0, none⟩)), (5, .pointer (some ⟨γ318 0, 0, none⟩)), (17, .slice p n cap), (18, .int .i64 (n : Nat)), (19, .int .i64 (j : Nat)), (34, .pointer (some ⟨γ227 0, 4, none⟩)), (37, .pointer (some ⟨γ318 0, 6, none⟩)), (46, .bool false)]) (fun _ => bx (γ318 0) (#[.int .i64 x317.r.id, .int .i64 x317.r.each, .int .u64 x317.r.th, .int .u64 x317.r.tl, .int .u64 x317.r.tw, .int .i64 x317.w.id, .int .u64 x317.w.ord, .bool x317.w.fresh]) 78 :: bx (γ227 0) (#[.slice po nu co, .int .u64 x317.r.th, .int .u64 x317.r.tl, .int .u64 x317.r.tw, .int .u64 od, .bool false]) 47 :: bx (γ1 0) (#[.slice none 0 0, .int .u64 0, .int .u64 0, .int .u64 0, .int .u64 0, .bool false]) 47 :: (Yo ++ [])) ?_ (fun hmx7 => ?_)
     ·
      rintro _ _
      refine any_fork [1, 4] (by kernel_rfl) (by simp) (each_cons _ rfl ?_ (each_cons _ rfl ?_ (each_nil)))
      ·
       refine qo0 1 [(1, .go (owns 1 4 1))] [2, 3, 5, 17, 18, 19, 37, 46] [(35, .int .u64 od)] ?_
       refine od_ ?_
       exact wk (hmx8 () trivial) [2, 3, 5, 17, 18, 19, 35, 37, 46] [[_], [_], [_], _] [0, 1, 2, 3] rfl rfl
      ·
       refine qo0 1 [(4, .go (owns 0 6 1))] [2, 3, 5, 17, 18, 19, 34, 46] [(38, .int .u64 x317.w.ord)] ?_
       refine od_ ?_
       exact wk (hmx9 () trivial) [2, 3, 5, 17, 18, 19, 34, 38, 46] [[_], [_], [_], _] [0, 1, 2, 3] rfl rfl
     refine any_cutX (V := Unit) (fun _ => True) 8 #[true, false, true, true, true, false, true, true, true, true, true, false, false, false, false, false, false] (fun _ => [(2, .pointer (some ⟨γ1 0, 0, none⟩)), (3, .pointer (some ⟨γ227 0, 0, none⟩)), (5, .pointer (some ⟨γ318 0, 0, none⟩)), (17, .slice p n cap), (18, .int .i64 (n : Nat)), (19, .int .i64 (j : Nat)), (34, .pointer (some ⟨γ227 0, 4, none⟩)), (38, .int .u64 x317.w.ord), (42, .bool false), (44, undef)]) (fun _ => bx (γ318 0) (#[.int .i64 x317.r.id, .int .i64 x317.r.each, .int .u64 x317.r.th, .int .u64 x317.r.tl, .int .u64 x317.r.tw, .int .i64 x317.w.id, .int .u64 x317.w.ord, .bool x317.w.fresh]) 78 :: bx (γ227 0) (#[.slice po nu co, .int .u64 x317.r.th, .int .u64 x317.r.tl, .int .u64 x317.r.tw, .int .u64 od, .bool false]) 47 :: bx (γ1 0) (#[.slice none 0 0, .int .u64 0, .int .u64 0, .int .u64 0, .int .u64 0, .bool false]) 47 :: (Yo ++ [])) ?_ (fun hmx6 => ?_)
     ·
      rintro _ _
      refine any_fork [1, 11] (by kernel_rfl) (by simp) (each_cons _ rfl ?_ (each_cons _ rfl ?_ (each_nil)))
      ·
       refine qo0 1 [(1, .go (owns 1 4 1))] [2, 3, 5, 17, 18, 19, 38, 42, 44] [(35, .int .u64 od)] ?_
       refine od_ ?_
       refine tk (m := 5) [5, 13] [] [2, 3, 5, 17, 18, 19, 42, 44] [(39, .int .u64 (if (x317.w.ord : Int) < (od : Int) then x317.w.ord else od)), (47, .pointer (some ⟨γ227 0, 4, none⟩))] ([]) #[true, true, true, true, true, true, true, true, true, true, true, false, false, true, false, false, false] al0 ?_
       exact wk (hmx10 () trivial) [2, 3, 5, 17, 18, 19, 39, 42, 44, 47] [[_], [_], [_], _] [0, 1, 2, 3] rfl rfl
      ·
       refine qo0 1 [] [2, 3, 5, 17, 18, 19, 34, 38, 42] [(45, undef)] ?_
       refine od_ ?_
       refine tk (m := 6) [12] [] [2, 3, 5, 17, 18, 19, 34, 38] [(46, .bool false)] ([]) #[true, false, true, true, true, false, true, true, true, true, true, true, true, false, false, false, false] al0 ?_
       exact wk (hmx9 () trivial) [2, 3, 5, 17, 18, 19, 34, 38, 46] [[_], [_], [_], _] [0, 1, 2, 3] rfl rfl
     refine any_cutX (V := Unit) (fun _ => True) 8 #[true, true, true, true, false, false, true, true, true, true, true, false, false, false, false, false, false] (fun _ => [(2, .pointer (some ⟨γ1 0, 0, none⟩)), (3, .pointer (some ⟨γ227 0, 0, none⟩)), (5, .pointer (some ⟨γ318 0, 0, none⟩)), (17, .slice p n cap), (18, .int .i64 (n : Nat)), (19, .int .i64 (j : Nat)), (35, .int .u64 od), (37, .pointer (some ⟨γ318 0, 6, none⟩)), (42, .bool false), (44, undef)]) (fun _ => bx (γ318 0) (#[.int .i64 x317.r.id, .int .i64 x317.r.each, .int .u64 x317.r.th, .int .u64 x317.r.tl, .int .u64 x317.r.tw, .int .i64 x317.w.id, .int .u64 x317.w.ord, .bool x317.w.fresh]) 78 :: bx (γ227 0) (#[.slice po nu co, .int .u64 x317.r.th, .int .u64 x317.r.tl, .int .u64 x317.r.tw, .int .u64 od, .bool false]) 47 :: bx (γ1 0) (#[.slice none 0 0, .int .u64 0, .int .u64 0, .int .u64 0, .int .u64 0, .bool false]) 47 :: (Yo ++ [])) ?_ (fun hmx5 => ?_)
     ·
      rintro _ _
      refine any_fork [4, 11] (by kernel_rfl) (by simp) (each_cons _ rfl ?_ (each_cons _ rfl ?_ (each_nil)))
      ·
       refine qo0 1 [(4, .go (owns 0 6 1))] [2, 3, 5, 17, 18, 19, 35, 42, 44] [(38, .int .u64 x317.w.ord)] ?_
       refine od_ ?_
       refine tk (m := 5) [5, 13] [] [2, 3, 5, 17, 18, 19, 42, 44] [(39, .int .u64 (if (x317.w.ord : Int) < (od : Int) then x317.w.ord else od)), (47, .pointer (some ⟨γ227 0, 4, none⟩))] ([]) #[true, true, true, true, true, true, true, true, true, true, true, false, false, true, false, false, false] al0 ?_
       exact wk (hmx10 () trivial) [2, 3, 5, 17, 18, 19, 39, 42, 44, 47] [[_], [_], [_], _] [0, 1, 2, 3] rfl rfl
      ·
       refine qo0 1 [] [2, 3, 5, 17, 18, 19, 35, 37, 42] [(45, undef)] ?_
       refine od_ ?_
       refine tk (m := 6) [12] [] [2, 3, 5, 17, 18, 19, 35, 37] [(46, .bool false)] ([]) #[true, true, true, true, false, false, true, true, true, true, true, true, true, false, false, false, false] al0 ?_
       exact wk (hmx8 () trivial) [2, 3, 5, 17, 18, 19, 35, 37, 46] [[_], [_], [_], _] [0, 1, 2, 3] rfl rfl
     refine any_cutX (V := Unit) (fun _ => True) 9 #[true, false, true, true, false, false, true, true, true, true, true, false, false, false, false, false, false] (fun _ => [(2, .pointer (some ⟨γ1 0, 0, none⟩)), (3, .pointer (some ⟨γ227 0, 0, none⟩)), (5, .pointer (some ⟨γ318 0, 0, none⟩)), (17, .slice p n cap), (18, .int .i64 (n : Nat)), (19, .int .i64 (j : Nat)), (34, .pointer (some ⟨γ227 0, 4, none⟩)), (37, .pointer (some ⟨γ318 0, 6, none⟩)), (42, .bool false), (44, undef)]) (fun _ => bx (γ318 0) (#[.int .i64 x317.r.id, .int .i64 x317.r.each, .int .u64 x317.r.th, .int .u64 x317.r.tl, .int .u64 x317.r.tw, .int .i64 x317.w.id, .int .u64 x317.w.ord, .bool x317.w.fresh]) 78 :: bx (γ227 0) (#[.slice po nu co, .int .u64 x317.r.th, .int .u64 x317.r.tl, .int .u64 x317.r.tw, .int .u64 od, .bool false]) 47 :: bx (γ1 0) (#[.slice none 0 0, .int .u64 0, .int .u64 0, .int .u64 0, .int .u64 0, .bool false]) 47 :: (Yo ++ [])) ?_ (fun hmx4 => ?_)
     ·
      rintro _ _
      refine any_fork [1, 4, 11] (by kernel_rfl) (by simp) (each_cons _ rfl ?_ (each_cons _ rfl ?_ (each_cons _ rfl ?_ (each_nil))))
      ·
       refine qo0 1 [(1, .go (owns 1 4 1))] [2, 3, 5, 17, 18, 19, 37, 42, 44] [(35, .int .u64 od)] ?_
       refine od_ ?_
       exact wk (hmx5 () trivial) [2, 3, 5, 17, 18, 19, 35, 37, 42, 44] [[_], [_], [_], _] [0, 1, 2, 3] rfl rfl
      ·
       refine qo0 1 [(4, .go (owns 0 6 1))] [2, 3, 5, 17, 18, 19, 34, 42, 44] [(38, .int .u64 x317.w.ord)] ?_
       refine od_ ?_
       exact wk (hmx6 () trivial) [2, 3, 5, 17, 18, 19, 34, 38, 42, 44] [[_], [_], [_], _] [0, 1, 2, 3] rfl rfl
      ·
       refine qo0 1 [] [2, 3, 5, 17, 18, 19, 34, 37, 42] [(45, undef)] ?_
       refine od_ ?_
       refine tk (m := 7) [12] [] [2, 3, 5, 17, 18, 19, 34, 37] [(46, .bool false)] ([]) #[true, false, true, true, false, false, true, true, true, true, true, true, true, false, false, false, false] al0 ?_
       exact wk (hmx7 () trivial) [2, 3, 5, 17, 18, 19, 34, 37, 46] [[_], [_], [_], _] [0, 1, 2, 3] rfl rfl
     refine any_cutX (V := Unit) (fun _ => True) 10 #[true, true, true, true, true, true, true, false, false, false, false, false, false, false, false, false, false] (fun _ => [(2, .pointer (some ⟨γ1 0, 0, none⟩)), (3, .pointer (some ⟨γ227 0, 0, none⟩)), (5, .pointer (some ⟨γ318 0, 0, none⟩)), (17, .slice p n cap), (18, .int .i64 (n : Nat)), (19, .int .i64 (j : Nat)), (39, .int .u64 (if (x317.w.ord : Int) < (od : Int) then x317.w.ord else od)), (40, .pointer (some ⟨γ227 0, 5, none⟩))]) (fun _ => bx (γ318 0) (#[.int .i64 x317.r.id, .int .i64 x317.r.each, .int .u64 x317.r.th, .int .u64 x317.r.tl, .int .u64 x317.r.tw, .int .i64 x317.w.id, .int .u64 x317.w.ord, .bool x317.w.fresh]) 78 :: bx (γ227 0) (#[.slice po nu co, .int .u64 x317.r.th, .int .u64 x317.r.tl, .int .u64 x317.r.tw, .int .u64 od, .bool false]) 47 :: bx (γ1 0) (#[.slice none 0 0, .int .u64 0, .int .u64 0, .int .u64 0, .int .u64 0, .bool false]) 47 :: (Yo ++ [])) ?_ (fun hmx3 => ?_)
     ·
      rintro _ _
      refine a1 7 rfl ?_
      refine qo0 1 [(7, .go (owns 1 5 1))] [2, 3, 5, 17, 18, 19, 39] [(41, .bool false)] ?_
      refine od_ ?_
      refine tk (m := 5) [8, 9, 10, 13] [] [2, 3, 5, 17, 18, 19, 39] [(42, .bool false), (44, undef), (47, .pointer (some ⟨γ227 0, 4, none⟩))] ([]) #[true, true, true, true, true, true, true, true, true, true, true, false, false, true, false, false, false] al0 ?_
      exact wk (hmx10 () trivial) [2, 3, 5, 17, 18, 19, 39, 42, 44, 47] [[_], [_], [_], _] [0, 1, 2, 3] rfl rfl
     refine any_cutX (V := Unit) (fun _ => True) 12 #[true, false, true, true, true, false, true, false, false, false, false, false, false, false, false, false, false] (fun _ => [(2, .pointer (some ⟨γ1 0, 0, none⟩)), (3, .pointer (some ⟨γ227 0, 0, none⟩)), (5, .pointer (some ⟨γ318 0, 0, none⟩)), (17, .slice p n cap), (18, .int .i64 (n : Nat)), (19, .int .i64 (j : Nat)), (34, .pointer (some ⟨γ227 0, 4, none⟩)), (38, .int .u64 x317.w.ord), (40, .pointer (some ⟨γ227 0, 5, none⟩))]) (fun _ => bx (γ318 0) (#[.int .i64 x317.r.id, .int .i64 x317.r.each, .int .u64 x317.r.th, .int .u64 x317.r.tl, .int .u64 x317.r.tw, .int .i64 x317.w.id, .int .u64 x317.w.ord, .bool x317.w.fresh]) 78 :: bx (γ227 0) (#[.slice po nu co, .int .u64 x317.r.th, .int .u64 x317.r.tl, .int .u64 x317.r.tw, .int .u64 od, .bool false]) 47 :: bx (γ1 0) (#[.slice none 0 0, .int .u64 0, .int .u64 0, .int .u64 0, .int .u64 0, .bool false]) 47 :: (Yo ++ [])) ?_ (fun hmx2 => ?_)
     ·
      rintro _ _
      refine any_fork [1, 7] (by kernel_rfl) (by simp) (each_cons _ rfl ?_ (each_cons _ rfl ?_ (each_nil)))
      ·
       refine qo0 1 [(1, .go (owns 1 4 1))] [2, 3, 5, 17, 18, 19, 38, 40] [(35, .int .u64 od)] ?_
       refine od_ ?_
       refine tk (m := 10) [5] [] [2, 3, 5, 17, 18, 19, 40] [(39, .int .u64 (if (x317.w.ord : Int) < (od : Int) then x317.w.ord else od))] ([]) #[true, true, true, true, true, true, true, false, false, false, false, false, false, false, false, false, false] al0 ?_
       exact wk (hmx3 () trivial) [2, 3, 5, 17, 18, 19, 39, 40] [[_], [_], [_], _] [0, 1, 2, 3] rfl rfl
      ·
       refine qo0 1 [(7, .go (owns 1 5 1))] [2, 3, 5, 17, 18, 19, 34, 38] [(41, .bool false)] ?_
       refine od_ ?_
       refine tk (m := 8) [8, 9, 10] [] [2, 3, 5, 17, 18, 19, 34, 38] [(42, .bool false), (44, undef)] ([]) #[true, false, true, true, true, false, true, true, true, true, true, false, false, false, false, false, false] al0 ?_
       exact wk (hmx6 () trivial) [2, 3, 5, 17, 18, 19, 34, 38, 42, 44] [[_], [_], [_], _] [0, 1, 2, 3] rfl rfl
     refine any_cutX (V := Unit) (fun _ => True) 12 #[true, true, true, true, false, false, true, false, false, false, false, false, false, false, false, false, false] (fun _ => [(2, .pointer (some ⟨γ1 0, 0, none⟩)), (3, .pointer (some ⟨γ227 0, 0, none⟩)), (5, .pointer (some ⟨γ318 0, 0, none⟩)), (17, .slice p n cap), (18, .int .i64 (n : Nat)), (19, .int .i64 (j : Nat)), (35, .int .u64 od), (37, .pointer (some ⟨γ318 0, 6, none⟩)), (40, .pointer (some ⟨γ227 0, 5, none⟩))]) (fun _ => bx (γ318 0) (#[.int .i64 x317.r.id, .int .i64 x317.r.each, .int .u64 x317.r.th, .int .u64 x317.r.tl, .int .u64 x317.r.tw, .int .i64 x317.w.id, .int .u64 x317.w.ord, .bool x317.w.fresh]) 78 :: bx (γ227 0) (#[.slice po nu co, .int .u64 x317.r.th, .int .u64 x317.r.tl, .int .u64 x317.r.tw, .int .u64 od, .bool false]) 47 :: bx (γ1 0) (#[.slice none 0 0, .int .u64 0, .int .u64 0, .int .u64 0, .int .u64 0, .bool false]) 47 :: (Yo ++ [])) ?_ (fun hmx1 => ?_)
     ·
      rintro _ _
      refine any_fork [4, 7] (by kernel_rfl) (by simp) (each_cons _ rfl ?_ (each_cons _ rfl ?_ (each_nil)))
      ·
       refine qo0 1 [(4, .go (owns 0 6 1))] [2, 3, 5, 17, 18, 19, 35, 40] [(38, .int .u64 x317.w.ord)] ?_
       refine od_ ?_
       refine tk (m := 10) [5] [] [2, 3, 5, 17, 18, 19, 40] [(39, .int .u64 (if (x317.w.ord : Int) < (od : Int) then x317.w.ord else od))] ([]) #[true, true, true, true, true, true, true, false, false, false, false, false, false, false, false, false, false] al0 ?_
       exact wk (hmx3 () trivial) [2, 3, 5, 17, 18, 19, 39, 40] [[_], [_], [_], _] [0, 1, 2, 3] rfl rfl
      ·
       refine qo0 1 [(7, .go (owns 1 5 1))] [2, 3, 5, 17, 18, 19, 35, 37] [(41, .bool false)] ?_
       refine od_ ?_
       refine tk (m := 8) [8, 9, 10] [] [2, 3, 5, 17, 18, 19, 35, 37] [(42, .bool false), (44, undef)] ([]) #[true, true, true, true, false, false, true, true, true, true, true, false, false, false, false, false, false] al0 ?_
       exact wk (hmx5 () trivial) [2, 3, 5, 17, 18, 19, 35, 37, 42, 44] [[_], [_], [_], _] [0, 1, 2, 3] rfl rfl
     refine any_fork [1, 4, 7] (by kernel_rfl) (by simp) (each_cons _ rfl ?_ (each_cons _ rfl ?_ (each_cons _ rfl ?_ (each_nil))))
     ·
      refine qo0 1 [(1, .go (owns 1 4 1))] [2, 3, 5, 17, 18, 19, 37, 40] [(35, .int .u64 od)] ?_
      refine od_ ?_
      exact wk (hmx1 () trivial) [2, 3, 5, 17, 18, 19, 35, 37, 40] [[_], [_], [_], _] [0, 1, 2, 3] rfl rfl
     ·
      refine qo0 1 [(4, .go (owns 0 6 1))] [2, 3, 5, 17, 18, 19, 34, 40] [(38, .int .u64 x317.w.ord)] ?_
      refine od_ ?_
      exact wk (hmx2 () trivial) [2, 3, 5, 17, 18, 19, 34, 38, 40] [[_], [_], [_], _] [0, 1, 2, 3] rfl rfl
     ·
      refine qo0 1 [(7, .go (owns 1 5 1))] [2, 3, 5, 17, 18, 19, 34, 37] [(41, .bool false)] ?_
      refine od_ ?_
      refine tk (m := 9) [8, 9, 10] [] [2, 3, 5, 17, 18, 19, 34, 37] [(42, .bool false), (44, undef)] ([]) #[true, false, true, true, false, false, true, true, true, true, true, false, false, false, false, false, false] al0 ?_
      exact wk (hmx4 () trivial) [2, 3, 5, 17, 18, 19, 34, 37, 42, 44] [[_], [_], [_], _] [0, 1, 2, 3] rfl rfl
    rintro _ _
    refine any_nil (by kernel_rfl) ?_
    refine ds_ (ao_ (mo0 6 [(1, .go (owns 1 0 1)), (4, .go (owns 0 0 1))] [2, 3, 17, 18, 19] (fun γ733 => [(50, .slice po nu co), (54, .slice (some ⟨γ733 0, 0, none⟩) 1 1)]) (fun γ733 L => bx (γ733 0) (#[.int .i64 x317.r.id]) 3 :: L) (fun γ733 => ops_append (α := Int) [bx (γ733 0) (#[.int .i64 x317.r.id]) 3, bx (γ318 0) (#[.int .i64 x317.r.id, .int .i64 x317.r.each, .int .u64 x317.r.th, .int .u64 x317.r.tl, .int .u64 x317.r.tw, .int .i64 x317.w.id, .int .u64 x317.w.ord, .bool x317.w.fresh]) 78, bx (γ227 0) (#[.slice po nu co, .int .u64 x317.r.th, .int .u64 x317.r.tl, .int .u64 x317.r.tw, .int .u64 (if (x317.w.ord : Int) < (od : Int) then x317.w.ord else od), .bool false]) 47, bx (γ1 0) (#[.slice none 0 0, .int .u64 0, .int .u64 0, .int .u64 0, .int .u64 0, .bool false]) 47] Yo ([]) (.refl _) rfl (by kernel_rfl) (by kernel_rfl) (p := po) (n := nu) (cap := co) (m := 1) (yv := .slice (some ⟨γ733 0, 0, none⟩) 1 1) (by kernel_rfl) (by kernel_rfl) (T := 3) (by_ := 8) (by kernel_rfl) (memP l j) ([x317.r.id]) hO (fun w hw => src_svn Try.underlying40 (sv_row (hw.row 0 rfl) (by rfl)) (by rfl)) (by rfl) (by have hmx : maxLen = 9223372036854775807 := rfl; omega) (by have hmx : maxLen = 9223372036854775807 := rfl; omega) (fun Y734 p734 cap734 hO734 => mo0 2 [(8, .go (owns 2 0 1))] [2, 3, 17, 18, 19] (fun _ => []) (fun _ L => (L.set 2 (bx (γ227 0) (#[.slice p734 (nu + 1) cap734, .int .u64 x317.r.th, .int .u64 x317.r.tl, .int .u64 x317.r.tw, .int .u64 (if (x317.w.ord : Int) < (od : Int) then x317.w.ord else od), .bool false]) 47))) (fun _ => on_ (done_block (ds_ (qa [(0, .fit)] [2, 3, 17, 18] [(19, .int .i64 (j + 1 : Nat))] ([Fit .i64 ((j + 1 : Nat))]) (al1 (fit64 (by omega) (by omega))) (Done.pick [[bx (γ733 0) (#[.int .i64 x317.r.id]) 3], [bx (γ318 0) (#[.int .i64 x317.r.id, .int .i64 x317.r.each, .int .u64 x317.r.th, .int .u64 x317.r.tl, .int .u64 x317.r.tw, .int .i64 x317.w.id, .int .u64 x317.w.ord, .bool x317.w.fresh]) 78], [bx (γ227 0) (#[.slice p734 (nu + 1) cap734, .int .u64 x317.r.th, .int .u64 x317.r.tl, .int .u64 x317.r.tw, .int .u64 (if (x317.w.ord : Int) < (od : Int) then x317.w.ord else od), .bool false]) 47], [bx (γ1 0) (#[.slice none 0 0, .int .u64 0, .int .u64 0, .int .u64 0, .int .u64 0, .bool false]) 47], Y734] [2, 3, 4] [0, 1] (bx (γ227 0) (#[.slice p734 (nu + 1) cap734, .int .u64 x317.r.th, .int .u64 x317.r.tl, .int .u64 x317.r.tw, .int .u64 (if (x317.w.ord : Int) < (od : Int) then x317.w.ord else od), .bool false]) 47 :: bx (γ1 0) (#[.slice none 0 0, .int .u64 0, .int .u64 0, .int .u64 0, .int .u64 0, .bool false]) 47 :: (Y734 ++ [])) (by kernel_rfl) rfl rfl ?_)))))))))
    exact dr [2, 3, 17, 18, 19] (j + 1, Y734, p734, (nu + 1), cap734, x317.r.t, (if (x317.w.ord : Int) < (od : Int) then x317.w.ord else od), false) ⟨by omega, by omega, hUx317.r.t, one_onT hx317 hE (by rw [if_pos (by omega)]) rfl (by rw [q324]; rfl), by rw [memP_on hx317]; exact hO734⟩
   ·
    refine at_any (by kernel_rfl) ?_
    refine tk (m := 13) [0, 2, 3, 6] [] [2, 3, 5, 17, 18, 19] [(34, .pointer (some ⟨γ227 0, 4, none⟩)), (37, .pointer (some ⟨γ318 0, 6, none⟩)), (40, .pointer (some ⟨γ227 0, 5, none⟩))] ([]) #[true, false, true, true, false, false, true, false, false, false, false, false, false, false, false, false, false] al0 ?_
    refine any_cutX (V := Unit) (fun _ => True) 0 #[true, true, true, true, true, true, true, true, true, true, true, true, true, true, true, true, true] (fun _ => [(2, .pointer (some ⟨γ1 0, 0, none⟩)), (3, .pointer (some ⟨γ227 0, 0, none⟩)), (5, .pointer (some ⟨γ318 0, 0, none⟩)), (17, .slice p n cap), (18, .int .i64 (n : Nat)), (19, .int .i64 (j : Nat))]) (fun _ => bx (γ318 0) (#[.int .i64 x317.r.id, .int .i64 x317.r.each, .int .u64 x317.r.th, .int .u64 x317.r.tl, .int .u64 x317.r.tw, .int .i64 x317.w.id, .int .u64 x317.w.ord, .bool x317.w.fresh]) 78 :: bx (γ227 0) (#[.slice po nu co, .int .u64 x317.r.th, .int .u64 x317.r.tl, .int .u64 x317.r.tw, .int .u64 (if (x317.w.ord : Int) < (od : Int) then x317.w.ord else od), .bool x317.w.fresh]) 47 :: bx (γ1 0) (#[.slice none 0 0, .int .u64 0, .int .u64 0, .int .u64 0, .int .u64 0, .bool false]) 47 :: (Yo ++ [])) ?_ (fun hmx14 => ?_)
    rotate_left
    ·
     refine any_cutX (V := Unit) (fun _ => True) 1 #[true, true, true, true, true, true, true, true, true, true, true, true, true, true, true, true, false] (fun _ => [(2, .pointer (some ⟨γ1 0, 0, none⟩)), (3, .pointer (some ⟨γ227 0, 0, none⟩)), (5, .pointer (some ⟨γ318 0, 0, none⟩)), (17, .slice p n cap), (18, .int .i64 (n : Nat)), (19, .int .i64 (j : Nat)), (46, .bool x317.w.fresh), (48, .pointer (some ⟨γ227 0, 5, none⟩))]) (fun _ => bx (γ318 0) (#[.int .i64 x317.r.id, .int .i64 x317.r.each, .int .u64 x317.r.th, .int .u64 x317.r.tl, .int .u64 x317.r.tw, .int .i64 x317.w.id, .int .u64 x317.w.ord, .bool x317.w.fresh]) 78 :: bx (γ227 0) (#[.slice po nu co, .int .u64 x317.r.th, .int .u64 x317.r.tl, .int .u64 x317.r.tw, .int .u64 (if (x317.w.ord : Int) < (od : Int) then x317.w.ord else od), .bool true]) 47 :: bx (γ1 0) (#[.slice none 0 0, .int .u64 0, .int .u64 0, .int .u64 0, .int .u64 0, .bool false]) 47 :: (Yo ++ [])) ?_ (fun hmx13 => ?_)
     ·
      rintro _ _
      refine a1 16 rfl ?_
      refine mo0 1 [(16, .go (owns 1 5 1))] [2, 3, 5, 17, 18, 19] (fun _ => []) (fun _ L => (L.set 1 (bx (γ227 0) (#[.slice po nu co, .int .u64 x317.r.th, .int .u64 x317.r.tl, .int .u64 x317.r.tw, .int .u64 (if (x317.w.ord : Int) < (od : Int) then x317.w.ord else od), .bool x317.w.fresh]) 47))) (fun _ => ?_)
      refine od_ ?_
      exact wk (hmx14 () trivial) [2, 3, 5, 17, 18, 19] [[_], [_], [_], _] [0, 1, 2, 3] rfl rfl
     refine any_cutX (V := Unit) (fun _ => True) 3 #[true, true, true, true, true, true, true, true, true, true, true, true, true, true, false, false, false] (fun _ => [(2, .pointer (some ⟨γ1 0, 0, none⟩)), (3, .pointer (some ⟨γ227 0, 0, none⟩)), (5, .pointer (some ⟨γ318 0, 0, none⟩)), (17, .slice p n cap), (18, .int .i64 (n : Nat)), (19, .int .i64 (j : Nat)), (39, .int .u64 (if (x317.w.ord : Int) < (od : Int) then x317.w.ord else od)), (46, .bool x317.w.fresh), (47, .pointer (some ⟨γ227 0, 4, none⟩))]) (fun _ => bx (γ318 0) (#[.int .i64 x317.r.id, .int .i64 x317.r.each, .int .u64 x317.r.th, .int .u64 x317.r.tl, .int .u64 x317.r.tw, .int .i64 x317.w.id, .int .u64 x317.w.ord, .bool x317.w.fresh]) 78 :: bx (γ227 0) (#[.slice po nu co, .int .u64 x317.r.th, .int .u64 x317.r.tl, .int .u64 x317.r.tw, .int .u64 od, .bool true]) 47 :: bx (γ1 0) (#[.slice none 0 0, .int .u64 0, .int .u64 0, .int .u64 0, .int .u64 0, .bool false]) 47 :: (Yo ++ [])) ?_ (fun hmx12 => ?_)
     ·
      rintro _ _
      refine a1 14 rfl ?_
      refine mo0 1 [(14, .go (owns 1 4 1))] [2, 3, 5, 17, 18, 19, 46] (fun _ => []) (fun _ L => (L.set 1 (bx (γ227 0) (#[.slice po nu co, .int .u64 x317.r.th, .int .u64 x317.r.tl, .int .u64 x317.r.tw, .int .u64 (if (x317.w.ord : Int) < (od : Int) then x317.w.ord else od), .bool true]) 47))) (fun _ => ?_)
      refine od_ ?_
      refine tk (m := 1) [15] [] [2, 3, 5, 17, 18, 19, 46] [(48, .pointer (some ⟨γ227 0, 5, none⟩))] ([]) #[true, true, true, true, true, true, true, true, true, true, true, true, true, true, true, true, false] al0 ?_
      exact wk (hmx13 () trivial) [2, 3, 5, 17, 18, 19, 46, 48] [[_], [_], [_], _] [0, 1, 2, 3] rfl rfl
     refine any_cutX (V := Unit) (fun _ => True) 4 #[true, true, true, true, true, true, true, true, true, true, true, false, false, true, true, false, false] (fun _ => [(2, .pointer (some ⟨γ1 0, 0, none⟩)), (3, .pointer (some ⟨γ227 0, 0, none⟩)), (5, .pointer (some ⟨γ318 0, 0, none⟩)), (17, .slice p n cap), (18, .int .i64 (n : Nat)), (19, .int .i64 (j : Nat)), (42, .bool true), (44, .pointer (some ⟨γ318 0, 7, none⟩))]) (fun _ => bx (γ318 0) (#[.int .i64 x317.r.id, .int .i64 x317.r.each, .int .u64 x317.r.th, .int .u64 x317.r.tl, .int .u64 x317.r.tw, .int .i64 x317.w.id, .int .u64 x317.w.ord, .bool x317.w.fresh]) 78 :: bx (γ227 0) (#[.slice po nu co, .int .u64 x317.r.th, .int .u64 x317.r.tl, .int .u64 x317.r.tw, .int .u64 (if (x317.w.ord : Int) < (od : Int) then x317.w.ord else od), .bool true]) 47 :: bx (γ1 0) (#[.slice none 0 0, .int .u64 0, .int .u64 0, .int .u64 0, .int .u64 0, .bool false]) 47 :: (Yo ++ [])) ?_ (fun hmx11 => ?_)
     ·
      rintro _ _
      refine a1 11 rfl ?_
      refine qo0 1 [(11, .go (owns 0 7 1))] [2, 3, 5, 17, 18, 19, 42] [(45, .bool x317.w.fresh)] ?_
      refine od_ ?_
      refine tk (m := 1) [12, 15] [] [2, 3, 5, 17, 18, 19] [(46, .bool x317.w.fresh), (48, .pointer (some ⟨γ227 0, 5, none⟩))] ([]) #[true, true, true, true, true, true, true, true, true, true, true, true, true, true, true, true, false] al0 ?_
      exact wk (hmx13 () trivial) [2, 3, 5, 17, 18, 19, 46, 48] [[_], [_], [_], _] [0, 1, 2, 3] rfl rfl
     refine any_cutX (V := Unit) (fun _ => True) 5 #[true, true, true, true, true, true, true, true, true, true, true, false, false, true, false, false, false] (fun _ => [(2, .pointer (some ⟨γ1 0, 0, none⟩)), (3, .pointer (some ⟨γ227 0, 0, none⟩)), (5, .pointer (some ⟨γ318 0, 0, none⟩)), (17, .slice p n cap), (18, .int .i64 (n : Nat)), (19, .int .i64 (j : Nat)), (39, .int .u64 (if (x317.w.ord : Int) < (od : Int) then x317.w.ord else od)), (42, .bool true), (44, .pointer (some ⟨γ318 0, 7, none⟩)), (47, .pointer (some ⟨γ227 0, 4, none⟩))]) (fun _ => bx (γ318 0) (#[.int .i64 x317.r.id, .int .i64 x317.r.each, .int .u64 x317.r.th, .int .u64 x317.r.tl, .int .u64 x317.r.tw, .int .i64 x317.w.id, .int .u64 x317.w.ord, .bool x317.w.fresh]) 78 :: bx (γ227 0) (#[.slice po nu co, .int .u64 x317.r.th, .int .u64 x317.r.tl, .int .u64 x317.r.tw, .int .u64 od, .bool true]) 47 :: bx (γ1 0) (#[.slice none 0 0, .int .u64 0, .int .u64 0, .int .u64 0, .int .u64 0, .bool false]) 47 :: (Yo ++ [])) ?_ (fun hmx10 => ?_)
     ·
      rintro _ _
      refine any_fork [11, 14] (by kernel_rfl) (by simp) (each_cons _ rfl ?_ (each_cons _ rfl ?_ (each_nil)))
      ·
       refine qo0 1 [(11, .go (owns 0 7 1))] [2, 3, 5, 17, 18, 19, 39, 42, 47] [(45, .bool x317.w.fresh)] ?_
       refine od_ ?_
       refine tk (m := 3) [12] [] [2, 3, 5, 17, 18, 19, 39, 47] [(46, .bool x317.w.fresh)] ([]) #[true, true, true, true, true, true, true, true, true, true, true, true, true, true, false, false, false] al0 ?_
       exact wk (hmx12 () trivial) [2, 3, 5, 17, 18, 19, 39, 46, 47] [[_], [_], [_], _] [0, 1, 2, 3] rfl rfl
      ·
       refine mo0 1 [(14, .go (owns 1 4 1))] [2, 3, 5, 17, 18, 19, 42, 44] (fun _ => []) (fun _ L => (L.set 1 (bx (γ227 0) (#[.slice po nu co, .int .u64 x317.r.th, .int .u64 x317.r.tl, .int .u64 x317.r.tw, .int .u64 (if (x317.w.ord : Int) < (od : Int) then x317.w.ord else od), .bool true]) 47))) (fun _ => ?_)
       refine od_ ?_
       exact wk (hmx11 () trivial) [2, 3, 5, 17, 18, 19, 42, 44] [[_], [_], [_], _] [0, 1, 2, 3] rfl rfl
     refine any_cutX (V := Unit) (fun _ => True) 6 #[true, false, true, true, true, false, true, true, true, true, true, true, true, false, false, false, false] (fun _ => [(2, .pointer (some ⟨γ1 0, 0, none⟩)), (3, .pointer (some ⟨γ227 0, 0, none⟩)), (5, .pointer (some ⟨γ318 0, 0, none⟩)), (17, .slice p n cap), (18, .int .i64 (n : Nat)), (19, .int .i64 (j : Nat)), (34, .pointer (some ⟨γ227 0, 4, none⟩)), (38, .int .u64 x317.w.ord), (46, .bool x317.w.fresh)]) (fun _ => bx (γ318 0) (#[.int .i64 x317.r.id, .int .i64 x317.r.each, .int .u64 x317.r.th, .int .u64 x317.r.tl, .int .u64 x317.r.tw, .int .i64 x317.w.id, .int .u64 x317.w.ord, .bool x317.w.fresh]) 78 :: bx (γ227 0) (#[.slice po nu co, .int .u64 x317.r.th, .int .u64 x317.r.tl, .int .u64 x317.r.tw, .int .u64 od, .bool true]) 47 :: bx (γ1 0) (#[.slice none 0 0, .int .u64 0, .int .u64 0, .int .u64 0, .int .u64 0, .bool false]) 47 :: (Yo ++ [])) ?_ (fun hmx9 => ?_)
     ·
      rintro _ _
      refine a1 1 rfl ?_
      refine qo0 1 [(1, .go (owns 1 4 1))] [2, 3, 5, 17, 18, 19, 38, 46] [(35, .int .u64 od)] ?_
      refine od_ ?_
      refine tk (m := 3) [5, 13] [] [2, 3, 5, 17, 18, 19, 46] [(39, .int .u64 (if (x317.w.ord : Int) < (od : Int) then x317.w.ord else od)), (47, .pointer (some ⟨γ227 0, 4, none⟩))] ([]) #[true, true, true, true, true, true, true, true, true, true, true, true, true, true, false, false, false] al0 ?_
      exact wk (hmx12 () trivial) [2, 3, 5, 17, 18, 19, 39, 46, 47] [[_], [_], [_], _] [0, 1, 2, 3] rfl rfl
     refine any_cutX (V := Unit) (fun _ => True) 6 #[true, true, true, true, false, false, true, true, true, true, true, true, true, false, false, false, false] (fun _ => [(2, .pointer (some ⟨γ1 0, 0, none⟩)), (3, .pointer (some ⟨γ227 0, 0, none⟩)), (5, .pointer (some ⟨γ318 0, 0, none⟩)), (17, .slice p n cap), (18, .int .i64 (n : Nat)), (19, .int .i64 (j : Nat)), (35, .int .u64 od), (37, .pointer (some ⟨γ318 0, 6, none⟩)), (46, .bool x317.w.fresh)]) (fun _ => bx (γ318 0) (#[.int .i64 x317.r.id, .int .i64 x317.r.each, .int .u64 x317.r.th, .int .u64 x317.r.tl, .int .u64 x317.r.tw, .int .i64 x317.w.id, .int .u64 x317.w.ord, .bool x317.w.fresh]) 78 :: bx (γ227 0) (#[.slice po nu co, .int .u64 x317.r.th, .int .u64 x317.r.tl, .int .u64 x317.r.tw, .int .u64 od, .bool true]) 47 :: bx (γ1 0) (#[.slice none 0 0, .int .u64 0, .int .u64 0, .int .u64 0, .int .u64 0, .bool false]) 47 :: (Yo ++ [])) ?_ (fun hmx8 => ?_)
     ·
      rintro _ _
      refine a1 4 rfl ?_
      refine qo0 1 [(4, .go (owns 0 6 1))] [2, 3, 5, 17, 18, 19, 35, 46] [(38, .int .u64 x317.w.ord)] ?_
      refine od_ ?_
      refine tk (m := 3) [5, 13] [] [2, 3, 5, 17, 18, 19, 46] [(39, .int .u64 (if (x317.w.ord : Int) < (od : Int) then x317.w.ord else od)), (47, .pointer (some ⟨γ227 0, 4, none⟩))] ([]) #[true, true, true, true, true, true, true, true, true, true, true, true, true, true, false, false, false] al0 ?_
      exact wk (hmx12 () trivial) [2, 3, 5, 17, 18, 19, 39, 46, 47] [[_], [_], [_], _] [0, 1, 2, 3] rfl rfl
     refine any_cutX (V := Unit) (fun _ => True) 7 #[true, false, true, true, false, false, true, true, true, true, true, true, true, false, false, false, false] (fun _ => [(2, .pointer (some ⟨γ1 0, 0, none⟩)), (3, .pointer (some ⟨γ227 0, 0, none⟩)), (5, .pointer (some ⟨γ318 0, 0, none⟩)), (17, .slice p n cap), (18, .int .i64 (n : Nat)), (19, .int .i64 (j : Nat)), (34, .pointer (some ⟨γ227 0, 4, none⟩)), (37, .pointer (some ⟨γ318 0, 6, none⟩)), (46, .bool x317.w.fresh)]) (fun _ => bx (γ318 0) (#[.int .i64 x317.r.id, .int .i64 x317.r.each, .int .u64 x317.r.th, .int .u64 x317.r.tl, .int .u64 x317.r.tw, .int .i64 x317.w.id, .int .u64 x317.w.ord, .bool x317.w.fresh]) 78 :: bx (γ227 0) (#[.slice po nu co, .int .u64 x317.r.th, .int .u64 x317.r.tl, .int .u64 x317.r.tw, .int .u64 od, .bool true]) 47 :: bx (γ1 0) (#[.slice none 0 0, .int .u64 0, .int .u64 0, .int .u64 0, .int .u64 0, .bool false]) 47 :: (Yo ++ [])) ?_ (fun hmx7 => ?_)
     ·
      rintro _ _
      refine any_fork [1, 4] (by kernel_rfl) (by simp) (each_cons _ rfl ?_ (each_cons _ rfl ?_ (each_nil)))
      ·
       refine qo0 1 [(1, .go (owns 1 4 1))] [2, 3, 5, 17, 18, 19, 37, 46] [(35, .int .u64 od)] ?_
       refine od_ ?_
       exact wk (hmx8 () trivial) [2, 3, 5, 17, 18, 19, 35, 37, 46] [[_], [_], [_], _] [0, 1, 2, 3] rfl rfl
      ·
       refine qo0 1 [(4, .go (owns 0 6 1))] [2, 3, 5, 17, 18, 19, 34, 46] [(38, .int .u64 x317.w.ord)] ?_
       refine od_ ?_
       exact wk (hmx9 () trivial) [2, 3, 5, 17, 18, 19, 34, 38, 46] [[_], [_], [_], _] [0, 1, 2, 3] rfl rfl
     refine any_cutX (V := Unit) (fun _ => True) 8 #[true, false, true, true, true, false, true, true, true, true, true, false, false, false, false, false, false] (fun _ => [(2, .pointer (some ⟨γ1 0, 0, none⟩)), (3, .pointer (some ⟨γ227 0, 0, none⟩)), (5, .pointer (some ⟨γ318 0, 0, none⟩)), (17, .slice p n cap), (18, .int .i64 (n : Nat)), (19, .int .i64 (j : Nat)), (34, .pointer (some ⟨γ227 0, 4, none⟩)), (38, .int .u64 x317.w.ord), (42, .bool true), (44, .pointer (some ⟨γ318 0, 7, none⟩))]) (fun _ => bx (γ318 0) (#[.int .i64 x317.r.id, .int .i64 x317.r.each, .int .u64 x317.r.th, .int .u64 x317.r.tl, .int .u64 x317.r.tw, .int .i64 x317.w.id, .int .u64 x317.w.ord, .bool x317.w.fresh]) 78 :: bx (γ227 0) (#[.slice po nu co, .int .u64 x317.r.th, .int .u64 x317.r.tl, .int .u64 x317.r.tw, .int .u64 od, .bool true]) 47 :: bx (γ1 0) (#[.slice none 0 0, .int .u64 0, .int .u64 0, .int .u64 0, .int .u64 0, .bool false]) 47 :: (Yo ++ [])) ?_ (fun hmx6 => ?_)
     ·
      rintro _ _
      refine any_fork [1, 11] (by kernel_rfl) (by simp) (each_cons _ rfl ?_ (each_cons _ rfl ?_ (each_nil)))
      ·
       refine qo0 1 [(1, .go (owns 1 4 1))] [2, 3, 5, 17, 18, 19, 38, 42, 44] [(35, .int .u64 od)] ?_
       refine od_ ?_
       refine tk (m := 5) [5, 13] [] [2, 3, 5, 17, 18, 19, 42, 44] [(39, .int .u64 (if (x317.w.ord : Int) < (od : Int) then x317.w.ord else od)), (47, .pointer (some ⟨γ227 0, 4, none⟩))] ([]) #[true, true, true, true, true, true, true, true, true, true, true, false, false, true, false, false, false] al0 ?_
       exact wk (hmx10 () trivial) [2, 3, 5, 17, 18, 19, 39, 42, 44, 47] [[_], [_], [_], _] [0, 1, 2, 3] rfl rfl
      ·
       refine qo0 1 [(11, .go (owns 0 7 1))] [2, 3, 5, 17, 18, 19, 34, 38, 42] [(45, .bool x317.w.fresh)] ?_
       refine od_ ?_
       refine tk (m := 6) [12] [] [2, 3, 5, 17, 18, 19, 34, 38] [(46, .bool x317.w.fresh)] ([]) #[true, false, true, true, true, false, true, true, true, true, true, true, true, false, false, false, false] al0 ?_
       exact wk (hmx9 () trivial) [2, 3, 5, 17, 18, 19, 34, 38, 46] [[_], [_], [_], _] [0, 1, 2, 3] rfl rfl
     refine any_cutX (V := Unit) (fun _ => True) 8 #[true, true, true, true, false, false, true, true, true, true, true, false, false, false, false, false, false] (fun _ => [(2, .pointer (some ⟨γ1 0, 0, none⟩)), (3, .pointer (some ⟨γ227 0, 0, none⟩)), (5, .pointer (some ⟨γ318 0, 0, none⟩)), (17, .slice p n cap), (18, .int .i64 (n : Nat)), (19, .int .i64 (j : Nat)), (35, .int .u64 od), (37, .pointer (some ⟨γ318 0, 6, none⟩)), (42, .bool true), (44, .pointer (some ⟨γ318 0, 7, none⟩))]) (fun _ => bx (γ318 0) (#[.int .i64 x317.r.id, .int .i64 x317.r.each, .int .u64 x317.r.th, .int .u64 x317.r.tl, .int .u64 x317.r.tw, .int .i64 x317.w.id, .int .u64 x317.w.ord, .bool x317.w.fresh]) 78 :: bx (γ227 0) (#[.slice po nu co, .int .u64 x317.r.th, .int .u64 x317.r.tl, .int .u64 x317.r.tw, .int .u64 od, .bool true]) 47 :: bx (γ1 0) (#[.slice none 0 0, .int .u64 0, .int .u64 0, .int .u64 0, .int .u64 0, .bool false]) 47 :: (Yo ++ [])) ?_ (fun hmx5 => ?_)
     ·
      rintro _ _
      refine any_fork [4, 11] (by kernel_rfl) (by simp) (each_cons _ rfl ?_ (each_cons _ rfl ?_ (each_nil)))
      ·
       refine qo0 1 [(4, .go (owns 0 6 1))] [2, 3, 5, 17, 18, 19, 35, 42, 44] [(38, .int .u64 x317.w.ord)] ?_
       refine od_ ?_
       refine tk (m := 5) [5, 13] [] [2, 3, 5, 17, 18, 19, 42, 44] [(39, .int .u64 (if (x317.w.ord : Int) < (od : Int) then x317.w.ord else od)), (47, .pointer (some ⟨γ227 0, 4, none⟩))] ([]) #[true, true, true, true, true, true, true, true, true, true, true, false, false, true, false, false, false] al0 ?_
       exact wk (hmx10 () trivial) [2, 3, 5, 17, 18, 19, 39, 42, 44, 47] [[_], [_], [_], _] [0, 1, 2, 3] rfl rfl
      ·
       refine qo0 1 [(11, .go (owns 0 7 1))] [2, 3, 5, 17, 18, 19, 35, 37, 42] [(45, .bool x317.w.fresh)] ?_
       refine od_ ?_
       refine tk (m := 6) [12] [] [2, 3, 5, 17, 18, 19, 35, 37] [(46, .bool x317.w.fresh)] ([]) #[true, true, true, true, false, false, true, true, true, true, true, true, true, false, false, false, false] al0 ?_
       exact wk (hmx8 () trivial) [2, 3, 5, 17, 18, 19, 35, 37, 46] [[_], [_], [_], _] [0, 1, 2, 3] rfl rfl
     refine any_cutX (V := Unit) (fun _ => True) 9 #[true, false, true, true, false, false, true, true, true, true, true, false, false, false, false, false, false] (fun _ => [(2, .pointer (some ⟨γ1 0, 0, none⟩)), (3, .pointer (some ⟨γ227 0, 0, none⟩)), (5, .pointer (some ⟨γ318 0, 0, none⟩)), (17, .slice p n cap), (18, .int .i64 (n : Nat)), (19, .int .i64 (j : Nat)), (34, .pointer (some ⟨γ227 0, 4, none⟩)), (37, .pointer (some ⟨γ318 0, 6, none⟩)), (42, .bool true), (44, .pointer (some ⟨γ318 0, 7, none⟩))]) (fun _ => bx (γ318 0) (#[.int .i64 x317.r.id, .int .i64 x317.r.each, .int .u64 x317.r.th, .int .u64 x317.r.tl, .int .u64 x317.r.tw, .int .i64 x317.w.id, .int .u64 x317.w.ord, .bool x317.w.fresh]) 78 :: bx (γ227 0) (#[.slice po nu co, .int .u64 x317.r.th, .int .u64 x317.r.tl, .int .u64 x317.r.tw, .int .u64 od, .bool true]) 47 :: bx (γ1 0) (#[.slice none 0 0, .int .u64 0, .int .u64 0, .int .u64 0, .int .u64 0, .bool false]) 47 :: (Yo ++ [])) ?_ (fun hmx4 => ?_)
     ·
      rintro _ _
      refine any_fork [1, 4, 11] (by kernel_rfl) (by simp) (each_cons _ rfl ?_ (each_cons _ rfl ?_ (each_cons _ rfl ?_ (each_nil))))
      ·
       refine qo0 1 [(1, .go (owns 1 4 1))] [2, 3, 5, 17, 18, 19, 37, 42, 44] [(35, .int .u64 od)] ?_
       refine od_ ?_
       exact wk (hmx5 () trivial) [2, 3, 5, 17, 18, 19, 35, 37, 42, 44] [[_], [_], [_], _] [0, 1, 2, 3] rfl rfl
      ·
       refine qo0 1 [(4, .go (owns 0 6 1))] [2, 3, 5, 17, 18, 19, 34, 42, 44] [(38, .int .u64 x317.w.ord)] ?_
       refine od_ ?_
       exact wk (hmx6 () trivial) [2, 3, 5, 17, 18, 19, 34, 38, 42, 44] [[_], [_], [_], _] [0, 1, 2, 3] rfl rfl
      ·
       refine qo0 1 [(11, .go (owns 0 7 1))] [2, 3, 5, 17, 18, 19, 34, 37, 42] [(45, .bool x317.w.fresh)] ?_
       refine od_ ?_
       refine tk (m := 7) [12] [] [2, 3, 5, 17, 18, 19, 34, 37] [(46, .bool x317.w.fresh)] ([]) #[true, false, true, true, false, false, true, true, true, true, true, true, true, false, false, false, false] al0 ?_
       exact wk (hmx7 () trivial) [2, 3, 5, 17, 18, 19, 34, 37, 46] [[_], [_], [_], _] [0, 1, 2, 3] rfl rfl
     refine any_cutX (V := Unit) (fun _ => True) 10 #[true, true, true, true, true, true, true, false, false, false, false, false, false, false, false, false, false] (fun _ => [(2, .pointer (some ⟨γ1 0, 0, none⟩)), (3, .pointer (some ⟨γ227 0, 0, none⟩)), (5, .pointer (some ⟨γ318 0, 0, none⟩)), (17, .slice p n cap), (18, .int .i64 (n : Nat)), (19, .int .i64 (j : Nat)), (39, .int .u64 (if (x317.w.ord : Int) < (od : Int) then x317.w.ord else od)), (40, .pointer (some ⟨γ227 0, 5, none⟩))]) (fun _ => bx (γ318 0) (#[.int .i64 x317.r.id, .int .i64 x317.r.each, .int .u64 x317.r.th, .int .u64 x317.r.tl, .int .u64 x317.r.tw, .int .i64 x317.w.id, .int .u64 x317.w.ord, .bool x317.w.fresh]) 78 :: bx (γ227 0) (#[.slice po nu co, .int .u64 x317.r.th, .int .u64 x317.r.tl, .int .u64 x317.r.tw, .int .u64 od, .bool true]) 47 :: bx (γ1 0) (#[.slice none 0 0, .int .u64 0, .int .u64 0, .int .u64 0, .int .u64 0, .bool false]) 47 :: (Yo ++ [])) ?_ (fun hmx3 => ?_)
     ·
      rintro _ _
      refine a1 7 rfl ?_
      refine qo0 1 [(7, .go (owns 1 5 1))] [2, 3, 5, 17, 18, 19, 39] [(41, .bool true)] ?_
      refine od_ ?_
      refine tk (m := 5) [8, 9, 10, 13] [] [2, 3, 5, 17, 18, 19, 39] [(42, .bool true), (44, .pointer (some ⟨γ318 0, 7, none⟩)), (47, .pointer (some ⟨γ227 0, 4, none⟩))] ([]) #[true, true, true, true, true, true, true, true, true, true, true, false, false, true, false, false, false] al0 ?_
      exact wk (hmx10 () trivial) [2, 3, 5, 17, 18, 19, 39, 42, 44, 47] [[_], [_], [_], _] [0, 1, 2, 3] rfl rfl
     refine any_cutX (V := Unit) (fun _ => True) 12 #[true, false, true, true, true, false, true, false, false, false, false, false, false, false, false, false, false] (fun _ => [(2, .pointer (some ⟨γ1 0, 0, none⟩)), (3, .pointer (some ⟨γ227 0, 0, none⟩)), (5, .pointer (some ⟨γ318 0, 0, none⟩)), (17, .slice p n cap), (18, .int .i64 (n : Nat)), (19, .int .i64 (j : Nat)), (34, .pointer (some ⟨γ227 0, 4, none⟩)), (38, .int .u64 x317.w.ord), (40, .pointer (some ⟨γ227 0, 5, none⟩))]) (fun _ => bx (γ318 0) (#[.int .i64 x317.r.id, .int .i64 x317.r.each, .int .u64 x317.r.th, .int .u64 x317.r.tl, .int .u64 x317.r.tw, .int .i64 x317.w.id, .int .u64 x317.w.ord, .bool x317.w.fresh]) 78 :: bx (γ227 0) (#[.slice po nu co, .int .u64 x317.r.th, .int .u64 x317.r.tl, .int .u64 x317.r.tw, .int .u64 od, .bool true]) 47 :: bx (γ1 0) (#[.slice none 0 0, .int .u64 0, .int .u64 0, .int .u64 0, .int .u64 0, .bool false]) 47 :: (Yo ++ [])) ?_ (fun hmx2 => ?_)
     ·
      rintro _ _
      refine any_fork [1, 7] (by kernel_rfl) (by simp) (each_cons _ rfl ?_ (each_cons _ rfl ?_ (each_nil)))
      ·
       refine qo0 1 [(1, .go (owns 1 4 1))] [2, 3, 5, 17, 18, 19, 38, 40] [(35, .int .u64 od)] ?_
       refine od_ ?_
       refine tk (m := 10) [5] [] [2, 3, 5, 17, 18, 19, 40] [(39, .int .u64 (if (x317.w.ord : Int) < (od : Int) then x317.w.ord else od))] ([]) #[true, true, true, true, true, true, true, false, false, false, false, false, false, false, false, false, false] al0 ?_
       exact wk (hmx3 () trivial) [2, 3, 5, 17, 18, 19, 39, 40] [[_], [_], [_], _] [0, 1, 2, 3] rfl rfl
      ·
       refine qo0 1 [(7, .go (owns 1 5 1))] [2, 3, 5, 17, 18, 19, 34, 38] [(41, .bool true)] ?_
       refine od_ ?_
       refine tk (m := 8) [8, 9, 10] [] [2, 3, 5, 17, 18, 19, 34, 38] [(42, .bool true), (44, .pointer (some ⟨γ318 0, 7, none⟩))] ([]) #[true, false, true, true, true, false, true, true, true, true, true, false, false, false, false, false, false] al0 ?_
       exact wk (hmx6 () trivial) [2, 3, 5, 17, 18, 19, 34, 38, 42, 44] [[_], [_], [_], _] [0, 1, 2, 3] rfl rfl
     refine any_cutX (V := Unit) (fun _ => True) 12 #[true, true, true, true, false, false, true, false, false, false, false, false, false, false, false, false, false] (fun _ => [(2, .pointer (some ⟨γ1 0, 0, none⟩)), (3, .pointer (some ⟨γ227 0, 0, none⟩)), (5, .pointer (some ⟨γ318 0, 0, none⟩)), (17, .slice p n cap), (18, .int .i64 (n : Nat)), (19, .int .i64 (j : Nat)), (35, .int .u64 od), (37, .pointer (some ⟨γ318 0, 6, none⟩)), (40, .pointer (some ⟨γ227 0, 5, none⟩))]) (fun _ => bx (γ318 0) (#[.int .i64 x317.r.id, .int .i64 x317.r.each, .int .u64 x317.r.th, .int .u64 x317.r.tl, .int .u64 x317.r.tw, .int .i64 x317.w.id, .int .u64 x317.w.ord, .bool x317.w.fresh]) 78 :: bx (γ227 0) (#[.slice po nu co, .int .u64 x317.r.th, .int .u64 x317.r.tl, .int .u64 x317.r.tw, .int .u64 od, .bool true]) 47 :: bx (γ1 0) (#[.slice none 0 0, .int .u64 0, .int .u64 0, .int .u64 0, .int .u64 0, .bool false]) 47 :: (Yo ++ [])) ?_ (fun hmx1 => ?_)
     ·
      rintro _ _
      refine any_fork [4, 7] (by kernel_rfl) (by simp) (each_cons _ rfl ?_ (each_cons _ rfl ?_ (each_nil)))
      ·
       refine qo0 1 [(4, .go (owns 0 6 1))] [2, 3, 5, 17, 18, 19, 35, 40] [(38, .int .u64 x317.w.ord)] ?_
       refine od_ ?_
       refine tk (m := 10) [5] [] [2, 3, 5, 17, 18, 19, 40] [(39, .int .u64 (if (x317.w.ord : Int) < (od : Int) then x317.w.ord else od))] ([]) #[true, true, true, true, true, true, true, false, false, false, false, false, false, false, false, false, false] al0 ?_
       exact wk (hmx3 () trivial) [2, 3, 5, 17, 18, 19, 39, 40] [[_], [_], [_], _] [0, 1, 2, 3] rfl rfl
      ·
       refine qo0 1 [(7, .go (owns 1 5 1))] [2, 3, 5, 17, 18, 19, 35, 37] [(41, .bool true)] ?_
       refine od_ ?_
       refine tk (m := 8) [8, 9, 10] [] [2, 3, 5, 17, 18, 19, 35, 37] [(42, .bool true), (44, .pointer (some ⟨γ318 0, 7, none⟩))] ([]) #[true, true, true, true, false, false, true, true, true, true, true, false, false, false, false, false, false] al0 ?_
       exact wk (hmx5 () trivial) [2, 3, 5, 17, 18, 19, 35, 37, 42, 44] [[_], [_], [_], _] [0, 1, 2, 3] rfl rfl
     refine any_fork [1, 4, 7] (by kernel_rfl) (by simp) (each_cons _ rfl ?_ (each_cons _ rfl ?_ (each_cons _ rfl ?_ (each_nil))))
     ·
      refine qo0 1 [(1, .go (owns 1 4 1))] [2, 3, 5, 17, 18, 19, 37, 40] [(35, .int .u64 od)] ?_
      refine od_ ?_
      exact wk (hmx1 () trivial) [2, 3, 5, 17, 18, 19, 35, 37, 40] [[_], [_], [_], _] [0, 1, 2, 3] rfl rfl
     ·
      refine qo0 1 [(4, .go (owns 0 6 1))] [2, 3, 5, 17, 18, 19, 34, 40] [(38, .int .u64 x317.w.ord)] ?_
      refine od_ ?_
      exact wk (hmx2 () trivial) [2, 3, 5, 17, 18, 19, 34, 38, 40] [[_], [_], [_], _] [0, 1, 2, 3] rfl rfl
     ·
      refine qo0 1 [(7, .go (owns 1 5 1))] [2, 3, 5, 17, 18, 19, 34, 37] [(41, .bool true)] ?_
      refine od_ ?_
      refine tk (m := 9) [8, 9, 10] [] [2, 3, 5, 17, 18, 19, 34, 37] [(42, .bool true), (44, .pointer (some ⟨γ318 0, 7, none⟩))] ([]) #[true, false, true, true, false, false, true, true, true, true, true, false, false, false, false, false, false] al0 ?_
      exact wk (hmx4 () trivial) [2, 3, 5, 17, 18, 19, 34, 37, 42, 44] [[_], [_], [_], _] [0, 1, 2, 3] rfl rfl
    rintro _ _
    refine any_nil (by kernel_rfl) ?_
    refine ds_ (ao_ (mo0 6 [(1, .go (owns 1 0 1)), (4, .go (owns 0 0 1))] [2, 3, 17, 18, 19] (fun γ1145 => [(50, .slice po nu co), (54, .slice (some ⟨γ1145 0, 0, none⟩) 1 1)]) (fun γ1145 L => bx (γ1145 0) (#[.int .i64 x317.r.id]) 3 :: L) (fun γ1145 => ops_append (α := Int) [bx (γ1145 0) (#[.int .i64 x317.r.id]) 3, bx (γ318 0) (#[.int .i64 x317.r.id, .int .i64 x317.r.each, .int .u64 x317.r.th, .int .u64 x317.r.tl, .int .u64 x317.r.tw, .int .i64 x317.w.id, .int .u64 x317.w.ord, .bool x317.w.fresh]) 78, bx (γ227 0) (#[.slice po nu co, .int .u64 x317.r.th, .int .u64 x317.r.tl, .int .u64 x317.r.tw, .int .u64 (if (x317.w.ord : Int) < (od : Int) then x317.w.ord else od), .bool x317.w.fresh]) 47, bx (γ1 0) (#[.slice none 0 0, .int .u64 0, .int .u64 0, .int .u64 0, .int .u64 0, .bool false]) 47] Yo ([]) (.refl _) rfl (by kernel_rfl) (by kernel_rfl) (p := po) (n := nu) (cap := co) (m := 1) (yv := .slice (some ⟨γ1145 0, 0, none⟩) 1 1) (by kernel_rfl) (by kernel_rfl) (T := 3) (by_ := 8) (by kernel_rfl) (memP l j) ([x317.r.id]) hO (fun w hw => src_svn Try.underlying40 (sv_row (hw.row 0 rfl) (by rfl)) (by rfl)) (by rfl) (by have hmx : maxLen = 9223372036854775807 := rfl; omega) (by have hmx : maxLen = 9223372036854775807 := rfl; omega) (fun Y1146 p1146 cap1146 hO1146 => mo0 2 [(8, .go (owns 2 0 1))] [2, 3, 17, 18, 19] (fun _ => []) (fun _ L => (L.set 2 (bx (γ227 0) (#[.slice p1146 (nu + 1) cap1146, .int .u64 x317.r.th, .int .u64 x317.r.tl, .int .u64 x317.r.tw, .int .u64 (if (x317.w.ord : Int) < (od : Int) then x317.w.ord else od), .bool x317.w.fresh]) 47))) (fun _ => on_ (done_block (ds_ (qa [(0, .fit)] [2, 3, 17, 18] [(19, .int .i64 (j + 1 : Nat))] ([Fit .i64 ((j + 1 : Nat))]) (al1 (fit64 (by omega) (by omega))) (Done.pick [[bx (γ1145 0) (#[.int .i64 x317.r.id]) 3], [bx (γ318 0) (#[.int .i64 x317.r.id, .int .i64 x317.r.each, .int .u64 x317.r.th, .int .u64 x317.r.tl, .int .u64 x317.r.tw, .int .i64 x317.w.id, .int .u64 x317.w.ord, .bool x317.w.fresh]) 78], [bx (γ227 0) (#[.slice p1146 (nu + 1) cap1146, .int .u64 x317.r.th, .int .u64 x317.r.tl, .int .u64 x317.r.tw, .int .u64 (if (x317.w.ord : Int) < (od : Int) then x317.w.ord else od), .bool x317.w.fresh]) 47], [bx (γ1 0) (#[.slice none 0 0, .int .u64 0, .int .u64 0, .int .u64 0, .int .u64 0, .bool false]) 47], Y1146] [2, 3, 4] [0, 1] (bx (γ227 0) (#[.slice p1146 (nu + 1) cap1146, .int .u64 x317.r.th, .int .u64 x317.r.tl, .int .u64 x317.r.tw, .int .u64 (if (x317.w.ord : Int) < (od : Int) then x317.w.ord else od), .bool x317.w.fresh]) 47 :: bx (γ1 0) (#[.slice none 0 0, .int .u64 0, .int .u64 0, .int .u64 0, .int .u64 0, .bool false]) 47 :: (Y1146 ++ [])) (by kernel_rfl) rfl rfl ?_)))))))))
    exact dr [2, 3, 17, 18, 19] (j + 1, Y1146, p1146, (nu + 1), cap1146, x317.r.t, (if (x317.w.ord : Int) < (od : Int) then x317.w.ord else od), x317.w.fresh) ⟨by omega, by omega, hUx317.r.t, one_onT hx317 hE (by rw [if_pos (by omega)]) rfl (by rw [q324]; rfl), by rw [memP_on hx317]; exact hO1146⟩
  ·
   refine qo 1 [(6, .no)] [2, 3, 5, 17, 18, 19] [(29, .bool false)] ([¬ (((cmpF x317.r.t f) : Int) > (0 : Int))]) (al1 q321) (on_ (ds_ (f_ (at_skip (ds_ (sq_ ?_))))))
   rcases q1150 : fb with _ | _
   ·
    refine at_any (by kernel_rfl) ?_
    refine tk (m := 13) [0, 2, 3, 6] [] [2, 3, 5, 17, 18, 19] [(34, .pointer (some ⟨γ227 0, 4, none⟩)), (37, .pointer (some ⟨γ318 0, 6, none⟩)), (40, .pointer (some ⟨γ227 0, 5, none⟩))] ([]) #[true, false, true, true, false, false, true, false, false, false, false, false, false, false, false, false, false] al0 ?_
    refine any_cutX (V := Unit) (fun _ => True) 0 #[true, true, true, true, true, true, true, true, true, true, true, true, true, true, true, true, true] (fun _ => [(2, .pointer (some ⟨γ1 0, 0, none⟩)), (3, .pointer (some ⟨γ227 0, 0, none⟩)), (5, .pointer (some ⟨γ318 0, 0, none⟩)), (17, .slice p n cap), (18, .int .i64 (n : Nat)), (19, .int .i64 (j : Nat))]) (fun _ => bx (γ318 0) (#[.int .i64 x317.r.id, .int .i64 x317.r.each, .int .u64 x317.r.th, .int .u64 x317.r.tl, .int .u64 x317.r.tw, .int .i64 x317.w.id, .int .u64 x317.w.ord, .bool x317.w.fresh]) 78 :: bx (γ227 0) (#[.slice po nu co, .int .u64 f.hi, .int .u64 f.lo, .int .u64 f.w, .int .u64 (if (x317.w.ord : Int) < (od : Int) then x317.w.ord else od), .bool false]) 47 :: bx (γ1 0) (#[.slice none 0 0, .int .u64 0, .int .u64 0, .int .u64 0, .int .u64 0, .bool false]) 47 :: (Yo ++ [])) ?_ (fun hmx14 => ?_)
    rotate_left
    ·
     refine any_cutX (V := Unit) (fun _ => True) 1 #[true, true, true, true, true, true, true, true, true, true, true, true, true, true, true, true, false] (fun _ => [(2, .pointer (some ⟨γ1 0, 0, none⟩)), (3, .pointer (some ⟨γ227 0, 0, none⟩)), (5, .pointer (some ⟨γ318 0, 0, none⟩)), (17, .slice p n cap), (18, .int .i64 (n : Nat)), (19, .int .i64 (j : Nat)), (46, .bool false), (48, .pointer (some ⟨γ227 0, 5, none⟩))]) (fun _ => bx (γ318 0) (#[.int .i64 x317.r.id, .int .i64 x317.r.each, .int .u64 x317.r.th, .int .u64 x317.r.tl, .int .u64 x317.r.tw, .int .i64 x317.w.id, .int .u64 x317.w.ord, .bool x317.w.fresh]) 78 :: bx (γ227 0) (#[.slice po nu co, .int .u64 f.hi, .int .u64 f.lo, .int .u64 f.w, .int .u64 (if (x317.w.ord : Int) < (od : Int) then x317.w.ord else od), .bool false]) 47 :: bx (γ1 0) (#[.slice none 0 0, .int .u64 0, .int .u64 0, .int .u64 0, .int .u64 0, .bool false]) 47 :: (Yo ++ [])) ?_ (fun hmx13 => ?_)
     ·
      rintro _ _
      refine a1 16 rfl ?_
      refine qo0 1 [(16, .go (owns 1 5 1))] [2, 3, 5, 17, 18, 19] [] ?_
      refine od_ ?_
      exact wk (hmx14 () trivial) [2, 3, 5, 17, 18, 19] [[_], [_], [_], _] [0, 1, 2, 3] rfl rfl
     refine any_cutX (V := Unit) (fun _ => True) 3 #[true, true, true, true, true, true, true, true, true, true, true, true, true, true, false, false, false] (fun _ => [(2, .pointer (some ⟨γ1 0, 0, none⟩)), (3, .pointer (some ⟨γ227 0, 0, none⟩)), (5, .pointer (some ⟨γ318 0, 0, none⟩)), (17, .slice p n cap), (18, .int .i64 (n : Nat)), (19, .int .i64 (j : Nat)), (39, .int .u64 (if (x317.w.ord : Int) < (od : Int) then x317.w.ord else od)), (46, .bool false), (47, .pointer (some ⟨γ227 0, 4, none⟩))]) (fun _ => bx (γ318 0) (#[.int .i64 x317.r.id, .int .i64 x317.r.each, .int .u64 x317.r.th, .int .u64 x317.r.tl, .int .u64 x317.r.tw, .int .i64 x317.w.id, .int .u64 x317.w.ord, .bool x317.w.fresh]) 78 :: bx (γ227 0) (#[.slice po nu co, .int .u64 f.hi, .int .u64 f.lo, .int .u64 f.w, .int .u64 od, .bool false]) 47 :: bx (γ1 0) (#[.slice none 0 0, .int .u64 0, .int .u64 0, .int .u64 0, .int .u64 0, .bool false]) 47 :: (Yo ++ [])) ?_ (fun hmx12 => ?_)
     ·
      rintro _ _
      refine a1 14 rfl ?_
      refine mo0 1 [(14, .go (owns 1 4 1))] [2, 3, 5, 17, 18, 19, 46] (fun _ => []) (fun _ L => (L.set 1 (bx (γ227 0) (#[.slice po nu co, .int .u64 f.hi, .int .u64 f.lo, .int .u64 f.w, .int .u64 (if (x317.w.ord : Int) < (od : Int) then x317.w.ord else od), .bool false]) 47))) (fun _ => ?_)
      refine od_ ?_
      refine tk (m := 1) [15] [] [2, 3, 5, 17, 18, 19, 46] [(48, .pointer (some ⟨γ227 0, 5, none⟩))] ([]) #[true, true, true, true, true, true, true, true, true, true, true, true, true, true, true, true, false] al0 ?_
      exact wk (hmx13 () trivial) [2, 3, 5, 17, 18, 19, 46, 48] [[_], [_], [_], _] [0, 1, 2, 3] rfl rfl
     refine any_cutX (V := Unit) (fun _ => True) 4 #[true, true, true, true, true, true, true, true, true, true, true, false, false, true, true, false, false] (fun _ => [(2, .pointer (some ⟨γ1 0, 0, none⟩)), (3, .pointer (some ⟨γ227 0, 0, none⟩)), (5, .pointer (some ⟨γ318 0, 0, none⟩)), (17, .slice p n cap), (18, .int .i64 (n : Nat)), (19, .int .i64 (j : Nat)), (42, .bool false), (44, undef)]) (fun _ => bx (γ318 0) (#[.int .i64 x317.r.id, .int .i64 x317.r.each, .int .u64 x317.r.th, .int .u64 x317.r.tl, .int .u64 x317.r.tw, .int .i64 x317.w.id, .int .u64 x317.w.ord, .bool x317.w.fresh]) 78 :: bx (γ227 0) (#[.slice po nu co, .int .u64 f.hi, .int .u64 f.lo, .int .u64 f.w, .int .u64 (if (x317.w.ord : Int) < (od : Int) then x317.w.ord else od), .bool false]) 47 :: bx (γ1 0) (#[.slice none 0 0, .int .u64 0, .int .u64 0, .int .u64 0, .int .u64 0, .bool false]) 47 :: (Yo ++ [])) ?_ (fun hmx11 => ?_)
     ·
      rintro _ _
      refine a1 11 rfl ?_
      refine qo0 1 [] [2, 3, 5, 17, 18, 19, 42] [(45, undef)] ?_
      refine od_ ?_
      refine tk (m := 1) [12, 15] [] [2, 3, 5, 17, 18, 19] [(46, .bool false), (48, .pointer (some ⟨γ227 0, 5, none⟩))] ([]) #[true, true, true, true, true, true, true, true, true, true, true, true, true, true, true, true, false] al0 ?_
      exact wk (hmx13 () trivial) [2, 3, 5, 17, 18, 19, 46, 48] [[_], [_], [_], _] [0, 1, 2, 3] rfl rfl
     refine any_cutX (V := Unit) (fun _ => True) 5 #[true, true, true, true, true, true, true, true, true, true, true, false, false, true, false, false, false] (fun _ => [(2, .pointer (some ⟨γ1 0, 0, none⟩)), (3, .pointer (some ⟨γ227 0, 0, none⟩)), (5, .pointer (some ⟨γ318 0, 0, none⟩)), (17, .slice p n cap), (18, .int .i64 (n : Nat)), (19, .int .i64 (j : Nat)), (39, .int .u64 (if (x317.w.ord : Int) < (od : Int) then x317.w.ord else od)), (42, .bool false), (44, undef), (47, .pointer (some ⟨γ227 0, 4, none⟩))]) (fun _ => bx (γ318 0) (#[.int .i64 x317.r.id, .int .i64 x317.r.each, .int .u64 x317.r.th, .int .u64 x317.r.tl, .int .u64 x317.r.tw, .int .i64 x317.w.id, .int .u64 x317.w.ord, .bool x317.w.fresh]) 78 :: bx (γ227 0) (#[.slice po nu co, .int .u64 f.hi, .int .u64 f.lo, .int .u64 f.w, .int .u64 od, .bool false]) 47 :: bx (γ1 0) (#[.slice none 0 0, .int .u64 0, .int .u64 0, .int .u64 0, .int .u64 0, .bool false]) 47 :: (Yo ++ [])) ?_ (fun hmx10 => ?_)
     ·
      rintro _ _
      refine any_fork [11, 14] (by kernel_rfl) (by simp) (each_cons _ rfl ?_ (each_cons _ rfl ?_ (each_nil)))
      ·
       refine qo0 1 [] [2, 3, 5, 17, 18, 19, 39, 42, 47] [(45, undef)] ?_
       refine od_ ?_
       refine tk (m := 3) [12] [] [2, 3, 5, 17, 18, 19, 39, 47] [(46, .bool false)] ([]) #[true, true, true, true, true, true, true, true, true, true, true, true, true, true, false, false, false] al0 ?_
       exact wk (hmx12 () trivial) [2, 3, 5, 17, 18, 19, 39, 46, 47] [[_], [_], [_], _] [0, 1, 2, 3] rfl rfl
      ·
       refine mo0 1 [(14, .go (owns 1 4 1))] [2, 3, 5, 17, 18, 19, 42, 44] (fun _ => []) (fun _ L => (L.set 1 (bx (γ227 0) (#[.slice po nu co, .int .u64 f.hi, .int .u64 f.lo, .int .u64 f.w, .int .u64 (if (x317.w.ord : Int) < (od : Int) then x317.w.ord else od), .bool false]) 47))) (fun _ => ?_)
       refine od_ ?_
       exact wk (hmx11 () trivial) [2, 3, 5, 17, 18, 19, 42, 44] [[_], [_], [_], _] [0, 1, 2, 3] rfl rfl
     refine any_cutX (V := Unit) (fun _ => True) 6 #[true, false, true, true, true, false, true, true, true, true, true, true, true, false, false, false, false] (fun _ => [(2, .pointer (some ⟨γ1 0, 0, none⟩)), (3, .pointer (some ⟨γ227 0, 0, none⟩)), (5, .pointer (some ⟨γ318 0, 0, none⟩)), (17, .slice p n cap), (18, .int .i64 (n : Nat)), (19, .int .i64 (j : Nat)), (34, .pointer (some ⟨γ227 0, 4, none⟩)), (38, .int .u64 x317.w.ord), (46, .bool false)]) (fun _ => bx (γ318 0) (#[.int .i64 x317.r.id, .int .i64 x317.r.each, .int .u64 x317.r.th, .int .u64 x317.r.tl, .int .u64 x317.r.tw, .int .i64 x317.w.id, .int .u64 x317.w.ord, .bool x317.w.fresh]) 78 :: bx (γ227 0) (#[.slice po nu co, .int .u64 f.hi, .int .u64 f.lo, .int .u64 f.w, .int .u64 od, .bool false]) 47 :: bx (γ1 0) (#[.slice none 0 0, .int .u64 0, .int .u64 0, .int .u64 0, .int .u64 0, .bool false]) 47 :: (Yo ++ [])) ?_ (fun hmx9 => ?_)
     ·
      rintro _ _
      refine a1 1 rfl ?_
      refine qo0 1 [(1, .go (owns 1 4 1))] [2, 3, 5, 17, 18, 19, 38, 46] [(35, .int .u64 od)] ?_
      refine od_ ?_
      refine tk (m := 3) [5, 13] [] [2, 3, 5, 17, 18, 19, 46] [(39, .int .u64 (if (x317.w.ord : Int) < (od : Int) then x317.w.ord else od)), (47, .pointer (some ⟨γ227 0, 4, none⟩))] ([]) #[true, true, true, true, true, true, true, true, true, true, true, true, true, true, false, false, false] al0 ?_
      exact wk (hmx12 () trivial) [2, 3, 5, 17, 18, 19, 39, 46, 47] [[_], [_], [_], _] [0, 1, 2, 3] rfl rfl
     refine any_cutX (V := Unit) (fun _ => True) 6 #[true, true, true, true, false, false, true, true, true, true, true, true, true, false, false, false, false] (fun _ => [(2, .pointer (some ⟨γ1 0, 0, none⟩)), (3, .pointer (some ⟨γ227 0, 0, none⟩)), (5, .pointer (some ⟨γ318 0, 0, none⟩)), (17, .slice p n cap), (18, .int .i64 (n : Nat)), (19, .int .i64 (j : Nat)), (35, .int .u64 od), (37, .pointer (some ⟨γ318 0, 6, none⟩)), (46, .bool false)]) (fun _ => bx (γ318 0) (#[.int .i64 x317.r.id, .int .i64 x317.r.each, .int .u64 x317.r.th, .int .u64 x317.r.tl, .int .u64 x317.r.tw, .int .i64 x317.w.id, .int .u64 x317.w.ord, .bool x317.w.fresh]) 78 :: bx (γ227 0) (#[.slice po nu co, .int .u64 f.hi, .int .u64 f.lo, .int .u64 f.w, .int .u64 od, .bool false]) 47 :: bx (γ1 0) (#[.slice none 0 0, .int .u64 0, .int .u64 0, .int .u64 0, .int .u64 0, .bool false]) 47 :: (Yo ++ [])) ?_ (fun hmx8 => ?_)
     ·
      rintro _ _
      refine a1 4 rfl ?_
      refine qo0 1 [(4, .go (owns 0 6 1))] [2, 3, 5, 17, 18, 19, 35, 46] [(38, .int .u64 x317.w.ord)] ?_
      refine od_ ?_
      refine tk (m := 3) [5, 13] [] [2, 3, 5, 17, 18, 19, 46] [(39, .int .u64 (if (x317.w.ord : Int) < (od : Int) then x317.w.ord else od)), (47, .pointer (some ⟨γ227 0, 4, none⟩))] ([]) #[true, true, true, true, true, true, true, true, true, true, true, true, true, true, false, false, false] al0 ?_
      exact wk (hmx12 () trivial) [2, 3, 5, 17, 18, 19, 39, 46, 47] [[_], [_], [_], _] [0, 1, 2, 3] rfl rfl
     refine any_cutX (V := Unit) (fun _ => True) 7 #[true, false, true, true, false, false, true, true, true, true, true, true, true, false, false, false, false] (fun _ => [(2, .pointer (some ⟨γ1 0, 0, none⟩)), (3, .pointer (some ⟨γ227 0, 0, none⟩)), (5, .pointer (some ⟨γ318 0, 0, none⟩)), (17, .slice p n cap), (18, .int .i64 (n : Nat)), (19, .int .i64 (j : Nat)), (34, .pointer (some ⟨γ227 0, 4, none⟩)), (37, .pointer (some ⟨γ318 0, 6, none⟩)), (46, .bool false)]) (fun _ => bx (γ318 0) (#[.int .i64 x317.r.id, .int .i64 x317.r.each, .int .u64 x317.r.th, .int .u64 x317.r.tl, .int .u64 x317.r.tw, .int .i64 x317.w.id, .int .u64 x317.w.ord, .bool x317.w.fresh]) 78 :: bx (γ227 0) (#[.slice po nu co, .int .u64 f.hi, .int .u64 f.lo, .int .u64 f.w, .int .u64 od, .bool false]) 47 :: bx (γ1 0) (#[.slice none 0 0, .int .u64 0, .int .u64 0, .int .u64 0, .int .u64 0, .bool false]) 47 :: (Yo ++ [])) ?_ (fun hmx7 => ?_)
     ·
      rintro _ _
      refine any_fork [1, 4] (by kernel_rfl) (by simp) (each_cons _ rfl ?_ (each_cons _ rfl ?_ (each_nil)))
      ·
       refine qo0 1 [(1, .go (owns 1 4 1))] [2, 3, 5, 17, 18, 19, 37, 46] [(35, .int .u64 od)] ?_
       refine od_ ?_
       exact wk (hmx8 () trivial) [2, 3, 5, 17, 18, 19, 35, 37, 46] [[_], [_], [_], _] [0, 1, 2, 3] rfl rfl
      ·
       refine qo0 1 [(4, .go (owns 0 6 1))] [2, 3, 5, 17, 18, 19, 34, 46] [(38, .int .u64 x317.w.ord)] ?_
       refine od_ ?_
       exact wk (hmx9 () trivial) [2, 3, 5, 17, 18, 19, 34, 38, 46] [[_], [_], [_], _] [0, 1, 2, 3] rfl rfl
     refine any_cutX (V := Unit) (fun _ => True) 8 #[true, false, true, true, true, false, true, true, true, true, true, false, false, false, false, false, false] (fun _ => [(2, .pointer (some ⟨γ1 0, 0, none⟩)), (3, .pointer (some ⟨γ227 0, 0, none⟩)), (5, .pointer (some ⟨γ318 0, 0, none⟩)), (17, .slice p n cap), (18, .int .i64 (n : Nat)), (19, .int .i64 (j : Nat)), (34, .pointer (some ⟨γ227 0, 4, none⟩)), (38, .int .u64 x317.w.ord), (42, .bool false), (44, undef)]) (fun _ => bx (γ318 0) (#[.int .i64 x317.r.id, .int .i64 x317.r.each, .int .u64 x317.r.th, .int .u64 x317.r.tl, .int .u64 x317.r.tw, .int .i64 x317.w.id, .int .u64 x317.w.ord, .bool x317.w.fresh]) 78 :: bx (γ227 0) (#[.slice po nu co, .int .u64 f.hi, .int .u64 f.lo, .int .u64 f.w, .int .u64 od, .bool false]) 47 :: bx (γ1 0) (#[.slice none 0 0, .int .u64 0, .int .u64 0, .int .u64 0, .int .u64 0, .bool false]) 47 :: (Yo ++ [])) ?_ (fun hmx6 => ?_)
     ·
      rintro _ _
      refine any_fork [1, 11] (by kernel_rfl) (by simp) (each_cons _ rfl ?_ (each_cons _ rfl ?_ (each_nil)))
      ·
       refine qo0 1 [(1, .go (owns 1 4 1))] [2, 3, 5, 17, 18, 19, 38, 42, 44] [(35, .int .u64 od)] ?_
       refine od_ ?_
       refine tk (m := 5) [5, 13] [] [2, 3, 5, 17, 18, 19, 42, 44] [(39, .int .u64 (if (x317.w.ord : Int) < (od : Int) then x317.w.ord else od)), (47, .pointer (some ⟨γ227 0, 4, none⟩))] ([]) #[true, true, true, true, true, true, true, true, true, true, true, false, false, true, false, false, false] al0 ?_
       exact wk (hmx10 () trivial) [2, 3, 5, 17, 18, 19, 39, 42, 44, 47] [[_], [_], [_], _] [0, 1, 2, 3] rfl rfl
      ·
       refine qo0 1 [] [2, 3, 5, 17, 18, 19, 34, 38, 42] [(45, undef)] ?_
       refine od_ ?_
       refine tk (m := 6) [12] [] [2, 3, 5, 17, 18, 19, 34, 38] [(46, .bool false)] ([]) #[true, false, true, true, true, false, true, true, true, true, true, true, true, false, false, false, false] al0 ?_
       exact wk (hmx9 () trivial) [2, 3, 5, 17, 18, 19, 34, 38, 46] [[_], [_], [_], _] [0, 1, 2, 3] rfl rfl
     refine any_cutX (V := Unit) (fun _ => True) 8 #[true, true, true, true, false, false, true, true, true, true, true, false, false, false, false, false, false] (fun _ => [(2, .pointer (some ⟨γ1 0, 0, none⟩)), (3, .pointer (some ⟨γ227 0, 0, none⟩)), (5, .pointer (some ⟨γ318 0, 0, none⟩)), (17, .slice p n cap), (18, .int .i64 (n : Nat)), (19, .int .i64 (j : Nat)), (35, .int .u64 od), (37, .pointer (some ⟨γ318 0, 6, none⟩)), (42, .bool false), (44, undef)]) (fun _ => bx (γ318 0) (#[.int .i64 x317.r.id, .int .i64 x317.r.each, .int .u64 x317.r.th, .int .u64 x317.r.tl, .int .u64 x317.r.tw, .int .i64 x317.w.id, .int .u64 x317.w.ord, .bool x317.w.fresh]) 78 :: bx (γ227 0) (#[.slice po nu co, .int .u64 f.hi, .int .u64 f.lo, .int .u64 f.w, .int .u64 od, .bool false]) 47 :: bx (γ1 0) (#[.slice none 0 0, .int .u64 0, .int .u64 0, .int .u64 0, .int .u64 0, .bool false]) 47 :: (Yo ++ [])) ?_ (fun hmx5 => ?_)
     ·
      rintro _ _
      refine any_fork [4, 11] (by kernel_rfl) (by simp) (each_cons _ rfl ?_ (each_cons _ rfl ?_ (each_nil)))
      ·
       refine qo0 1 [(4, .go (owns 0 6 1))] [2, 3, 5, 17, 18, 19, 35, 42, 44] [(38, .int .u64 x317.w.ord)] ?_
       refine od_ ?_
       refine tk (m := 5) [5, 13] [] [2, 3, 5, 17, 18, 19, 42, 44] [(39, .int .u64 (if (x317.w.ord : Int) < (od : Int) then x317.w.ord else od)), (47, .pointer (some ⟨γ227 0, 4, none⟩))] ([]) #[true, true, true, true, true, true, true, true, true, true, true, false, false, true, false, false, false] al0 ?_
       exact wk (hmx10 () trivial) [2, 3, 5, 17, 18, 19, 39, 42, 44, 47] [[_], [_], [_], _] [0, 1, 2, 3] rfl rfl
      ·
       refine qo0 1 [] [2, 3, 5, 17, 18, 19, 35, 37, 42] [(45, undef)] ?_
       refine od_ ?_
       refine tk (m := 6) [12] [] [2, 3, 5, 17, 18, 19, 35, 37] [(46, .bool false)] ([]) #[true, true, true, true, false, false, true, true, true, true, true, true, true, false, false, false, false] al0 ?_
       exact wk (hmx8 () trivial) [2, 3, 5, 17, 18, 19, 35, 37, 46] [[_], [_], [_], _] [0, 1, 2, 3] rfl rfl
     refine any_cutX (V := Unit) (fun _ => True) 9 #[true, false, true, true, false, false, true, true, true, true, true, false, false, false, false, false, false] (fun _ => [(2, .pointer (some ⟨γ1 0, 0, none⟩)), (3, .pointer (some ⟨γ227 0, 0, none⟩)), (5, .pointer (some ⟨γ318 0, 0, none⟩)), (17, .slice p n cap), (18, .int .i64 (n : Nat)), (19, .int .i64 (j : Nat)), (34, .pointer (some ⟨γ227 0, 4, none⟩)), (37, .pointer (some ⟨γ318 0, 6, none⟩)), (42, .bool false), (44, undef)]) (fun _ => bx (γ318 0) (#[.int .i64 x317.r.id, .int .i64 x317.r.each, .int .u64 x317.r.th, .int .u64 x317.r.tl, .int .u64 x317.r.tw, .int .i64 x317.w.id, .int .u64 x317.w.ord, .bool x317.w.fresh]) 78 :: bx (γ227 0) (#[.slice po nu co, .int .u64 f.hi, .int .u64 f.lo, .int .u64 f.w, .int .u64 od, .bool false]) 47 :: bx (γ1 0) (#[.slice none 0 0, .int .u64 0, .int .u64 0, .int .u64 0, .int .u64 0, .bool false]) 47 :: (Yo ++ [])) ?_ (fun hmx4 => ?_)
     ·
      rintro _ _
      refine any_fork [1, 4, 11] (by kernel_rfl) (by simp) (each_cons _ rfl ?_ (each_cons _ rfl ?_ (each_cons _ rfl ?_ (each_nil))))
      ·
       refine qo0 1 [(1, .go (owns 1 4 1))] [2, 3, 5, 17, 18, 19, 37, 42, 44] [(35, .int .u64 od)] ?_
       refine od_ ?_
       exact wk (hmx5 () trivial) [2, 3, 5, 17, 18, 19, 35, 37, 42, 44] [[_], [_], [_], _] [0, 1, 2, 3] rfl rfl
      ·
       refine qo0 1 [(4, .go (owns 0 6 1))] [2, 3, 5, 17, 18, 19, 34, 42, 44] [(38, .int .u64 x317.w.ord)] ?_
       refine od_ ?_
       exact wk (hmx6 () trivial) [2, 3, 5, 17, 18, 19, 34, 38, 42, 44] [[_], [_], [_], _] [0, 1, 2, 3] rfl rfl
      ·
       refine qo0 1 [] [2, 3, 5, 17, 18, 19, 34, 37, 42] [(45, undef)] ?_
       refine od_ ?_
       refine tk (m := 7) [12] [] [2, 3, 5, 17, 18, 19, 34, 37] [(46, .bool false)] ([]) #[true, false, true, true, false, false, true, true, true, true, true, true, true, false, false, false, false] al0 ?_
       exact wk (hmx7 () trivial) [2, 3, 5, 17, 18, 19, 34, 37, 46] [[_], [_], [_], _] [0, 1, 2, 3] rfl rfl
     refine any_cutX (V := Unit) (fun _ => True) 10 #[true, true, true, true, true, true, true, false, false, false, false, false, false, false, false, false, false] (fun _ => [(2, .pointer (some ⟨γ1 0, 0, none⟩)), (3, .pointer (some ⟨γ227 0, 0, none⟩)), (5, .pointer (some ⟨γ318 0, 0, none⟩)), (17, .slice p n cap), (18, .int .i64 (n : Nat)), (19, .int .i64 (j : Nat)), (39, .int .u64 (if (x317.w.ord : Int) < (od : Int) then x317.w.ord else od)), (40, .pointer (some ⟨γ227 0, 5, none⟩))]) (fun _ => bx (γ318 0) (#[.int .i64 x317.r.id, .int .i64 x317.r.each, .int .u64 x317.r.th, .int .u64 x317.r.tl, .int .u64 x317.r.tw, .int .i64 x317.w.id, .int .u64 x317.w.ord, .bool x317.w.fresh]) 78 :: bx (γ227 0) (#[.slice po nu co, .int .u64 f.hi, .int .u64 f.lo, .int .u64 f.w, .int .u64 od, .bool false]) 47 :: bx (γ1 0) (#[.slice none 0 0, .int .u64 0, .int .u64 0, .int .u64 0, .int .u64 0, .bool false]) 47 :: (Yo ++ [])) ?_ (fun hmx3 => ?_)
     ·
      rintro _ _
      refine a1 7 rfl ?_
      refine qo0 1 [(7, .go (owns 1 5 1))] [2, 3, 5, 17, 18, 19, 39] [(41, .bool false)] ?_
      refine od_ ?_
      refine tk (m := 5) [8, 9, 10, 13] [] [2, 3, 5, 17, 18, 19, 39] [(42, .bool false), (44, undef), (47, .pointer (some ⟨γ227 0, 4, none⟩))] ([]) #[true, true, true, true, true, true, true, true, true, true, true, false, false, true, false, false, false] al0 ?_
      exact wk (hmx10 () trivial) [2, 3, 5, 17, 18, 19, 39, 42, 44, 47] [[_], [_], [_], _] [0, 1, 2, 3] rfl rfl
     refine any_cutX (V := Unit) (fun _ => True) 12 #[true, false, true, true, true, false, true, false, false, false, false, false, false, false, false, false, false] (fun _ => [(2, .pointer (some ⟨γ1 0, 0, none⟩)), (3, .pointer (some ⟨γ227 0, 0, none⟩)), (5, .pointer (some ⟨γ318 0, 0, none⟩)), (17, .slice p n cap), (18, .int .i64 (n : Nat)), (19, .int .i64 (j : Nat)), (34, .pointer (some ⟨γ227 0, 4, none⟩)), (38, .int .u64 x317.w.ord), (40, .pointer (some ⟨γ227 0, 5, none⟩))]) (fun _ => bx (γ318 0) (#[.int .i64 x317.r.id, .int .i64 x317.r.each, .int .u64 x317.r.th, .int .u64 x317.r.tl, .int .u64 x317.r.tw, .int .i64 x317.w.id, .int .u64 x317.w.ord, .bool x317.w.fresh]) 78 :: bx (γ227 0) (#[.slice po nu co, .int .u64 f.hi, .int .u64 f.lo, .int .u64 f.w, .int .u64 od, .bool false]) 47 :: bx (γ1 0) (#[.slice none 0 0, .int .u64 0, .int .u64 0, .int .u64 0, .int .u64 0, .bool false]) 47 :: (Yo ++ [])) ?_ (fun hmx2 => ?_)
     ·
      rintro _ _
      refine any_fork [1, 7] (by kernel_rfl) (by simp) (each_cons _ rfl ?_ (each_cons _ rfl ?_ (each_nil)))
      ·
       refine qo0 1 [(1, .go (owns 1 4 1))] [2, 3, 5, 17, 18, 19, 38, 40] [(35, .int .u64 od)] ?_
       refine od_ ?_
       refine tk (m := 10) [5] [] [2, 3, 5, 17, 18, 19, 40] [(39, .int .u64 (if (x317.w.ord : Int) < (od : Int) then x317.w.ord else od))] ([]) #[true, true, true, true, true, true, true, false, false, false, false, false, false, false, false, false, false] al0 ?_
       exact wk (hmx3 () trivial) [2, 3, 5, 17, 18, 19, 39, 40] [[_], [_], [_], _] [0, 1, 2, 3] rfl rfl
      ·
       refine qo0 1 [(7, .go (owns 1 5 1))] [2, 3, 5, 17, 18, 19, 34, 38] [(41, .bool false)] ?_
       refine od_ ?_
       refine tk (m := 8) [8, 9, 10] [] [2, 3, 5, 17, 18, 19, 34, 38] [(42, .bool false), (44, undef)] ([]) #[true, false, true, true, true, false, true, true, true, true, true, false, false, false, false, false, false] al0 ?_
       exact wk (hmx6 () trivial) [2, 3, 5, 17, 18, 19, 34, 38, 42, 44] [[_], [_], [_], _] [0, 1, 2, 3] rfl rfl
     refine any_cutX (V := Unit) (fun _ => True) 12 #[true, true, true, true, false, false, true, false, false, false, false, false, false, false, false, false, false] (fun _ => [(2, .pointer (some ⟨γ1 0, 0, none⟩)), (3, .pointer (some ⟨γ227 0, 0, none⟩)), (5, .pointer (some ⟨γ318 0, 0, none⟩)), (17, .slice p n cap), (18, .int .i64 (n : Nat)), (19, .int .i64 (j : Nat)), (35, .int .u64 od), (37, .pointer (some ⟨γ318 0, 6, none⟩)), (40, .pointer (some ⟨γ227 0, 5, none⟩))]) (fun _ => bx (γ318 0) (#[.int .i64 x317.r.id, .int .i64 x317.r.each, .int .u64 x317.r.th, .int .u64 x317.r.tl, .int .u64 x317.r.tw, .int .i64 x317.w.id, .int .u64 x317.w.ord, .bool x317.w.fresh]) 78 :: bx (γ227 0) (#[.slice po nu co, .int .u64 f.hi, .int .u64 f.lo, .int .u64 f.w, .int .u64 od, .bool false]) 47 :: bx (γ1 0) (#[.slice none 0 0, .int .u64 0, .int .u64 0, .int .u64 0, .int .u64 0, .bool false]) 47 :: (Yo ++ [])) ?_ (fun hmx1 => ?_)
     ·
      rintro _ _
      refine any_fork [4, 7] (by kernel_rfl) (by simp) (each_cons _ rfl ?_ (each_cons _ rfl ?_ (each_nil)))
      ·
       refine qo0 1 [(4, .go (owns 0 6 1))] [2, 3, 5, 17, 18, 19, 35, 40] [(38, .int .u64 x317.w.ord)] ?_
       refine od_ ?_
       refine tk (m := 10) [5] [] [2, 3, 5, 17, 18, 19, 40] [(39, .int .u64 (if (x317.w.ord : Int) < (od : Int) then x317.w.ord else od))] ([]) #[true, true, true, true, true, true, true, false, false, false, false, false, false, false, false, false, false] al0 ?_
       exact wk (hmx3 () trivial) [2, 3, 5, 17, 18, 19, 39, 40] [[_], [_], [_], _] [0, 1, 2, 3] rfl rfl
      ·
       refine qo0 1 [(7, .go (owns 1 5 1))] [2, 3, 5, 17, 18, 19, 35, 37] [(41, .bool false)] ?_
       refine od_ ?_
       refine tk (m := 8) [8, 9, 10] [] [2, 3, 5, 17, 18, 19, 35, 37] [(42, .bool false), (44, undef)] ([]) #[true, true, true, true, false, false, true, true, true, true, true, false, false, false, false, false, false] al0 ?_
       exact wk (hmx5 () trivial) [2, 3, 5, 17, 18, 19, 35, 37, 42, 44] [[_], [_], [_], _] [0, 1, 2, 3] rfl rfl
     refine any_fork [1, 4, 7] (by kernel_rfl) (by simp) (each_cons _ rfl ?_ (each_cons _ rfl ?_ (each_cons _ rfl ?_ (each_nil))))
     ·
      refine qo0 1 [(1, .go (owns 1 4 1))] [2, 3, 5, 17, 18, 19, 37, 40] [(35, .int .u64 od)] ?_
      refine od_ ?_
      exact wk (hmx1 () trivial) [2, 3, 5, 17, 18, 19, 35, 37, 40] [[_], [_], [_], _] [0, 1, 2, 3] rfl rfl
     ·
      refine qo0 1 [(4, .go (owns 0 6 1))] [2, 3, 5, 17, 18, 19, 34, 40] [(38, .int .u64 x317.w.ord)] ?_
      refine od_ ?_
      exact wk (hmx2 () trivial) [2, 3, 5, 17, 18, 19, 34, 38, 40] [[_], [_], [_], _] [0, 1, 2, 3] rfl rfl
     ·
      refine qo0 1 [(7, .go (owns 1 5 1))] [2, 3, 5, 17, 18, 19, 34, 37] [(41, .bool false)] ?_
      refine od_ ?_
      refine tk (m := 9) [8, 9, 10] [] [2, 3, 5, 17, 18, 19, 34, 37] [(42, .bool false), (44, undef)] ([]) #[true, false, true, true, false, false, true, true, true, true, true, false, false, false, false, false, false] al0 ?_
      exact wk (hmx4 () trivial) [2, 3, 5, 17, 18, 19, 34, 37, 42, 44] [[_], [_], [_], _] [0, 1, 2, 3] rfl rfl
    rintro _ _
    refine any_nil (by kernel_rfl) ?_
    refine ds_ (ao_ (mo0 6 [(1, .go (owns 1 0 1)), (4, .go (owns 0 0 1))] [2, 3, 17, 18, 19] (fun γ1559 => [(50, .slice po nu co), (54, .slice (some ⟨γ1559 0, 0, none⟩) 1 1)]) (fun γ1559 L => bx (γ1559 0) (#[.int .i64 x317.r.id]) 3 :: L) (fun γ1559 => ops_append (α := Int) [bx (γ1559 0) (#[.int .i64 x317.r.id]) 3, bx (γ318 0) (#[.int .i64 x317.r.id, .int .i64 x317.r.each, .int .u64 x317.r.th, .int .u64 x317.r.tl, .int .u64 x317.r.tw, .int .i64 x317.w.id, .int .u64 x317.w.ord, .bool x317.w.fresh]) 78, bx (γ227 0) (#[.slice po nu co, .int .u64 f.hi, .int .u64 f.lo, .int .u64 f.w, .int .u64 (if (x317.w.ord : Int) < (od : Int) then x317.w.ord else od), .bool false]) 47, bx (γ1 0) (#[.slice none 0 0, .int .u64 0, .int .u64 0, .int .u64 0, .int .u64 0, .bool false]) 47] Yo ([]) (.refl _) rfl (by kernel_rfl) (by kernel_rfl) (p := po) (n := nu) (cap := co) (m := 1) (yv := .slice (some ⟨γ1559 0, 0, none⟩) 1 1) (by kernel_rfl) (by kernel_rfl) (T := 3) (by_ := 8) (by kernel_rfl) (memP l j) ([x317.r.id]) hO (fun w hw => src_svn Try.underlying40 (sv_row (hw.row 0 rfl) (by rfl)) (by rfl)) (by rfl) (by have hmx : maxLen = 9223372036854775807 := rfl; omega) (by have hmx : maxLen = 9223372036854775807 := rfl; omega) (fun Y1560 p1560 cap1560 hO1560 => mo0 2 [(8, .go (owns 2 0 1))] [2, 3, 17, 18, 19] (fun _ => []) (fun _ L => (L.set 2 (bx (γ227 0) (#[.slice p1560 (nu + 1) cap1560, .int .u64 f.hi, .int .u64 f.lo, .int .u64 f.w, .int .u64 (if (x317.w.ord : Int) < (od : Int) then x317.w.ord else od), .bool false]) 47))) (fun _ => on_ (done_block (ds_ (qa [(0, .fit)] [2, 3, 17, 18] [(19, .int .i64 (j + 1 : Nat))] ([Fit .i64 ((j + 1 : Nat))]) (al1 (fit64 (by omega) (by omega))) (Done.pick [[bx (γ1559 0) (#[.int .i64 x317.r.id]) 3], [bx (γ318 0) (#[.int .i64 x317.r.id, .int .i64 x317.r.each, .int .u64 x317.r.th, .int .u64 x317.r.tl, .int .u64 x317.r.tw, .int .i64 x317.w.id, .int .u64 x317.w.ord, .bool x317.w.fresh]) 78], [bx (γ227 0) (#[.slice p1560 (nu + 1) cap1560, .int .u64 f.hi, .int .u64 f.lo, .int .u64 f.w, .int .u64 (if (x317.w.ord : Int) < (od : Int) then x317.w.ord else od), .bool false]) 47], [bx (γ1 0) (#[.slice none 0 0, .int .u64 0, .int .u64 0, .int .u64 0, .int .u64 0, .bool false]) 47], Y1560] [2, 3, 4] [0, 1] (bx (γ227 0) (#[.slice p1560 (nu + 1) cap1560, .int .u64 f.hi, .int .u64 f.lo, .int .u64 f.w, .int .u64 (if (x317.w.ord : Int) < (od : Int) then x317.w.ord else od), .bool false]) 47 :: bx (γ1 0) (#[.slice none 0 0, .int .u64 0, .int .u64 0, .int .u64 0, .int .u64 0, .bool false]) 47 :: (Y1560 ++ [])) (by kernel_rfl) rfl rfl ?_)))))))))
    exact dr [2, 3, 17, 18, 19] (j + 1, Y1560, p1560, (nu + 1), cap1560, f, (if (x317.w.ord : Int) < (od : Int) then x317.w.ord else od), false) ⟨by omega, by omega, hUf, one_onT hx317 hE (by rw [if_neg (by omega)]) rfl (by rw [q1150]; rfl), by rw [memP_on hx317]; exact hO1560⟩
   ·
    refine at_any (by kernel_rfl) ?_
    refine tk (m := 13) [0, 2, 3, 6] [] [2, 3, 5, 17, 18, 19] [(34, .pointer (some ⟨γ227 0, 4, none⟩)), (37, .pointer (some ⟨γ318 0, 6, none⟩)), (40, .pointer (some ⟨γ227 0, 5, none⟩))] ([]) #[true, false, true, true, false, false, true, false, false, false, false, false, false, false, false, false, false] al0 ?_
    refine any_cutX (V := Unit) (fun _ => True) 0 #[true, true, true, true, true, true, true, true, true, true, true, true, true, true, true, true, true] (fun _ => [(2, .pointer (some ⟨γ1 0, 0, none⟩)), (3, .pointer (some ⟨γ227 0, 0, none⟩)), (5, .pointer (some ⟨γ318 0, 0, none⟩)), (17, .slice p n cap), (18, .int .i64 (n : Nat)), (19, .int .i64 (j : Nat))]) (fun _ => bx (γ318 0) (#[.int .i64 x317.r.id, .int .i64 x317.r.each, .int .u64 x317.r.th, .int .u64 x317.r.tl, .int .u64 x317.r.tw, .int .i64 x317.w.id, .int .u64 x317.w.ord, .bool x317.w.fresh]) 78 :: bx (γ227 0) (#[.slice po nu co, .int .u64 f.hi, .int .u64 f.lo, .int .u64 f.w, .int .u64 (if (x317.w.ord : Int) < (od : Int) then x317.w.ord else od), .bool x317.w.fresh]) 47 :: bx (γ1 0) (#[.slice none 0 0, .int .u64 0, .int .u64 0, .int .u64 0, .int .u64 0, .bool false]) 47 :: (Yo ++ [])) ?_ (fun hmx14 => ?_)
    rotate_left
    ·
     refine any_cutX (V := Unit) (fun _ => True) 1 #[true, true, true, true, true, true, true, true, true, true, true, true, true, true, true, true, false] (fun _ => [(2, .pointer (some ⟨γ1 0, 0, none⟩)), (3, .pointer (some ⟨γ227 0, 0, none⟩)), (5, .pointer (some ⟨γ318 0, 0, none⟩)), (17, .slice p n cap), (18, .int .i64 (n : Nat)), (19, .int .i64 (j : Nat)), (46, .bool x317.w.fresh), (48, .pointer (some ⟨γ227 0, 5, none⟩))]) (fun _ => bx (γ318 0) (#[.int .i64 x317.r.id, .int .i64 x317.r.each, .int .u64 x317.r.th, .int .u64 x317.r.tl, .int .u64 x317.r.tw, .int .i64 x317.w.id, .int .u64 x317.w.ord, .bool x317.w.fresh]) 78 :: bx (γ227 0) (#[.slice po nu co, .int .u64 f.hi, .int .u64 f.lo, .int .u64 f.w, .int .u64 (if (x317.w.ord : Int) < (od : Int) then x317.w.ord else od), .bool true]) 47 :: bx (γ1 0) (#[.slice none 0 0, .int .u64 0, .int .u64 0, .int .u64 0, .int .u64 0, .bool false]) 47 :: (Yo ++ [])) ?_ (fun hmx13 => ?_)
     ·
      rintro _ _
      refine a1 16 rfl ?_
      refine mo0 1 [(16, .go (owns 1 5 1))] [2, 3, 5, 17, 18, 19] (fun _ => []) (fun _ L => (L.set 1 (bx (γ227 0) (#[.slice po nu co, .int .u64 f.hi, .int .u64 f.lo, .int .u64 f.w, .int .u64 (if (x317.w.ord : Int) < (od : Int) then x317.w.ord else od), .bool x317.w.fresh]) 47))) (fun _ => ?_)
      refine od_ ?_
      exact wk (hmx14 () trivial) [2, 3, 5, 17, 18, 19] [[_], [_], [_], _] [0, 1, 2, 3] rfl rfl
     refine any_cutX (V := Unit) (fun _ => True) 3 #[true, true, true, true, true, true, true, true, true, true, true, true, true, true, false, false, false] (fun _ => [(2, .pointer (some ⟨γ1 0, 0, none⟩)), (3, .pointer (some ⟨γ227 0, 0, none⟩)), (5, .pointer (some ⟨γ318 0, 0, none⟩)), (17, .slice p n cap), (18, .int .i64 (n : Nat)), (19, .int .i64 (j : Nat)), (39, .int .u64 (if (x317.w.ord : Int) < (od : Int) then x317.w.ord else od)), (46, .bool x317.w.fresh), (47, .pointer (some ⟨γ227 0, 4, none⟩))]) (fun _ => bx (γ318 0) (#[.int .i64 x317.r.id, .int .i64 x317.r.each, .int .u64 x317.r.th, .int .u64 x317.r.tl, .int .u64 x317.r.tw, .int .i64 x317.w.id, .int .u64 x317.w.ord, .bool x317.w.fresh]) 78 :: bx (γ227 0) (#[.slice po nu co, .int .u64 f.hi, .int .u64 f.lo, .int .u64 f.w, .int .u64 od, .bool true]) 47 :: bx (γ1 0) (#[.slice none 0 0, .int .u64 0, .int .u64 0, .int .u64 0, .int .u64 0, .bool false]) 47 :: (Yo ++ [])) ?_ (fun hmx12 => ?_)
     ·
      rintro _ _
      refine a1 14 rfl ?_
      refine mo0 1 [(14, .go (owns 1 4 1))] [2, 3, 5, 17, 18, 19, 46] (fun _ => []) (fun _ L => (L.set 1 (bx (γ227 0) (#[.slice po nu co, .int .u64 f.hi, .int .u64 f.lo, .int .u64 f.w, .int .u64 (if (x317.w.ord : Int) < (od : Int) then x317.w.ord else od), .bool true]) 47))) (fun _ => ?_)
      refine od_ ?_
      refine tk (m := 1) [15] [] [2, 3, 5, 17, 18, 19, 46] [(48, .pointer (some ⟨γ227 0, 5, none⟩))] ([]) #[true, true, true, true, true, true, true, true, true, true, true, true, true, true, true, true, false] al0 ?_
      exact wk (hmx13 () trivial) [2, 3, 5, 17, 18, 19, 46, 48] [[_], [_], [_], _] [0, 1, 2, 3] rfl rfl
     refine any_cutX (V := Unit) (fun _ => True) 4 #[true, true, true, true, true, true, true, true, true, true, true, false, false, true, true, false, false] (fun _ => [(2, .pointer (some ⟨γ1 0, 0, none⟩)), (3, .pointer (some ⟨γ227 0, 0, none⟩)), (5, .pointer (some ⟨γ318 0, 0, none⟩)), (17, .slice p n cap), (18, .int .i64 (n : Nat)), (19, .int .i64 (j : Nat)), (42, .bool true), (44, .pointer (some ⟨γ318 0, 7, none⟩))]) (fun _ => bx (γ318 0) (#[.int .i64 x317.r.id, .int .i64 x317.r.each, .int .u64 x317.r.th, .int .u64 x317.r.tl, .int .u64 x317.r.tw, .int .i64 x317.w.id, .int .u64 x317.w.ord, .bool x317.w.fresh]) 78 :: bx (γ227 0) (#[.slice po nu co, .int .u64 f.hi, .int .u64 f.lo, .int .u64 f.w, .int .u64 (if (x317.w.ord : Int) < (od : Int) then x317.w.ord else od), .bool true]) 47 :: bx (γ1 0) (#[.slice none 0 0, .int .u64 0, .int .u64 0, .int .u64 0, .int .u64 0, .bool false]) 47 :: (Yo ++ [])) ?_ (fun hmx11 => ?_)
     ·
      rintro _ _
      refine a1 11 rfl ?_
      refine qo0 1 [(11, .go (owns 0 7 1))] [2, 3, 5, 17, 18, 19, 42] [(45, .bool x317.w.fresh)] ?_
      refine od_ ?_
      refine tk (m := 1) [12, 15] [] [2, 3, 5, 17, 18, 19] [(46, .bool x317.w.fresh), (48, .pointer (some ⟨γ227 0, 5, none⟩))] ([]) #[true, true, true, true, true, true, true, true, true, true, true, true, true, true, true, true, false] al0 ?_
      exact wk (hmx13 () trivial) [2, 3, 5, 17, 18, 19, 46, 48] [[_], [_], [_], _] [0, 1, 2, 3] rfl rfl
     refine any_cutX (V := Unit) (fun _ => True) 5 #[true, true, true, true, true, true, true, true, true, true, true, false, false, true, false, false, false] (fun _ => [(2, .pointer (some ⟨γ1 0, 0, none⟩)), (3, .pointer (some ⟨γ227 0, 0, none⟩)), (5, .pointer (some ⟨γ318 0, 0, none⟩)), (17, .slice p n cap), (18, .int .i64 (n : Nat)), (19, .int .i64 (j : Nat)), (39, .int .u64 (if (x317.w.ord : Int) < (od : Int) then x317.w.ord else od)), (42, .bool true), (44, .pointer (some ⟨γ318 0, 7, none⟩)), (47, .pointer (some ⟨γ227 0, 4, none⟩))]) (fun _ => bx (γ318 0) (#[.int .i64 x317.r.id, .int .i64 x317.r.each, .int .u64 x317.r.th, .int .u64 x317.r.tl, .int .u64 x317.r.tw, .int .i64 x317.w.id, .int .u64 x317.w.ord, .bool x317.w.fresh]) 78 :: bx (γ227 0) (#[.slice po nu co, .int .u64 f.hi, .int .u64 f.lo, .int .u64 f.w, .int .u64 od, .bool true]) 47 :: bx (γ1 0) (#[.slice none 0 0, .int .u64 0, .int .u64 0, .int .u64 0, .int .u64 0, .bool false]) 47 :: (Yo ++ [])) ?_ (fun hmx10 => ?_)
     ·
      rintro _ _
      refine any_fork [11, 14] (by kernel_rfl) (by simp) (each_cons _ rfl ?_ (each_cons _ rfl ?_ (each_nil)))
      ·
       refine qo0 1 [(11, .go (owns 0 7 1))] [2, 3, 5, 17, 18, 19, 39, 42, 47] [(45, .bool x317.w.fresh)] ?_
       refine od_ ?_
       refine tk (m := 3) [12] [] [2, 3, 5, 17, 18, 19, 39, 47] [(46, .bool x317.w.fresh)] ([]) #[true, true, true, true, true, true, true, true, true, true, true, true, true, true, false, false, false] al0 ?_
       exact wk (hmx12 () trivial) [2, 3, 5, 17, 18, 19, 39, 46, 47] [[_], [_], [_], _] [0, 1, 2, 3] rfl rfl
      ·
       refine mo0 1 [(14, .go (owns 1 4 1))] [2, 3, 5, 17, 18, 19, 42, 44] (fun _ => []) (fun _ L => (L.set 1 (bx (γ227 0) (#[.slice po nu co, .int .u64 f.hi, .int .u64 f.lo, .int .u64 f.w, .int .u64 (if (x317.w.ord : Int) < (od : Int) then x317.w.ord else od), .bool true]) 47))) (fun _ => ?_)
       refine od_ ?_
       exact wk (hmx11 () trivial) [2, 3, 5, 17, 18, 19, 42, 44] [[_], [_], [_], _] [0, 1, 2, 3] rfl rfl
     refine any_cutX (V := Unit) (fun _ => True) 6 #[true, false, true, true, true, false, true, true, true, true, true, true, true, false, false, false, false] (fun _ => [(2, .pointer (some ⟨γ1 0, 0, none⟩)), (3, .pointer (some ⟨γ227 0, 0, none⟩)), (5, .pointer (some ⟨γ318 0, 0, none⟩)), (17, .slice p n cap), (18, .int .i64 (n : Nat)), (19, .int .i64 (j : Nat)), (34, .pointer (some ⟨γ227 0, 4, none⟩)), (38, .int .u64 x317.w.ord), (46, .bool x317.w.fresh)]) (fun _ => bx (γ318 0) (#[.int .i64 x317.r.id, .int .i64 x317.r.each, .int .u64 x317.r.th, .int .u64 x317.r.tl, .int .u64 x317.r.tw, .int .i64 x317.w.id, .int .u64 x317.w.ord, .bool x317.w.fresh]) 78 :: bx (γ227 0) (#[.slice po nu co, .int .u64 f.hi, .int .u64 f.lo, .int .u64 f.w, .int .u64 od, .bool true]) 47 :: bx (γ1 0) (#[.slice none 0 0, .int .u64 0, .int .u64 0, .int .u64 0, .int .u64 0, .bool false]) 47 :: (Yo ++ [])) ?_ (fun hmx9 => ?_)
     ·
      rintro _ _
      refine a1 1 rfl ?_
      refine qo0 1 [(1, .go (owns 1 4 1))] [2, 3, 5, 17, 18, 19, 38, 46] [(35, .int .u64 od)] ?_
      refine od_ ?_
      refine tk (m := 3) [5, 13] [] [2, 3, 5, 17, 18, 19, 46] [(39, .int .u64 (if (x317.w.ord : Int) < (od : Int) then x317.w.ord else od)), (47, .pointer (some ⟨γ227 0, 4, none⟩))] ([]) #[true, true, true, true, true, true, true, true, true, true, true, true, true, true, false, false, false] al0 ?_
      exact wk (hmx12 () trivial) [2, 3, 5, 17, 18, 19, 39, 46, 47] [[_], [_], [_], _] [0, 1, 2, 3] rfl rfl
     refine any_cutX (V := Unit) (fun _ => True) 6 #[true, true, true, true, false, false, true, true, true, true, true, true, true, false, false, false, false] (fun _ => [(2, .pointer (some ⟨γ1 0, 0, none⟩)), (3, .pointer (some ⟨γ227 0, 0, none⟩)), (5, .pointer (some ⟨γ318 0, 0, none⟩)), (17, .slice p n cap), (18, .int .i64 (n : Nat)), (19, .int .i64 (j : Nat)), (35, .int .u64 od), (37, .pointer (some ⟨γ318 0, 6, none⟩)), (46, .bool x317.w.fresh)]) (fun _ => bx (γ318 0) (#[.int .i64 x317.r.id, .int .i64 x317.r.each, .int .u64 x317.r.th, .int .u64 x317.r.tl, .int .u64 x317.r.tw, .int .i64 x317.w.id, .int .u64 x317.w.ord, .bool x317.w.fresh]) 78 :: bx (γ227 0) (#[.slice po nu co, .int .u64 f.hi, .int .u64 f.lo, .int .u64 f.w, .int .u64 od, .bool true]) 47 :: bx (γ1 0) (#[.slice none 0 0, .int .u64 0, .int .u64 0, .int .u64 0, .int .u64 0, .bool false]) 47 :: (Yo ++ [])) ?_ (fun hmx8 => ?_)
     ·
      rintro _ _
      refine a1 4 rfl ?_
      refine qo0 1 [(4, .go (owns 0 6 1))] [2, 3, 5, 17, 18, 19, 35, 46] [(38, .int .u64 x317.w.ord)] ?_
      refine od_ ?_
      refine tk (m := 3) [5, 13] [] [2, 3, 5, 17, 18, 19, 46] [(39, .int .u64 (if (x317.w.ord : Int) < (od : Int) then x317.w.ord else od)), (47, .pointer (some ⟨γ227 0, 4, none⟩))] ([]) #[true, true, true, true, true, true, true, true, true, true, true, true, true, true, false, false, false] al0 ?_
      exact wk (hmx12 () trivial) [2, 3, 5, 17, 18, 19, 39, 46, 47] [[_], [_], [_], _] [0, 1, 2, 3] rfl rfl
     refine any_cutX (V := Unit) (fun _ => True) 7 #[true, false, true, true, false, false, true, true, true, true, true, true, true, false, false, false, false] (fun _ => [(2, .pointer (some ⟨γ1 0, 0, none⟩)), (3, .pointer (some ⟨γ227 0, 0, none⟩)), (5, .pointer (some ⟨γ318 0, 0, none⟩)), (17, .slice p n cap), (18, .int .i64 (n : Nat)), (19, .int .i64 (j : Nat)), (34, .pointer (some ⟨γ227 0, 4, none⟩)), (37, .pointer (some ⟨γ318 0, 6, none⟩)), (46, .bool x317.w.fresh)]) (fun _ => bx (γ318 0) (#[.int .i64 x317.r.id, .int .i64 x317.r.each, .int .u64 x317.r.th, .int .u64 x317.r.tl, .int .u64 x317.r.tw, .int .i64 x317.w.id, .int .u64 x317.w.ord, .bool x317.w.fresh]) 78 :: bx (γ227 0) (#[.slice po nu co, .int .u64 f.hi, .int .u64 f.lo, .int .u64 f.w, .int .u64 od, .bool true]) 47 :: bx (γ1 0) (#[.slice none 0 0, .int .u64 0, .int .u64 0, .int .u64 0, .int .u64 0, .bool false]) 47 :: (Yo ++ [])) ?_ (fun hmx7 => ?_)
     ·
      rintro _ _
      refine any_fork [1, 4] (by kernel_rfl) (by simp) (each_cons _ rfl ?_ (each_cons _ rfl ?_ (each_nil)))
      ·
       refine qo0 1 [(1, .go (owns 1 4 1))] [2, 3, 5, 17, 18, 19, 37, 46] [(35, .int .u64 od)] ?_
       refine od_ ?_
       exact wk (hmx8 () trivial) [2, 3, 5, 17, 18, 19, 35, 37, 46] [[_], [_], [_], _] [0, 1, 2, 3] rfl rfl
      ·
       refine qo0 1 [(4, .go (owns 0 6 1))] [2, 3, 5, 17, 18, 19, 34, 46] [(38, .int .u64 x317.w.ord)] ?_
       refine od_ ?_
       exact wk (hmx9 () trivial) [2, 3, 5, 17, 18, 19, 34, 38, 46] [[_], [_], [_], _] [0, 1, 2, 3] rfl rfl
     refine any_cutX (V := Unit) (fun _ => True) 8 #[true, false, true, true, true, false, true, true, true, true, true, false, false, false, false, false, false] (fun _ => [(2, .pointer (some ⟨γ1 0, 0, none⟩)), (3, .pointer (some ⟨γ227 0, 0, none⟩)), (5, .pointer (some ⟨γ318 0, 0, none⟩)), (17, .slice p n cap), (18, .int .i64 (n : Nat)), (19, .int .i64 (j : Nat)), (34, .pointer (some ⟨γ227 0, 4, none⟩)), (38, .int .u64 x317.w.ord), (42, .bool true), (44, .pointer (some ⟨γ318 0, 7, none⟩))]) (fun _ => bx (γ318 0) (#[.int .i64 x317.r.id, .int .i64 x317.r.each, .int .u64 x317.r.th, .int .u64 x317.r.tl, .int .u64 x317.r.tw, .int .i64 x317.w.id, .int .u64 x317.w.ord, .bool x317.w.fresh]) 78 :: bx (γ227 0) (#[.slice po nu co, .int .u64 f.hi, .int .u64 f.lo, .int .u64 f.w, .int .u64 od, .bool true]) 47 :: bx (γ1 0) (#[.slice none 0 0, .int .u64 0, .int .u64 0, .int .u64 0, .int .u64 0, .bool false]) 47 :: (Yo ++ [])) ?_ (fun hmx6 => ?_)
     ·
      rintro _ _
      refine any_fork [1, 11] (by kernel_rfl) (by simp) (each_cons _ rfl ?_ (each_cons _ rfl ?_ (each_nil)))
      ·
       refine qo0 1 [(1, .go (owns 1 4 1))] [2, 3, 5, 17, 18, 19, 38, 42, 44] [(35, .int .u64 od)] ?_
       refine od_ ?_
       refine tk (m := 5) [5, 13] [] [2, 3, 5, 17, 18, 19, 42, 44] [(39, .int .u64 (if (x317.w.ord : Int) < (od : Int) then x317.w.ord else od)), (47, .pointer (some ⟨γ227 0, 4, none⟩))] ([]) #[true, true, true, true, true, true, true, true, true, true, true, false, false, true, false, false, false] al0 ?_
       exact wk (hmx10 () trivial) [2, 3, 5, 17, 18, 19, 39, 42, 44, 47] [[_], [_], [_], _] [0, 1, 2, 3] rfl rfl
      ·
       refine qo0 1 [(11, .go (owns 0 7 1))] [2, 3, 5, 17, 18, 19, 34, 38, 42] [(45, .bool x317.w.fresh)] ?_
       refine od_ ?_
       refine tk (m := 6) [12] [] [2, 3, 5, 17, 18, 19, 34, 38] [(46, .bool x317.w.fresh)] ([]) #[true, false, true, true, true, false, true, true, true, true, true, true, true, false, false, false, false] al0 ?_
       exact wk (hmx9 () trivial) [2, 3, 5, 17, 18, 19, 34, 38, 46] [[_], [_], [_], _] [0, 1, 2, 3] rfl rfl
     refine any_cutX (V := Unit) (fun _ => True) 8 #[true, true, true, true, false, false, true, true, true, true, true, false, false, false, false, false, false] (fun _ => [(2, .pointer (some ⟨γ1 0, 0, none⟩)), (3, .pointer (some ⟨γ227 0, 0, none⟩)), (5, .pointer (some ⟨γ318 0, 0, none⟩)), (17, .slice p n cap), (18, .int .i64 (n : Nat)), (19, .int .i64 (j : Nat)), (35, .int .u64 od), (37, .pointer (some ⟨γ318 0, 6, none⟩)), (42, .bool true), (44, .pointer (some ⟨γ318 0, 7, none⟩))]) (fun _ => bx (γ318 0) (#[.int .i64 x317.r.id, .int .i64 x317.r.each, .int .u64 x317.r.th, .int .u64 x317.r.tl, .int .u64 x317.r.tw, .int .i64 x317.w.id, .int .u64 x317.w.ord, .bool x317.w.fresh]) 78 :: bx (γ227 0) (#[.slice po nu co, .int .u64 f.hi, .int .u64 f.lo, .int .u64 f.w, .int .u64 od, .bool true]) 47 :: bx (γ1 0) (#[.slice none 0 0, .int .u64 0, .int .u64 0, .int .u64 0, .int .u64 0, .bool false]) 47 :: (Yo ++ [])) ?_ (fun hmx5 => ?_)
     ·
      rintro _ _
      refine any_fork [4, 11] (by kernel_rfl) (by simp) (each_cons _ rfl ?_ (each_cons _ rfl ?_ (each_nil)))
      ·
       refine qo0 1 [(4, .go (owns 0 6 1))] [2, 3, 5, 17, 18, 19, 35, 42, 44] [(38, .int .u64 x317.w.ord)] ?_
       refine od_ ?_
       refine tk (m := 5) [5, 13] [] [2, 3, 5, 17, 18, 19, 42, 44] [(39, .int .u64 (if (x317.w.ord : Int) < (od : Int) then x317.w.ord else od)), (47, .pointer (some ⟨γ227 0, 4, none⟩))] ([]) #[true, true, true, true, true, true, true, true, true, true, true, false, false, true, false, false, false] al0 ?_
       exact wk (hmx10 () trivial) [2, 3, 5, 17, 18, 19, 39, 42, 44, 47] [[_], [_], [_], _] [0, 1, 2, 3] rfl rfl
      ·
       refine qo0 1 [(11, .go (owns 0 7 1))] [2, 3, 5, 17, 18, 19, 35, 37, 42] [(45, .bool x317.w.fresh)] ?_
       refine od_ ?_
       refine tk (m := 6) [12] [] [2, 3, 5, 17, 18, 19, 35, 37] [(46, .bool x317.w.fresh)] ([]) #[true, true, true, true, false, false, true, true, true, true, true, true, true, false, false, false, false] al0 ?_
       exact wk (hmx8 () trivial) [2, 3, 5, 17, 18, 19, 35, 37, 46] [[_], [_], [_], _] [0, 1, 2, 3] rfl rfl
     refine any_cutX (V := Unit) (fun _ => True) 9 #[true, false, true, true, false, false, true, true, true, true, true, false, false, false, false, false, false] (fun _ => [(2, .pointer (some ⟨γ1 0, 0, none⟩)), (3, .pointer (some ⟨γ227 0, 0, none⟩)), (5, .pointer (some ⟨γ318 0, 0, none⟩)), (17, .slice p n cap), (18, .int .i64 (n : Nat)), (19, .int .i64 (j : Nat)), (34, .pointer (some ⟨γ227 0, 4, none⟩)), (37, .pointer (some ⟨γ318 0, 6, none⟩)), (42, .bool true), (44, .pointer (some ⟨γ318 0, 7, none⟩))]) (fun _ => bx (γ318 0) (#[.int .i64 x317.r.id, .int .i64 x317.r.each, .int .u64 x317.r.th, .int .u64 x317.r.tl, .int .u64 x317.r.tw, .int .i64 x317.w.id, .int .u64 x317.w.ord, .bool x317.w.fresh]) 78 :: bx (γ227 0) (#[.slice po nu co, .int .u64 f.hi, .int .u64 f.lo, .int .u64 f.w, .int .u64 od, .bool true]) 47 :: bx (γ1 0) (#[.slice none 0 0, .int .u64 0, .int .u64 0, .int .u64 0, .int .u64 0, .bool false]) 47 :: (Yo ++ [])) ?_ (fun hmx4 => ?_)
     ·
      rintro _ _
      refine any_fork [1, 4, 11] (by kernel_rfl) (by simp) (each_cons _ rfl ?_ (each_cons _ rfl ?_ (each_cons _ rfl ?_ (each_nil))))
      ·
       refine qo0 1 [(1, .go (owns 1 4 1))] [2, 3, 5, 17, 18, 19, 37, 42, 44] [(35, .int .u64 od)] ?_
       refine od_ ?_
       exact wk (hmx5 () trivial) [2, 3, 5, 17, 18, 19, 35, 37, 42, 44] [[_], [_], [_], _] [0, 1, 2, 3] rfl rfl
      ·
       refine qo0 1 [(4, .go (owns 0 6 1))] [2, 3, 5, 17, 18, 19, 34, 42, 44] [(38, .int .u64 x317.w.ord)] ?_
       refine od_ ?_
       exact wk (hmx6 () trivial) [2, 3, 5, 17, 18, 19, 34, 38, 42, 44] [[_], [_], [_], _] [0, 1, 2, 3] rfl rfl
      ·
       refine qo0 1 [(11, .go (owns 0 7 1))] [2, 3, 5, 17, 18, 19, 34, 37, 42] [(45, .bool x317.w.fresh)] ?_
       refine od_ ?_
       refine tk (m := 7) [12] [] [2, 3, 5, 17, 18, 19, 34, 37] [(46, .bool x317.w.fresh)] ([]) #[true, false, true, true, false, false, true, true, true, true, true, true, true, false, false, false, false] al0 ?_
       exact wk (hmx7 () trivial) [2, 3, 5, 17, 18, 19, 34, 37, 46] [[_], [_], [_], _] [0, 1, 2, 3] rfl rfl
     refine any_cutX (V := Unit) (fun _ => True) 10 #[true, true, true, true, true, true, true, false, false, false, false, false, false, false, false, false, false] (fun _ => [(2, .pointer (some ⟨γ1 0, 0, none⟩)), (3, .pointer (some ⟨γ227 0, 0, none⟩)), (5, .pointer (some ⟨γ318 0, 0, none⟩)), (17, .slice p n cap), (18, .int .i64 (n : Nat)), (19, .int .i64 (j : Nat)), (39, .int .u64 (if (x317.w.ord : Int) < (od : Int) then x317.w.ord else od)), (40, .pointer (some ⟨γ227 0, 5, none⟩))]) (fun _ => bx (γ318 0) (#[.int .i64 x317.r.id, .int .i64 x317.r.each, .int .u64 x317.r.th, .int .u64 x317.r.tl, .int .u64 x317.r.tw, .int .i64 x317.w.id, .int .u64 x317.w.ord, .bool x317.w.fresh]) 78 :: bx (γ227 0) (#[.slice po nu co, .int .u64 f.hi, .int .u64 f.lo, .int .u64 f.w, .int .u64 od, .bool true]) 47 :: bx (γ1 0) (#[.slice none 0 0, .int .u64 0, .int .u64 0, .int .u64 0, .int .u64 0, .bool false]) 47 :: (Yo ++ [])) ?_ (fun hmx3 => ?_)
     ·
      rintro _ _
      refine a1 7 rfl ?_
      refine qo0 1 [(7, .go (owns 1 5 1))] [2, 3, 5, 17, 18, 19, 39] [(41, .bool true)] ?_
      refine od_ ?_
      refine tk (m := 5) [8, 9, 10, 13] [] [2, 3, 5, 17, 18, 19, 39] [(42, .bool true), (44, .pointer (some ⟨γ318 0, 7, none⟩)), (47, .pointer (some ⟨γ227 0, 4, none⟩))] ([]) #[true, true, true, true, true, true, true, true, true, true, true, false, false, true, false, false, false] al0 ?_
      exact wk (hmx10 () trivial) [2, 3, 5, 17, 18, 19, 39, 42, 44, 47] [[_], [_], [_], _] [0, 1, 2, 3] rfl rfl
     refine any_cutX (V := Unit) (fun _ => True) 12 #[true, false, true, true, true, false, true, false, false, false, false, false, false, false, false, false, false] (fun _ => [(2, .pointer (some ⟨γ1 0, 0, none⟩)), (3, .pointer (some ⟨γ227 0, 0, none⟩)), (5, .pointer (some ⟨γ318 0, 0, none⟩)), (17, .slice p n cap), (18, .int .i64 (n : Nat)), (19, .int .i64 (j : Nat)), (34, .pointer (some ⟨γ227 0, 4, none⟩)), (38, .int .u64 x317.w.ord), (40, .pointer (some ⟨γ227 0, 5, none⟩))]) (fun _ => bx (γ318 0) (#[.int .i64 x317.r.id, .int .i64 x317.r.each, .int .u64 x317.r.th, .int .u64 x317.r.tl, .int .u64 x317.r.tw, .int .i64 x317.w.id, .int .u64 x317.w.ord, .bool x317.w.fresh]) 78 :: bx (γ227 0) (#[.slice po nu co, .int .u64 f.hi, .int .u64 f.lo, .int .u64 f.w, .int .u64 od, .bool true]) 47 :: bx (γ1 0) (#[.slice none 0 0, .int .u64 0, .int .u64 0, .int .u64 0, .int .u64 0, .bool false]) 47 :: (Yo ++ [])) ?_ (fun hmx2 => ?_)
     ·
      rintro _ _
      refine any_fork [1, 7] (by kernel_rfl) (by simp) (each_cons _ rfl ?_ (each_cons _ rfl ?_ (each_nil)))
      ·
       refine qo0 1 [(1, .go (owns 1 4 1))] [2, 3, 5, 17, 18, 19, 38, 40] [(35, .int .u64 od)] ?_
       refine od_ ?_
       refine tk (m := 10) [5] [] [2, 3, 5, 17, 18, 19, 40] [(39, .int .u64 (if (x317.w.ord : Int) < (od : Int) then x317.w.ord else od))] ([]) #[true, true, true, true, true, true, true, false, false, false, false, false, false, false, false, false, false] al0 ?_
       exact wk (hmx3 () trivial) [2, 3, 5, 17, 18, 19, 39, 40] [[_], [_], [_], _] [0, 1, 2, 3] rfl rfl
      ·
       refine qo0 1 [(7, .go (owns 1 5 1))] [2, 3, 5, 17, 18, 19, 34, 38] [(41, .bool true)] ?_
       refine od_ ?_
       refine tk (m := 8) [8, 9, 10] [] [2, 3, 5, 17, 18, 19, 34, 38] [(42, .bool true), (44, .pointer (some ⟨γ318 0, 7, none⟩))] ([]) #[true, false, true, true, true, false, true, true, true, true, true, false, false, false, false, false, false] al0 ?_
       exact wk (hmx6 () trivial) [2, 3, 5, 17, 18, 19, 34, 38, 42, 44] [[_], [_], [_], _] [0, 1, 2, 3] rfl rfl
     refine any_cutX (V := Unit) (fun _ => True) 12 #[true, true, true, true, false, false, true, false, false, false, false, false, false, false, false, false, false] (fun _ => [(2, .pointer (some ⟨γ1 0, 0, none⟩)), (3, .pointer (some ⟨γ227 0, 0, none⟩)), (5, .pointer (some ⟨γ318 0, 0, none⟩)), (17, .slice p n cap), (18, .int .i64 (n : Nat)), (19, .int .i64 (j : Nat)), (35, .int .u64 od), (37, .pointer (some ⟨γ318 0, 6, none⟩)), (40, .pointer (some ⟨γ227 0, 5, none⟩))]) (fun _ => bx (γ318 0) (#[.int .i64 x317.r.id, .int .i64 x317.r.each, .int .u64 x317.r.th, .int .u64 x317.r.tl, .int .u64 x317.r.tw, .int .i64 x317.w.id, .int .u64 x317.w.ord, .bool x317.w.fresh]) 78 :: bx (γ227 0) (#[.slice po nu co, .int .u64 f.hi, .int .u64 f.lo, .int .u64 f.w, .int .u64 od, .bool true]) 47 :: bx (γ1 0) (#[.slice none 0 0, .int .u64 0, .int .u64 0, .int .u64 0, .int .u64 0, .bool false]) 47 :: (Yo ++ [])) ?_ (fun hmx1 => ?_)
     ·
      rintro _ _
      refine any_fork [4, 7] (by kernel_rfl) (by simp) (each_cons _ rfl ?_ (each_cons _ rfl ?_ (each_nil)))
      ·
       refine qo0 1 [(4, .go (owns 0 6 1))] [2, 3, 5, 17, 18, 19, 35, 40] [(38, .int .u64 x317.w.ord)] ?_
       refine od_ ?_
       refine tk (m := 10) [5] [] [2, 3, 5, 17, 18, 19, 40] [(39, .int .u64 (if (x317.w.ord : Int) < (od : Int) then x317.w.ord else od))] ([]) #[true, true, true, true, true, true, true, false, false, false, false, false, false, false, false, false, false] al0 ?_
       exact wk (hmx3 () trivial) [2, 3, 5, 17, 18, 19, 39, 40] [[_], [_], [_], _] [0, 1, 2, 3] rfl rfl
      ·
       refine qo0 1 [(7, .go (owns 1 5 1))] [2, 3, 5, 17, 18, 19, 35, 37] [(41, .bool true)] ?_
       refine od_ ?_
       refine tk (m := 8) [8, 9, 10] [] [2, 3, 5, 17, 18, 19, 35, 37] [(42, .bool true), (44, .pointer (some ⟨γ318 0, 7, none⟩))] ([]) #[true, true, true, true, false, false, true, true, true, true, true, false, false, false, false, false, false] al0 ?_
       exact wk (hmx5 () trivial) [2, 3, 5, 17, 18, 19, 35, 37, 42, 44] [[_], [_], [_], _] [0, 1, 2, 3] rfl rfl
     refine any_fork [1, 4, 7] (by kernel_rfl) (by simp) (each_cons _ rfl ?_ (each_cons _ rfl ?_ (each_cons _ rfl ?_ (each_nil))))
     ·
      refine qo0 1 [(1, .go (owns 1 4 1))] [2, 3, 5, 17, 18, 19, 37, 40] [(35, .int .u64 od)] ?_
      refine od_ ?_
      exact wk (hmx1 () trivial) [2, 3, 5, 17, 18, 19, 35, 37, 40] [[_], [_], [_], _] [0, 1, 2, 3] rfl rfl
     ·
      refine qo0 1 [(4, .go (owns 0 6 1))] [2, 3, 5, 17, 18, 19, 34, 40] [(38, .int .u64 x317.w.ord)] ?_
      refine od_ ?_
      exact wk (hmx2 () trivial) [2, 3, 5, 17, 18, 19, 34, 38, 40] [[_], [_], [_], _] [0, 1, 2, 3] rfl rfl
     ·
      refine qo0 1 [(7, .go (owns 1 5 1))] [2, 3, 5, 17, 18, 19, 34, 37] [(41, .bool true)] ?_
      refine od_ ?_
      refine tk (m := 9) [8, 9, 10] [] [2, 3, 5, 17, 18, 19, 34, 37] [(42, .bool true), (44, .pointer (some ⟨γ318 0, 7, none⟩))] ([]) #[true, false, true, true, false, false, true, true, true, true, true, false, false, false, false, false, false] al0 ?_
      exact wk (hmx4 () trivial) [2, 3, 5, 17, 18, 19, 34, 37, 42, 44] [[_], [_], [_], _] [0, 1, 2, 3] rfl rfl
    rintro _ _
    refine any_nil (by kernel_rfl) ?_
    refine ds_ (ao_ (mo0 6 [(1, .go (owns 1 0 1)), (4, .go (owns 0 0 1))] [2, 3, 17, 18, 19] (fun γ1971 => [(50, .slice po nu co), (54, .slice (some ⟨γ1971 0, 0, none⟩) 1 1)]) (fun γ1971 L => bx (γ1971 0) (#[.int .i64 x317.r.id]) 3 :: L) (fun γ1971 => ops_append (α := Int) [bx (γ1971 0) (#[.int .i64 x317.r.id]) 3, bx (γ318 0) (#[.int .i64 x317.r.id, .int .i64 x317.r.each, .int .u64 x317.r.th, .int .u64 x317.r.tl, .int .u64 x317.r.tw, .int .i64 x317.w.id, .int .u64 x317.w.ord, .bool x317.w.fresh]) 78, bx (γ227 0) (#[.slice po nu co, .int .u64 f.hi, .int .u64 f.lo, .int .u64 f.w, .int .u64 (if (x317.w.ord : Int) < (od : Int) then x317.w.ord else od), .bool x317.w.fresh]) 47, bx (γ1 0) (#[.slice none 0 0, .int .u64 0, .int .u64 0, .int .u64 0, .int .u64 0, .bool false]) 47] Yo ([]) (.refl _) rfl (by kernel_rfl) (by kernel_rfl) (p := po) (n := nu) (cap := co) (m := 1) (yv := .slice (some ⟨γ1971 0, 0, none⟩) 1 1) (by kernel_rfl) (by kernel_rfl) (T := 3) (by_ := 8) (by kernel_rfl) (memP l j) ([x317.r.id]) hO (fun w hw => src_svn Try.underlying40 (sv_row (hw.row 0 rfl) (by rfl)) (by rfl)) (by rfl) (by have hmx : maxLen = 9223372036854775807 := rfl; omega) (by have hmx : maxLen = 9223372036854775807 := rfl; omega) (fun Y1972 p1972 cap1972 hO1972 => mo0 2 [(8, .go (owns 2 0 1))] [2, 3, 17, 18, 19] (fun _ => []) (fun _ L => (L.set 2 (bx (γ227 0) (#[.slice p1972 (nu + 1) cap1972, .int .u64 f.hi, .int .u64 f.lo, .int .u64 f.w, .int .u64 (if (x317.w.ord : Int) < (od : Int) then x317.w.ord else od), .bool x317.w.fresh]) 47))) (fun _ => on_ (done_block (ds_ (qa [(0, .fit)] [2, 3, 17, 18] [(19, .int .i64 (j + 1 : Nat))] ([Fit .i64 ((j + 1 : Nat))]) (al1 (fit64 (by omega) (by omega))) (Done.pick [[bx (γ1971 0) (#[.int .i64 x317.r.id]) 3], [bx (γ318 0) (#[.int .i64 x317.r.id, .int .i64 x317.r.each, .int .u64 x317.r.th, .int .u64 x317.r.tl, .int .u64 x317.r.tw, .int .i64 x317.w.id, .int .u64 x317.w.ord, .bool x317.w.fresh]) 78], [bx (γ227 0) (#[.slice p1972 (nu + 1) cap1972, .int .u64 f.hi, .int .u64 f.lo, .int .u64 f.w, .int .u64 (if (x317.w.ord : Int) < (od : Int) then x317.w.ord else od), .bool x317.w.fresh]) 47], [bx (γ1 0) (#[.slice none 0 0, .int .u64 0, .int .u64 0, .int .u64 0, .int .u64 0, .bool false]) 47], Y1972] [2, 3, 4] [0, 1] (bx (γ227 0) (#[.slice p1972 (nu + 1) cap1972, .int .u64 f.hi, .int .u64 f.lo, .int .u64 f.w, .int .u64 (if (x317.w.ord : Int) < (od : Int) then x317.w.ord else od), .bool x317.w.fresh]) 47 :: bx (γ1 0) (#[.slice none 0 0, .int .u64 0, .int .u64 0, .int .u64 0, .int .u64 0, .bool false]) 47 :: (Y1972 ++ [])) (by kernel_rfl) rfl rfl ?_)))))))))
    exact dr [2, 3, 17, 18, 19] (j + 1, Y1972, p1972, (nu + 1), cap1972, f, (if (x317.w.ord : Int) < (od : Int) then x317.w.ord else od), x317.w.fresh) ⟨by omega, by omega, hUf, one_onT hx317 hE (by rw [if_neg (by omega)]) rfl (by rw [q1150]; rfl), by rw [memP_on hx317]; exact hO1972⟩
 ·
  refine qa [(0, .no)] [2, 3, 17, 18, 19] [(20, .bool false)] ([¬ (((j : Nat) : Int) < ((n : Nat) : Int))]) (al1 q314) (ds_ (sq_ (f_ (at_leave _ rfl (ds_ (sq_ (ma0 [(0, .go (owns 0 0 6)), (1, .go (owns 1 0 6))] [2] (fun _ => []) (fun _ L => (L.set 1 (bx (γ1 0) (#[.slice po nu co, .int .u64 f.hi, .int .u64 f.lo, .int .u64 f.w, .int .u64 od, .bool fb]) 47))) (fun _ => ds_ (rt (owns 1 0 6) (.agg #[.slice po nu co, .int .u64 f.hi, .int .u64 f.lo, .int .u64 f.w, .int .u64 od, .bool fb]) ?_)))))))))
  have hE' : entO l = ⟨memP l j, f, od, fb⟩ := one_endT (by omega) hE
  rw [hE']
  exact fun w' hw => ⟨_, _, _, _, rfl, hO, hw.below, one_tail (Hs.pick [[bx (γ227 0) (#[.slice po nu co, .int .u64 f.hi, .int .u64 f.lo, .int .u64 f.w, .int .u64 od, .bool fb]) 47], [bx (γ1 0) (#[.slice po nu co, .int .u64 f.hi, .int .u64 f.lo, .int .u64 f.w, .int .u64 od, .bool fb]) 47], Yo] [2] [0, 1] (by kernel_rfl) hw)⟩
end Go.Proofs.Ytoljahfofkmdaaa

/-! The walker: what a map's literal holds is put in. -/
namespace Go.Proofs.Ytoljahfofkmdaaa
open Go Go.RowKit
section
variable {E : Env} {k : List Fr} {l : Sl} {L : List Ob} {all os : List Oper} {o : Oper} {i : Nat}
theorem ops_insert {β : Type} {ik : IntKind} {enc : β → Value} {es : Array MapEntry} {ck : Nat} {D : List (Int × β)} (j : Nat) {t : TypeId} {x y v : Operand} {g : Nat} {kk : Int} (b : β) (z : Value) (ho : o.op = .insert t x y v) (hw : wantL all l o = some true) (hd : (okD E.n o.dst && knownO l o) = true)
    (hx : look l x = .map (some g)) (hy : look l y = .int ik kk) (hv : look l v = enc b) (hT : mapB E.P t ik z) (hj : L[j]? = some (g, .map es ck)) (hM : MapIs ik enc es D)
    (h : ∀ es' ck', MapIs ik enc es' (mupd D kk b) → Ops E k all os (i + 1) (putL o.dst undef l) (L.set j (g, .map es' ck'))) : Ops E k all (o :: os) i l L := by
  obtain ⟨kt, et, h1, h2, h34⟩ := hT
  obtain ⟨inf, h3, h4⟩ := Option.bind_eq_some_iff.1 h34
  refine ⟨fun a w ha hs => ?_⟩
  simp only [Bool.and_eq_true] at hd
  have hg := wantL_spec ha hw
  refine wpListIn_step fun K hK => ?_
  rw [if_pos hg]
  refine ⟨fun _ _ => trivial, ?_⟩
  rw [Oper.semAt_eq _ _ _ (fun c e => by rw [ho] at e; cases e), look_exec ha hd.2]
  obtain ⟨es', ck', hr, hM'⟩ := run_updateM h1 h2 (hs.row j hj) hM (k := kk) b
  have e : (execOp (look l) o).run E.P w = .ok .skip { w with heap := w.heap.setIfInBounds g (.map es' ck') } := by
    simp [execOp, ho, hx, hy, hv, hr]
  rw [e]
  exact hK _ _ ((h es' ck' hM').out _ _ (ha.put hd.1 _) (hs.turn j hj (turn_obj (hs.row j hj) _)))
end
end Go.Proofs.Ytoljahfofkmdaaa

/-! Order: what may be put in order. -/
namespace Go.Proofs.Ytoljahfofkmdaaa
open Go Go.RowKit

set_option maxRecDepth 100000 in
theorem waits_t (p : Option Addr) (n cap : Nat) (ts : List Rn) (pw : Option Addr) (nw capw : Nat) (ws : List Wt) (w : World)
 (hts : Sv w p ts) (hn : n = ts.length) (hb : n ≤ 1000)
 (hws : Sv w pw ws) (hnw : nw = ws.length) (hbw : nw ≤ 1000)
 : Calls Try.prog 40 #[.agg #[.slice p n cap], .slice pw nw capw] w fun e w' => e = .returned (.bool (waitsV ts ws)) ∧ Below w.heap.size w w' := by
 refine enter (Hs.start w) Try.func40 rfl Try.ntmps40 rfl (sq_ (ma0 [] [1] (fun γ1 => [(2, .pointer (some ⟨γ1 0, 0, none⟩))]) (fun γ1 L => bx (γ1 0) (#[.slice p n cap]) 26 :: L) (fun γ1 => ds_ (sq_ (ao_ (mo0 1 [] [1, 2] (fun γ2 => [(6, .map (some (γ2 0)))]) (fun γ2 L => (γ2 0, .map #[] 0) :: L) (fun γ2 => ops_insert (ik := .u64) (enc := Value.bool) (kk := 0) 0 true (Value.bool false) rfl (by kernel_rfl) (by kernel_rfl) (by kernel_rfl) (by kernel_rfl) (by kernel_rfl) (⟨41, 4, by kernel_rfl, by kernel_rfl, by kernel_rfl⟩ : mapB Try.prog 101 .u64 (Value.bool false)) rfl (MapIs.nil (ik := .u64) (enc := Value.bool)) (fun es3 ck3 hM3 => mo0 3 [(4, .go (owns 0 0 1))] [1, 2] (fun γ4 => [(5, .pointer (some ⟨γ4 0, 0, none⟩))]) (fun γ4 L => bx (γ4 0) (#[.map (some (γ2 0))]) 101 :: L) (fun γ4 => on_ (ds_ (sq_ (ao_ (qo0 4 [(1, .go (owns 2 0 1))] [] [(9, .slice p n cap), (10, .slice pw nw capw), (11, .func (.func 64) #[] #[.pointer (some ⟨γ4 0, 0, none⟩)])] (ops_inline (g := 63) (args := #[.slice p n cap, .slice pw nw capw, .func (.func 64) #[] #[.pointer (some ⟨γ4 0, 0, none⟩)]]) (by kernel_rfl) (by kernel_rfl) (by kernel_rfl) (fun args w => Try.call63 args w) Try.func63 rfl Try.ntmps63 rfl (sq_ (qa0 [] [0, 1, 2] [] (ds_ (sq_ (sq_ ?_)))))))))))))))))))
 by_cases q8 : ((n : Nat) : Int) ≠ ((nw : Nat) : Int)
 ·
  refine qa [(4, .yes)] [0, 1, 2] [(14, .bool true)] ([((n : Nat) : Int) ≠ ((nw : Nat) : Int)]) (al1 q8) (ds_ (t_ (sq_ (qa0 [] [] [(6, .bool false)] (ds_ (bk ([]) (.bool false) (qo0 1 [] [] [(4, .bool false)] (on_ (ds_ (rt ([]) (.bool false) ?_))))))))))
  exact fun w' hw => ⟨by rw [wt_nolen (by omega)], hw.below⟩
 ·
  refine qa [(4, .no)] [0, 1, 2] [(14, .bool false)] ([¬ (((n : Nat) : Int) ≠ ((nw : Nat) : Int))]) (al1 q8) (ds_ (f_ (at_skip (ds_ (sq_ (sq_ (qa0 [] [1, 2] [(15, .slice p n cap), (16, .int .i64 (n : Nat)), (17, .int .i64 0)] (ds_ (at_block (at_loop (α := Nat × Array MapEntry × Nat) [1, 2, 15, 16, 17] (fun ⟨j, eD, kD⟩ => [(1, .slice pw nw capw), (2, .func (.func 64) #[] #[.pointer (some ⟨γ4 0, 0, none⟩)]), (15, .slice p n cap), (16, .int .i64 (n : Nat)), (17, .int .i64 (j : Nat))]) (fun ⟨j, eD, kD⟩ => [bx (γ4 0) (#[.map (some (γ2 0))]) 101, (γ2 0, .map eD kD), bx (γ1 0) (#[.slice p n cap]) 26]) (fun ⟨j, eD, kD⟩ => j ≤ n ∧ wtB (metO ws j) (ts.drop j) (ws.drop j) = waitsV ts ws ∧ MapIs .u64 Value.bool eD (metM (metO ws j))) (fun ⟨j, eD, kD⟩ => n - j) (0, es3, ck3) (by kernel_rfl) rfl ⟨Nat.zero_le _, rfl, hM3⟩ ?_))))))))))
  rintro ⟨j, eD, kD⟩
  rintro ⟨hj, hI, hmD⟩
  refine sq_ ?_
  by_cases q15 : ((j : Nat) : Int) < ((n : Nat) : Int)
  ·
   refine qa [(0, .yes)] [1, 2, 15, 16, 17] [(18, .bool true)] ([((j : Nat) : Int) < ((n : Nat) : Int)]) (al1 q15) (ds_ (sq_ (t_ (at_skip (ds_ (sq_ (at_block (sq_ ?_))))))))
   obtain ⟨b18, o18, rfl⟩ := hts.pos (i := j) (by omega)
   obtain ⟨x20, hx20⟩ := get_some (l := ts) (m := j) (by omega)
   refine ma [(1, .at b18 o18 j), (2, .go (outs b18 (o18 + j * 5) [.int .i64 x20.id, .int .i64 x20.each, .int .u64 x20.th, .int .u64 x20.tl, .int .u64 x20.tw])), (5, .go (owns 0 0 5))] [1, 2, 15, 16, 17] (fun γ21 => [(7, .int .i64 (j : Nat)), (8, .pointer (some ⟨γ21 0, 0, none⟩))]) (fun γ21 L => bx (γ21 0) (#[.int .i64 x20.id, .int .i64 x20.each, .int .u64 x20.th, .int .u64 x20.tl, .int .u64 x20.tw]) 67 :: L) (fun γ21 => [(some ⟨b18, o18, none⟩ : Option Addr) = some ⟨b18, o18, none⟩, (j : Nat) = ((j : Nat) : Int), j < n] ++ (cellsP w b18 (o18 + j * 5) [.int .i64 x20.id, .int .i64 x20.each, .int .u64 x20.th, .int .u64 x20.tl, .int .u64 x20.tw])) (fun γ21 => (alA (al2 rfl (al2 rfl (al1 (by omega)))) (rd_pre (hts.get hx20) _ rfl))) (fun γ21 => ds_ (sq_ ?_))
   obtain ⟨b23, o23, rfl⟩ := hws.pos (i := j) (by omega)
   obtain ⟨x25, hx25⟩ := get_some (l := ws) (m := j) (by omega)
   refine ma [(2, .at b23 o23 j), (3, .go (outs b23 (o23 + j * 3) [.int .i64 x25.id, .int .u64 x25.ord, .bool x25.fresh])), (5, .go (owns 0 0 3))] [1, 2, 8, 15, 16, 17] (fun γ26 => [(9, .pointer (some ⟨γ26 0, 0, none⟩))]) (fun γ26 L => bx (γ26 0) (#[.int .i64 x25.id, .int .u64 x25.ord, .bool x25.fresh]) 51 :: L) (fun γ26 => [(some ⟨b23, o23, none⟩ : Option Addr) = some ⟨b23, o23, none⟩, (j : Nat) = ((j : Nat) : Int), j < nw] ++ (cellsP w b23 (o23 + j * 3) [.int .i64 x25.id, .int .u64 x25.ord, .bool x25.fresh])) (fun γ26 => (alA (al2 rfl (al2 rfl (al1 (by omega)))) (rd_pre (hws.get hx25) _ rfl))) (fun γ26 => ds_ (sq_ (ao_ (qo0 3 [(1, .go (owns 1 0 5)), (2, .go (owns 0 0 3))] [1, 2, 15, 16, 17] [(26, .func (.func 64) #[] #[.pointer (some ⟨γ4 0, 0, none⟩)]), (27, .agg #[.int .i64 x20.id, .int .i64 x20.each, .int .u64 x20.th, .int .u64 x20.tl, .int .u64 x20.tw]), (28, .agg #[.int .i64 x25.id, .int .u64 x25.ord, .bool x25.fresh])] (ops_inline (g := 64) (args := #[.agg #[.int .i64 x20.id, .int .i64 x20.each, .int .u64 x20.th, .int .u64 x20.tl, .int .u64 x20.tw], .agg #[.int .i64 x25.id, .int .u64 x25.ord, .bool x25.fresh], .pointer (some ⟨γ4 0, 0, none⟩)]) (by kernel_rfl) (by kernel_rfl) (by kernel_rfl) (fun args w => Try.call64 args w) Try.func64 rfl Try.ntmps64 rfl (sq_ (ma0 [] [2] (fun γ28 => [(3, .pointer (some ⟨γ28 0, 0, none⟩)), (4, .pointer (some ⟨γ28 1, 0, none⟩))]) (fun γ28 L => bx (γ28 1) (#[.int .i64 x25.id, .int .u64 x25.ord, .bool x25.fresh]) 51 :: bx (γ28 0) (#[.int .i64 x20.id, .int .i64 x20.each, .int .u64 x20.th, .int .u64 x20.tl, .int .u64 x20.tw]) 67 :: L) (fun γ28 => ds_ (sq_ (ao_ (qo0 3 [(0, .go (owns 4 0 1)), (2, .go (owns 0 1 1))] [2, 3, 4] [(7, .map (some (γ2 0))), (9, .int .u64 x25.ord)] (ops_lookup (ik := .u64) (enc := Value.bool) (kk := x25.ord) 5 (Value.bool false) (.bool ((mget (metM (metO ws j)) x25.ord).getD false)) rfl (by kernel_rfl) (by kernel_rfl) (by kernel_rfl) (by kernel_rfl) (⟨41, 4, by kernel_rfl, by kernel_rfl, by kernel_rfl⟩ : mapB Try.prog 101 .u64 (Value.bool false)) rfl hmD (map_getD _ _ _) (qo0 1 [] [2, 3, 4] [(6, .bool ((mget (metM (metO ws j)) x25.ord).getD false))] (on_ (ds_ (sq_ (ao_ (qo0 3 [(0, .go (owns 4 0 1)), (2, .go (owns 0 1 1))] [3, 4, 6] [(11, .map (some (γ2 0))), (13, .int .u64 x25.ord)] (ops_update (ik := .u64) (enc := Value.bool) (kk := x25.ord) 5 true (Value.bool false) rfl (by kernel_rfl) (by kernel_rfl) (by kernel_rfl) (by kernel_rfl) (by kernel_rfl) (⟨41, 4, by kernel_rfl, by kernel_rfl, by kernel_rfl⟩ : mapB Try.prog 101 .u64 (Value.bool false)) rfl hmD (fun es32 ck32 hM32 => ?_))))))))))))))))))))
   refine on_ (ds_ (sq_ ?_))
   by_cases q35 : (x20.id : Int) = (x25.id : Int)
   ·
    rcases q37 : (mget (metM (metO ws j)) x25.ord).getD false with _ | _
    ·
     by_cases q39 : (x25.ord : Int) ≤ (4611686018427387904 : Int)
     ·
      refine qa [(1, .go (owns 1 0 1)), (3, .go (owns 0 0 1)), (4, .yes), (11, .go (owns 0 1 1)), (12, .yes)] [] [(5, .bool true)] ([(x20.id : Int) = (x25.id : Int)] ++ ([(x25.ord : Int) ≤ (4611686018427387904 : Int)])) (alA (al1 q35) (al1 q39)) (ds_ (bk ([]) (.bool true) (qo0 1 [] [1, 2, 15, 16, 17] [(30, .bool false)] (on_ (ds_ (f_ (at_skip (done_block (ds_ (qa [(0, .fit)] [1, 2, 15, 16] [(17, .int .i64 (j + 1 : Nat))] ([Fit .i64 ((j + 1 : Nat))]) (al1 (fit64 (by omega) (by omega))) (Done.drop (L' := [bx (γ4 0) (#[.map (some (γ2 0))]) 101, (γ2 0, .map es32 ck32), bx (γ1 0) (#[.slice (some ⟨b18, o18, none⟩) n cap]) 26]) ?_ (List.Sublist.cons _ (List.Sublist.cons _ (List.Sublist.cons _ (List.Sublist.cons _ (List.Sublist.cons_cons _ (List.Sublist.cons_cons _ (List.Sublist.cons_cons _ (List.Sublist.refl _)))))))))))))))))))
      exact dr [1, 2, 15, 16, 17] (j + 1, es32, ck32) ⟨by omega, wt_on hI hx20 hx25 q35 (met_get.symm.trans q37) (by omega), by rw [metO_on hx25, met_on]; exact hM32⟩
     ·
      refine qa [(1, .go (owns 1 0 1)), (3, .go (owns 0 0 1)), (4, .yes), (11, .go (owns 0 1 1)), (12, .no)] [] [(5, .bool false)] ([(x20.id : Int) = (x25.id : Int)] ++ ([¬ ((x25.ord : Int) ≤ (4611686018427387904 : Int))])) (alA (al1 q35) (al1 q39)) (ds_ (bk ([]) (.bool false) (qo0 1 [] [1, 2, 15, 16, 17] [(30, .bool true)] (on_ (ds_ (t_ (sq_ (qa0 [] [] [(6, .bool false)] (ds_ (bk ([]) (.bool false) (qo0 1 [] [] [(4, .bool false)] (on_ (ds_ (rt ([]) (.bool false) ?_))))))))))))))
      exact fun w' hw => ⟨by rw [wt_no hI hx20 hx25 (fun _ _ => by omega)], hw.below⟩
    ·
     refine qa [(1, .go (owns 1 0 1)), (3, .go (owns 0 0 1)), (4, .yes)] [] [(5, .bool false)] ([(x20.id : Int) = (x25.id : Int)]) (al1 q35) (ds_ (bk ([]) (.bool false) (qo0 1 [] [1, 2, 15, 16, 17] [(30, .bool true)] (on_ (ds_ (t_ (sq_ (qa0 [] [] [(6, .bool false)] (ds_ (bk ([]) (.bool false) (qo0 1 [] [] [(4, .bool false)] (on_ (ds_ (rt ([]) (.bool false) ?_))))))))))))))
     exact fun w' hw => ⟨by rw [wt_no hI hx20 hx25 (fun _ h => absurd (met_get.symm.trans q37) (by rw [h]; decide))], hw.below⟩
   ·
    refine qa [(1, .go (owns 1 0 1)), (3, .go (owns 0 0 1)), (4, .no)] [] [(5, .bool false)] ([¬ ((x20.id : Int) = (x25.id : Int))]) (al1 q35) (ds_ (bk ([]) (.bool false) (qo0 1 [] [1, 2, 15, 16, 17] [(30, .bool true)] (on_ (ds_ (t_ (sq_ (qa0 [] [] [(6, .bool false)] (ds_ (bk ([]) (.bool false) (qo0 1 [] [] [(4, .bool false)] (on_ (ds_ (rt ([]) (.bool false) ?_))))))))))))))
    exact fun w' hw => ⟨by rw [wt_no hI hx20 hx25 (fun h => absurd h q35)], hw.below⟩
  ·
   refine qa [(0, .no)] [1, 2, 15, 16, 17] [(18, .bool false)] ([¬ (((j : Nat) : Int) < ((n : Nat) : Int))]) (al1 q15) (ds_ (sq_ (f_ (at_leave _ rfl (ds_ (sq_ (qa0 [] [] [(6, .bool true)] (ds_ (bk ([]) (.bool true) (qo0 1 [] [] [(4, .bool true)] (on_ (ds_ (rt ([]) (.bool true) ?_)))))))))))))
   exact fun w' hw => ⟨by rw [wt_end hI (by omega) (by omega)], hw.below⟩

set_option maxRecDepth 100000 in
theorem apart_t (q : Option Addr) (m capq : Nat) (al : List IntsA) (w : World)
 (hal : Sv w q al) (hma : m = al.length) (hbm : m ≤ 1000) (hnm : ∀ x ∈ al, x.Reads w) (hm9 : ∀ x ∈ al, x.n ≤ 1000)
 : Calls Try.prog 41 #[.slice q m capq] w fun e w' => e = .returned (.bool (apartV (al.map IntsA.l))) ∧ Below w.heap.size w w' := by
 refine enter (Hs.start w) Try.func41 rfl Try.ntmps41 rfl (sq_ (qa0 [] [0] [] (ds_ (sq_ (ma0 [] [0] (fun γ2 => [(3, .map (some (γ2 0)))]) (fun γ2 L => (γ2 0, .map #[] 0) :: L) (fun γ2 => ds_ (sq_ (sq_ (qa0 [] [3] [(10, .slice q m capq), (11, .int .i64 (m : Nat)), (12, .int .i64 0)] (ds_ (at_block (at_loop (α := Nat × Array MapEntry × Nat) [3, 10, 11, 12] (fun ⟨j, eD, kD⟩ => [(3, .map (some (γ2 0))), (10, .slice q m capq), (11, .int .i64 (m : Nat)), (12, .int .i64 (j : Nat))]) (fun ⟨j, eD, kD⟩ => [(γ2 0, .map eD kD)]) (fun ⟨j, eD, kD⟩ => j ≤ m ∧ apB (metG (al.map IntsA.l) j) ((al.map IntsA.l).drop j) = apartV (al.map IntsA.l) ∧ MapIs .i64 Value.bool eD (metM (metG (al.map IntsA.l) j))) (fun ⟨j, eD, kD⟩ => m - j) (0, #[], 0) (by kernel_rfl) rfl ⟨Nat.zero_le _, rfl, MapIs.nil⟩ ?_))))))))))))
 rintro ⟨j, eD, kD⟩
 rintro ⟨hj, hA, hmD⟩
 refine sq_ ?_
 by_cases q5 : ((j : Nat) : Int) < ((m : Nat) : Int)
 ·
  refine qa [(0, .yes)] [3, 10, 11, 12] [(13, .bool true)] ([((j : Nat) : Int) < ((m : Nat) : Int)]) (al1 q5) (ds_ (sq_ (t_ (at_skip (ds_ (sq_ (at_block (sq_ ?_))))))))
  obtain ⟨b8, o8, rfl⟩ := hal.pos (i := j) (by omega)
  obtain ⟨x10, hx10⟩ := get_some (l := al) (m := j) (by omega)
  obtain ⟨hsx10, hnx10, hcx10, hbx10⟩ := hnm x10 (List.mem_of_getElem? hx10)
  refine qa [(0, .at b8 o8 j), (1, .go (outs b8 (o8 + j * 1) [.slice x10.p x10.n x10.cap]))] [3, 10, 11, 12] [(5, .slice x10.p x10.n x10.cap)] ([(some ⟨b8, o8, none⟩ : Option Addr) = some ⟨b8, o8, none⟩, (j : Nat) = ((j : Nat) : Int), j < m] ++ (cellsP w b8 (o8 + j * 1) [.slice x10.p x10.n x10.cap])) (alA (al2 rfl (al2 rfl (al1 (by omega)))) (rd_pre (hal.get hx10) _ rfl)) (ds_ (sq_ (qa0 [] [3, 5, 10, 11, 12] [(6, .int .i64 0)] (ds_ (sq_ (sq_ (qa0 [] [3, 6, 10, 11, 12] [(16, .slice x10.p x10.n x10.cap), (17, .int .i64 (x10.n : Nat)), (18, .int .i64 0)] (ds_ (at_block ?_)))))))))
  have hm9x10 := hm9 x10 (List.mem_of_getElem? hx10)
  refine at_loop (α := Nat × Int × Array MapEntry × Nat) [3, 6, 10, 11, 12, 16, 17, 18] (fun ⟨i, la, eI, kI⟩ => [(3, .map (some (γ2 0))), (6, .int .i64 la), (10, .slice (some ⟨b8, o8, none⟩) m capq), (11, .int .i64 (m : Nat)), (12, .int .i64 (j : Nat)), (16, .slice x10.p x10.n x10.cap), (17, .int .i64 (x10.n : Nat)), (18, .int .i64 (i : Nat))]) (fun ⟨i, la, eI, kI⟩ => [(γ2 0, .map eI kI)]) (fun ⟨i, la, eI, kI⟩ => i ≤ x10.n ∧ 0 ≤ la ∧ (i = 0 ∨ 0 < la) ∧ (0 < i ∨ la = 0) ∧ grB la (metG (al.map IntsA.l) j ++ x10.l.take i) (x10.l.drop i) = grB 0 (metG (al.map IntsA.l) j) x10.l ∧ MapIs .i64 Value.bool eI (metM (metG (al.map IntsA.l) j ++ x10.l.take i))) (fun ⟨i, la, eI, kI⟩ => x10.n - i) (0, 0, eD, kD) (by kernel_rfl) rfl ⟨Nat.zero_le _, Int.le_refl _, .inl rfl, .inr rfl, by rw [List.take_zero, List.append_nil]; rfl, by rw [List.take_zero, List.append_nil]; exact hmD⟩ ?_
  rintro ⟨i, la, eI, kI⟩
  rintro ⟨hi, hl0, hl1, hl2, hI, hmI⟩
  refine sq_ ?_
  by_cases q15 : ((i : Nat) : Int) < ((x10.n : Nat) : Int)
  ·
   refine qa [(0, .yes)] [3, 6, 10, 11, 12, 16, 17, 18] [(19, .bool true)] ([((i : Nat) : Int) < ((x10.n : Nat) : Int)]) (al1 q15) (ds_ (sq_ (t_ (at_skip (ds_ (sq_ (at_block (sq_ ?_))))))))
   obtain ⟨b18, o18, hbo18⟩ := hsx10.pos (i := i) (by omega)
   have hsv18 := hsx10
   rw [hbo18] at hsv18
   obtain ⟨x20, hx20⟩ := get_some (l := x10.l) (m := i) (by omega)
   refine qa [(0, .at b18 o18 i), (1, .go (outs b18 (o18 + i * 1) [.int .i64 x20]))] [3, 6, 10, 11, 12, 16, 17, 18] [(8, .int .i64 x20)] ([(x10.p : Option Addr) = some ⟨b18, o18, none⟩, (i : Nat) = ((i : Nat) : Int), i < x10.n] ++ (cellsP w b18 (o18 + i * 1) [.int .i64 x20])) (alA (al2 hbo18 (al2 rfl (al1 (by omega)))) (rd_pre (hsv18.get hx20) _ rfl)) (ds_ (sq_ (sq_ ?_)))
   by_cases q23 : (x20 : Int) ≤ (la : Int)
   ·
    refine qa [(2, .yes)] [3, 8, 10, 11, 12, 16, 17, 18] [(33, .bool true)] ([(x20 : Int) ≤ (la : Int)]) (al1 q23) (ds_ (t_ (sq_ (qa0 [] [] [(2, .bool false)] (ds_ (rt ([]) (.bool false) ?_))))))
    exact fun w' hw => ⟨by rw [ap_no hA (gs_at hx10) (gr_no hI hx20 (fun _ _ => by omega))], hw.below⟩
   ·
    by_cases q27 : (x20 : Int) > (16 : Int)
    ·
     refine qa [(2, .no), (5, .yes)] [3, 8, 10, 11, 12, 16, 17, 18] [(33, .bool true)] ([¬ ((x20 : Int) ≤ (la : Int))] ++ ([(x20 : Int) > (16 : Int)])) (alA (al1 q23) (al1 q27)) (ds_ (t_ (sq_ (qa0 [] [] [(2, .bool false)] (ds_ (rt ([]) (.bool false) ?_))))))
     exact fun w' hw => ⟨by rw [ap_no hA (gs_at hx10) (gr_no hI hx20 (fun _ _ => by omega))], hw.below⟩
    ·
     refine ao_ (qo 10 [(2, .no), (5, .no)] [3, 8, 10, 11, 12, 16, 17, 18] [(29, .bool false), (30, .map (some (γ2 0))), (31, .int .i64 x20)] ([¬ ((x20 : Int) ≤ (la : Int))] ++ ([¬ ((x20 : Int) > (16 : Int))])) (alA (al1 q23) (al1 q27)) (ops_lookup (ik := .i64) (enc := Value.bool) (kk := x20) 0 (Value.bool false) (.bool ((mget (metM (metG (al.map IntsA.l) j ++ x10.l.take i)) x20).getD false)) rfl (by kernel_rfl) (by kernel_rfl) (by kernel_rfl) (by kernel_rfl) (⟨3, 4, by kernel_rfl, by kernel_rfl, by kernel_rfl⟩ : mapB Try.prog 49 .i64 (Value.bool false)) rfl hmI (map_getD _ _ _) (qo0 1 [] [3, 8, 10, 11, 12, 16, 17, 18] [(33, .bool ((mget (metM (metG (al.map IntsA.l) j ++ x10.l.take i)) x20).getD false))] (on_ (ds_ ?_)))))
     rcases q32 : (mget (metM (metG (al.map IntsA.l) j ++ x10.l.take i)) x20).getD false with _ | _
     ·
      refine f_ (at_skip (ds_ (ao_ (qo0 4 [] [3, 10, 11, 12, 16, 17, 18] [(6, .int .i64 x20), (34, .map (some (γ2 0))), (35, .int .i64 x20)] (ops_update (ik := .i64) (enc := Value.bool) (kk := x20) 0 true (Value.bool false) rfl (by kernel_rfl) (by kernel_rfl) (by kernel_rfl) (by kernel_rfl) (by kernel_rfl) (⟨3, 4, by kernel_rfl, by kernel_rfl, by kernel_rfl⟩ : mapB Try.prog 49 .i64 (Value.bool false)) rfl hmI (fun es34 ck34 hM34 => on_ (done_block (ds_ (qa [(0, .fit)] [3, 6, 10, 11, 12, 16, 17] [(18, .int .i64 (i + 1 : Nat))] ([Fit .i64 ((i + 1 : Nat))]) (al1 (fit64 (by omega) (by omega))) ?_)))))))))
      exact dr [3, 6, 10, 11, 12, 16, 17, 18] (i + 1, x20, es34, ck34) ⟨by omega, by omega, by omega, by omega, gr_on hI hx20 (by omega) (by omega) (met_get.symm.trans q32), by rw [take_one hx20, ← List.append_assoc, met_on]; exact hM34⟩
     ·
      refine t_ (sq_ (qa0 [] [] [(2, .bool false)] (ds_ (rt ([]) (.bool false) ?_))))
      exact fun w' hw => ⟨by rw [ap_no hA (gs_at hx10) (gr_no hI hx20 (fun _ _ h => absurd (met_get.symm.trans q32) (by rw [h]; decide)))], hw.below⟩
  ·
   refine qa [(0, .no)] [3, 6, 10, 11, 12, 16, 17, 18] [(19, .bool false)] ([¬ (((i : Nat) : Int) < ((x10.n : Nat) : Int))]) (al1 q15) (ds_ (sq_ (f_ (at_leave _ rfl (ds_ (sq_ ?_))))))
   by_cases q40 : (la : Int) = (0 : Int)
   ·
    refine qa [(1, .yes)] [3, 10, 11, 12] [(39, .bool true)] ([(la : Int) = (0 : Int)]) (al1 q40) (ds_ (t_ (sq_ (qa0 [] [] [(2, .bool false)] (ds_ (rt ([]) (.bool false) ?_))))))
    exact fun w' hw => ⟨by rw [ap_nil hA (gs_at hx10) (List.length_eq_zero_iff.1 (by omega))], hw.below⟩
   ·
    refine qa [(1, .no)] [3, 10, 11, 12] [(39, .bool false)] ([¬ ((la : Int) = (0 : Int))]) (al1 q40) (ds_ (f_ (at_skip (done_block (ds_ (qa [(0, .fit)] [3, 10, 11] [(12, .int .i64 (j + 1 : Nat))] ([Fit .i64 ((j + 1 : Nat))]) (al1 (fit64 (by omega) (by omega))) ?_))))))
    rw [List.take_of_length_le (by omega)] at hmI
    exact dr [3, 10, 11, 12] (j + 1, eI, kI) ⟨by omega, ap_on hA (gs_at hx10) (fun e => by rw [e] at hnx10; simp at hnx10; omega) (gr_end hI (by omega)), by rw [metG_on (gs_at hx10)]; exact hmI⟩
 ·
  refine qa [(0, .no)] [3, 10, 11, 12] [(13, .bool false)] ([¬ (((j : Nat) : Int) < ((m : Nat) : Int))]) (al1 q5) (ds_ (sq_ (f_ (at_leave _ rfl (ds_ (sq_ (qa0 [] [] [(2, .bool true)] (ds_ (rt ([]) (.bool true) ?_)))))))))
  exact fun w' hw => ⟨by rw [ap_end hA (by rw [List.length_map]; omega)], hw.below⟩

set_option maxRecDepth 100000 in
theorem check_t (p : Option Addr) (n cap : Nat) (ts : List Rn) (pw : Option Addr) (nw capw : Nat) (ws : List Wt) (q : Option Addr) (m capq : Nat) (al : List IntsA) (w : World)
 (hts : Sv w p ts) (hn : n = ts.length) (hb : n ≤ 1000)
 (hws : Sv w pw ws) (hnw : nw = ws.length) (hbw : nw ≤ 1000)
 (hal : Sv w q al) (hma : m = al.length) (hbm : m ≤ 1000) (hnm : ∀ x ∈ al, x.Reads w) (hm9 : ∀ x ∈ al, x.n ≤ 1000)
 : Calls Try.prog 13 #[.agg #[.slice p n cap], .slice pw nw capw, .slice q m capq] w fun e w' => e = .returned (.int .i64 (chkO ts ws (al.map IntsA.l))) ∧ Below w.heap.size w w' := by
 refine enter (Hs.start w) Try.func13 rfl Try.ntmps13 rfl (sq_ (ma0 [] [1, 2] (fun γ1 => [(3, .pointer (some ⟨γ1 0, 0, none⟩))]) (fun γ1 L => bx (γ1 0) (#[.slice p n cap]) 26 :: L) (fun γ1 => ds_ (sq_ (sq_ (ao_ (qo0 1 [(0, .go (owns 0 0 1))] [1, 2, 3] [(8, .agg #[.slice p n cap])] ?_)))))))
 rcases q3 : chkQ ts with _ | _
 ·
  refine cD (.int .i64 200) Try.call39 (fun w hw => by have := qcheck_t p n cap ts w (hts.kept hw.below) hn (by omega); rw [q3] at this; exact this) (qo0 1 [] [1, 2, 3] [(7, .int .i64 200)] (on_ (ds_ (sq_ (qa0 [] [1, 2, 3, 7] [(11, .bool true)] (ds_ (t_ (sq_ (qa0 [] [] [(6, .int .i64 200)] (ds_ (rt ([]) (.int .i64 200) ?_)))))))))))
  exact fun w' hw => ⟨by rw [co_q q3], hw.below⟩
 ·
  refine cD (.int .i64 0) Try.call39 (fun w hw => by have := qcheck_t p n cap ts w (hts.kept hw.below) hn (by omega); rw [q3] at this; exact this) (qo0 1 [] [1, 2, 3] [(7, .int .i64 0)] (on_ (ds_ (sq_ (qa0 [] [1, 2, 3, 7] [(11, .bool false)] (ds_ (f_ (at_skip (ds_ (sq_ (sq_ (ao_ (qo0 2 [(0, .go (owns 0 0 1))] [2] [(13, .agg #[.slice p n cap]), (14, .slice pw nw capw)] ?_)))))))))))))
  rcases q10 : waitsV ts ws with _ | _
  ·
   refine cD (.bool false) Try.call40 (fun w hw => by have := waits_t p n cap ts pw nw capw ws w (hts.kept hw.below) hn hb (hws.kept hw.below) hnw hbw; rw [q10] at this; exact this) (qo0 6 [] [] [(21, .bool true)] (on_ (ds_ (t_ (sq_ (qa0 [] [] [(6, .int .i64 220)] (ds_ (rt ([]) (.int .i64 220) ?_))))))))
   exact fun w' hw => ⟨by rw [co_w q3 q10], hw.below⟩
  ·
   refine cD (.bool true) Try.call40 (fun w hw => by have := waits_t p n cap ts pw nw capw ws w (hts.kept hw.below) hn hb (hws.kept hw.below) hnw hbw; rw [q10] at this; exact this) (qo0 3 [] [] [(17, .bool false), (18, .slice q m capq)] ?_)
   rcases q14 : apartV (al.map IntsA.l) with _ | _
   ·
    refine cD (.bool false) Try.call41 (fun w hw => by have := apart_t q m capq al w (hal.kept hw.below) hma hbm (fun x hx => (hnm x hx).kept hw.below) hm9; rw [q14] at this; exact this) (qo0 2 [] [] [(21, .bool true)] (on_ (ds_ (t_ (sq_ (qa0 [] [] [(6, .int .i64 220)] (ds_ (rt ([]) (.int .i64 220) ?_))))))))
    exact fun w' hw => ⟨by rw [co_a q3 q14], hw.below⟩
   ·
    refine cD (.bool true) Try.call41 (fun w hw => by have := apart_t q m capq al w (hal.kept hw.below) hma hbm (fun x hx => (hnm x hx).kept hw.below) hm9; rw [q14] at this; exact this) (qo0 2 [] [] [(21, .bool false)] (on_ (ds_ (f_ (at_skip (ds_ (sq_ (qa0 [] [] [(6, .int .i64 0)] (ds_ (rt ([]) (.int .i64 0) ?_))))))))))
    exact fun w' hw => ⟨by rw [co_ok q3 q10 q14], hw.below⟩
end Go.Proofs.Ytoljahfofkmdaaa

/-! The walker: make of a row whose elements are of one cell: all stand at nought. -/
namespace Go.Proofs.Ytoljahfofkmdaaa
open Go Go.RowKit
section
variable {E : Env} {k : List Fr} {l : Sl} {L : List Ob} {all os : List Oper} {o : Oper} {i : Nat}
theorem flat_rep {α : Type} [Enc α] {z0 : α} {zv : Value} (h : Enc.enc z0 = [zv]) : ∀ n : Nat, (List.replicate n z0).flatMap Enc.enc = List.replicate n zv
  | 0 => rfl
  | n + 1 => by rw [List.replicate_succ, List.flatMap_cons, h, flat_rep h n]; rfl
theorem ops_make0 {α : Type} [Enc α] (z0 : α) {zv : Value} (m : Nat) {x y : Operand} {t T : TypeId} {by_ n : Nat} (ho : o.op = .makeSlice t x y) (hw : wantL all l o = some true) (hd : (okD E.n o.dst && knownO l o) = true) (hx : look l x = .int .i64 (n : Int)) (hy : look l y = .int .i64 (n : Int)) (hE : elemB E.P t T (Enc.k α) by_ = true)
    (h0 : Enc.enc z0 = [zv]) (hz : ((E.P.info? T).bind fun i => i.zero) = some zv) (hzc : zv.cells = #[zv]) (hb : by_ * n ≤ 281474976710656) (hmax : n ≤ maxLen)
    (h : ∀ Y p, SlO T Y p n n (List.replicate n z0) → Ops E k all os (i + 1) (putL o.dst (.slice p n n) l) (L.take m ++ (Y ++ L.drop m))) : Ops E k all (o :: os) i l L := by
  refine ⟨fun a w ha hs => ?_⟩
  simp only [Bool.and_eq_true] at hd
  have hg := wantL_spec ha hw
  refine wpListIn_step fun K hK => ?_
  rw [if_pos hg]
  refine ⟨fun _ _ => trivial, ?_⟩
  rw [Oper.semAt_eq _ _ _ (fun c e => by rw [ho] at e; cases e), look_exec ha hd.2]
  obtain ⟨ht, inf, z, hi, hzz, _, hks, hby⟩ := elemB_spec hE
  have hk1 : Enc.k α = 1 := by rw [← Enc.len z0, h0]; rfl
  rw [hi] at hz
  have hzv : z = zv := by rw [Option.bind_some, hzz] at hz; exact Option.some.inj hz
  subst hzv hby
  have hb' : (inf.bytes : Int) * (n : Int) ≤ 281474976710656 := by
    have h : ((inf.bytes * n : Nat) : Int) ≤ 281474976710656 := by omega
    rwa [Int.natCast_mul] at h
  have hr := run_make (P := E.P) w t T inf z ht hi hzz .i64 .i64 (n : Int) (n : Int) (by omega) (Int.le_refl _) hb' (by simp only [maxLen] at hmax; omega)
  simp only [Int.toNat_natCast] at hr
  have e : (execOp (look l) o).run E.P w = .ok (.value (.slice (some ⟨w.heap.size, 0, none⟩) n n)) (w.alloc (.cells (madeCells z.cells (n * inf.size)) T)) := by
    simp [execOp, ho, hx, hy, hr]
  rw [e]
  have hsz : inf.size = 1 := by rw [hks, hk1]
  have hS : SlO T [(w.heap.size, .cells (madeCells z.cells (n * inf.size)) T (0, 0))] (some ⟨w.heap.size, 0, none⟩) n n (List.replicate n z0) := by
    refine .inr ⟨_, _, rfl, rfl, by simp, ?_⟩
    have hc : (madeCells z.cells (n * inf.size)).toList = List.replicate n z := by rw [hzc, toList_madeCells_one, hsz, Nat.mul_one]
    refine ⟨by rw [flat_rep h0, hk1]; simp, Nat.le_refl _, hmax, by rw [size_madeCells, hsz, hk1], ?_⟩
    rw [hc, flat_rep h0, hk1, Nat.mul_one, List.take_of_length_le (by simp)]
  refine hK _ _ ((h _ _ hS).out _ _ (ha.put hd.1 _) ((hs.cons _).perm ?_))
  have hp := List.perm_middle (a := (w.heap.size, Obj.cells (madeCells z.cells (n * inf.size)) T (0, 0))) (l₁ := L.take m) (l₂ := L.drop m)
  rw [List.take_append_drop] at hp
  exact hp.symm
end
end Go.Proofs.Ytoljahfofkmdaaa

/-! Order: all entities, in order. -/
namespace Go.Proofs.Ytoljahfofkmdaaa
open Go Go.RowKit

set_option maxRecDepth 100000 in
theorem ents_t (p : Option Addr) (n cap : Nat) (ts : List Rn) (pw : Option Addr) (nw capw : Nat) (ws : List Wt) (q : Option Addr) (m capq : Nat) (al : List IntsA) (w : World)
 (hts : Sv w p ts) (hn : n = ts.length) (hb : n ≤ 1000)
 (hU : ∀ r ∈ ts, r.U)
 (hws : Sv w pw ws) (hnw : nw = ws.length) (hbw : nw ≤ 1000)
 (hWU : ∀ x ∈ ws, x.U)
 (hal : Sv w q al) (hma : m = al.length) (hbm : m ≤ 1000) (hnm : ∀ x ∈ al, x.Reads w) (hm9 : ∀ x ∈ al, x.n ≤ 1000)
 : Calls Try.prog 12 #[.agg #[.slice p n cap], .slice pw nw capw, .slice q m capq] w fun e w' => ∃ q' n' c' Yo Yi el, e = .returned (.tuple #[.slice q' n' c', .int .i64 (chkO ts ws (al.map IntsA.l))]) ∧ SlO 47 Yo q' n' c' el ∧ GotE 3 Yi el ∧ el.map EnA.val = (if chkO ts ws (al.map IntsA.l) = 0 then docV ts ws (al.map IntsA.l) else []) ∧ (∀ x ∈ el, x.U) ∧ Below w.heap.size w w' ∧ Hs w (Yo ++ Yi) w' := by
 refine enter (Hs.start w) Try.func12 rfl Try.ntmps12 rfl (sq_ (ma0 [] [1, 2] (fun γ1 => [(3, .pointer (some ⟨γ1 0, 0, none⟩))]) (fun γ1 L => bx (γ1 0) (#[.slice p n cap]) 26 :: L) (fun γ1 => ds_ (sq_ (sq_ (ao_ (qo0 3 [(0, .go (owns 0 0 1))] [1, 2, 3] [(22, .agg #[.slice p n cap]), (23, .slice pw nw capw), (24, .slice q m capq)] (cD (.int .i64 (chkO ts ws (al.map IntsA.l))) Try.call13 (fun w hw => check_t p n cap ts pw nw capw ws q m capq al w (hts.kept hw.below) hn hb (hws.kept hw.below) hnw hbw (hal.kept hw.below) hma hbm (fun x hx => (hnm x hx).kept hw.below) hm9) (qo0 1 [] [1, 2, 3] [(8, .int .i64 (chkO ts ws (al.map IntsA.l)))] (on_ (ds_ (sq_ ?_))))))))))))
 by_cases q5 : ((chkO ts ws (al.map IntsA.l)) : Int) ≠ (0 : Int)
 ·
  refine qa [(1, .yes)] [1, 2, 3, 8] [(27, .bool true)] ([((chkO ts ws (al.map IntsA.l)) : Int) ≠ (0 : Int)]) (al1 q5) (ds_ (t_ (sq_ (qa0 [] [] [(6, .slice none 0 0), (7, .int .i64 (chkO ts ws (al.map IntsA.l)))] (ds_ (rt ([]) (.tuple #[.slice none 0 0, .int .i64 (chkO ts ws (al.map IntsA.l))]) ?_))))))
  exact fun w' hw => ⟨none, 0, 0, [], [], [], rfl, SlO.nil, GotE.nil, by rw [if_neg (by omega)]; rfl, (fun x h => by cases h), hw.below, hw.sub (List.nil_sublist _)⟩
 ·
  refine qa [(1, .no)] [1, 2, 3, 8] [(27, .bool false)] ([¬ (((chkO ts ws (al.map IntsA.l)) : Int) ≠ (0 : Int))]) (al1 q5) (ds_ (f_ (at_skip (ds_ (sq_ ?_)))))
  have hc3 := co_iff.1 (show chkO ts ws (al.map IntsA.l) = 0 from by omega)
  have hwl := wt_len hc3.2.1
  have hgm : (al.map IntsA.l).length = m := by rw [List.length_map]; omega
  have hzU := pairs_U (ws := ws) hU hWU
  have hzl : (pairsV ts ws).length = n := by rw [pairs_len hwl]; omega
  refine ma0 [] [1, 2, 3] (fun γ9 => [(9, .map (some (γ9 0)))]) (fun γ9 L => (γ9 0, .map #[] 0) :: L) (fun γ9 => ds_ (sq_ (sq_ (qa0 [] [1, 2, 3, 9] [(30, .slice q m capq), (31, .int .i64 (m : Nat)), (32, .int .i64 0)] (ds_ (at_block (at_loop (α := Nat × List (Int × Int) × Array MapEntry × Nat) [1, 2, 3, 9, 30, 31, 32] (fun ⟨j, Dg, eG, kG⟩ => [(1, .slice pw nw capw), (2, .slice q m capq), (3, .pointer (some ⟨γ1 0, 0, none⟩)), (9, .map (some (γ9 0))), (30, .slice q m capq), (31, .int .i64 (m : Nat)), (32, .int .i64 (j : Nat))]) (fun ⟨j, Dg, eG, kG⟩ => [(γ9 0, .map eG kG), bx (γ1 0) (#[.slice p n cap]) 26]) (fun ⟨j, Dg, eG, kG⟩ => j ≤ m ∧ (∀ k, (mget Dg k).getD 0 = ((gnV ((al.map IntsA.l).take j) k : Nat) : Int)) ∧ MapIs .i64 (Value.int .i64) eG Dg) (fun ⟨j, Dg, eG, kG⟩ => m - j) (0, [], #[], 0) (by kernel_rfl) rfl ⟨Nat.zero_le _, fun k => by rw [List.take_zero]; rfl, MapIs.nil⟩ ?_)))))))
  rintro ⟨j, Dg, eG, kG⟩
  rintro ⟨hj, hG, hmG⟩
  refine sq_ ?_
  by_cases q12 : ((j : Nat) : Int) < ((m : Nat) : Int)
  ·
   refine qa [(0, .yes)] [1, 2, 3, 9, 30, 31, 32] [(33, .bool true)] ([((j : Nat) : Int) < ((m : Nat) : Int)]) (al1 q12) (ds_ (sq_ (t_ (at_skip (ds_ (sq_ (at_block (sq_ ?_))))))))
   obtain ⟨b15, o15, rfl⟩ := hal.pos (i := j) (by omega)
   obtain ⟨x17, hx17⟩ := get_some (l := al) (m := j) (by omega)
   obtain ⟨hsx17, hnx17, hcx17, hbx17⟩ := hnm x17 (List.mem_of_getElem? hx17)
   refine qa [(1, .at b15 o15 j), (2, .go (outs b15 (o15 + j * 1) [.slice x17.p x17.n x17.cap]))] [1, 2, 3, 9, 30, 31, 32] [(10, .int .i64 (j : Nat)), (11, .slice x17.p x17.n x17.cap)] ([(some ⟨b15, o15, none⟩ : Option Addr) = some ⟨b15, o15, none⟩, (j : Nat) = ((j : Nat) : Int), j < m] ++ (cellsP w b15 (o15 + j * 1) [.slice x17.p x17.n x17.cap])) (alA (al2 rfl (al2 rfl (al1 (by omega)))) (rd_pre (hal.get hx17) _ rfl)) (ds_ (sq_ (qa0 [] [1, 2, 3, 9, 10, 30, 31, 32] [(37, .slice x17.p x17.n x17.cap), (38, .int .i64 (x17.n : Nat)), (39, .int .i64 0)] (ds_ (at_block ?_)))))
   have hm9x17 := hm9 x17 (List.mem_of_getElem? hx17)
   refine at_loop (α := Nat × List (Int × Int) × Array MapEntry × Nat) [1, 2, 3, 9, 10, 30, 31, 32, 37, 38, 39] (fun ⟨i, Di, eI, kI⟩ => [(1, .slice pw nw capw), (2, .slice (some ⟨b15, o15, none⟩) m capq), (3, .pointer (some ⟨γ1 0, 0, none⟩)), (9, .map (some (γ9 0))), (10, .int .i64 (j : Nat)), (30, .slice (some ⟨b15, o15, none⟩) m capq), (31, .int .i64 (m : Nat)), (32, .int .i64 (j : Nat)), (37, .slice x17.p x17.n x17.cap), (38, .int .i64 (x17.n : Nat)), (39, .int .i64 (i : Nat))]) (fun ⟨i, Di, eI, kI⟩ => [(γ9 0, .map eI kI), bx (γ1 0) (#[.slice p n cap]) 26]) (fun ⟨i, Di, eI, kI⟩ => i ≤ x17.n ∧ (∀ k, (mget Di k).getD 0 = if k ∈ x17.l.take i then ((j + 1 : Nat) : Int) else ((gnV ((al.map IntsA.l).take j) k : Nat) : Int)) ∧ MapIs .i64 (Value.int .i64) eI Di) (fun ⟨i, Di, eI, kI⟩ => x17.n - i) (0, Dg, eG, kG) (by kernel_rfl) rfl ⟨Nat.zero_le _, fun k => by rw [List.take_zero, if_neg (by simp)]; exact hG k, hmG⟩ ?_
   rintro ⟨i, Di, eI, kI⟩
   rintro ⟨hi, hGi, hmI⟩
   refine sq_ ?_
   by_cases q21 : ((i : Nat) : Int) < ((x17.n : Nat) : Int)
   ·
    refine qa [(0, .yes)] [1, 2, 3, 9, 10, 30, 31, 32, 37, 38, 39] [(40, .bool true)] ([((i : Nat) : Int) < ((x17.n : Nat) : Int)]) (al1 q21) (ds_ (sq_ (t_ (at_skip (ds_ (sq_ (at_block (sq_ ?_))))))))
    obtain ⟨b24, o24, hbo24⟩ := hsx17.pos (i := i) (by omega)
    have hsv24 := hsx17
    rw [hbo24] at hsv24
    obtain ⟨x26, hx26⟩ := get_some (l := x17.l) (m := i) (by omega)
    refine qa [(0, .at b24 o24 i), (1, .go (outs b24 (o24 + i * 1) [.int .i64 x26]))] [1, 2, 3, 9, 10, 30, 31, 32, 37, 38, 39] [(13, .int .i64 x26)] ([(x17.p : Option Addr) = some ⟨b24, o24, none⟩, (i : Nat) = ((i : Nat) : Int), i < x17.n] ++ (cellsP w b24 (o24 + i * 1) [.int .i64 x26])) (alA (al2 hbo24 (al2 rfl (al1 (by omega)))) (rd_pre (hsv24.get hx26) _ rfl)) (ds_ (ao_ (qo 4 [(3, .fit)] [1, 2, 3, 9, 10, 30, 31, 32, 37, 38, 39] [(43, .map (some (γ9 0))), (44, .int .i64 x26), (46, .int .i64 (j + 1 : Nat))] ([Fit .i64 ((j + 1 : Nat))]) (al1 (fit64 (by omega) (by omega))) (ops_update (ik := .i64) (enc := (Value.int .i64)) (kk := x26) 0 (j + 1 : Nat) ((Value.int .i64) 0) rfl (by kernel_rfl) (by kernel_rfl) (by kernel_rfl) (by kernel_rfl) (by kernel_rfl) (⟨3, 3, by kernel_rfl, by kernel_rfl, by kernel_rfl⟩ : mapB Try.prog 75 .i64 ((Value.int .i64) 0)) rfl hmI (fun es29 ck29 hM29 => on_ (done_block (ds_ (qa [(0, .fit)] [1, 2, 3, 9, 10, 30, 31, 32, 37, 38] [(39, .int .i64 (i + 1 : Nat))] ([Fit .i64 ((i + 1 : Nat))]) (al1 (fit64 (by omega) (by omega))) ?_))))))))
    exact dr [1, 2, 3, 9, 10, 30, 31, 32, 37, 38, 39] (i + 1, (mupd Di x26 (j + 1 : Nat)), es29, ck29) ⟨by omega, gi_on hGi hx26, hM29⟩
   ·
    refine qa [(0, .no)] [1, 2, 3, 9, 10, 30, 31, 32, 37, 38, 39] [(40, .bool false)] ([¬ (((i : Nat) : Int) < ((x17.n : Nat) : Int))]) (al1 q21) (ds_ (sq_ (f_ (at_leave _ rfl (done_block (ds_ (qa [(0, .fit)] [1, 2, 3, 9, 30, 31] [(32, .int .i64 (j + 1 : Nat))] ([Fit .i64 ((j + 1 : Nat))]) (al1 (fit64 (by omega) (by omega))) ?_)))))))
    exact dr [1, 2, 3, 9, 30, 31, 32] (j + 1, Di, eI, kI) ⟨by omega, gj_on (gs_at hx17) hGi (by omega), hmI⟩
  ·
   refine qa [(0, .no)] [1, 2, 3, 9, 30, 31, 32] [(33, .bool false)] ([¬ (((j : Nat) : Int) < ((m : Nat) : Int))]) (al1 q12) (ds_ (sq_ (f_ (at_leave _ rfl (ds_ (sq_ ?_))))))
   rw [List.take_of_length_le (by omega)] at hG
   clear hj
   refine ao_ (qo 3 [(2, .fit)] [1, 3, 9] [(51, .int .i64 (m + 1 : Nat))] ([Fit .i64 ((m + 1 : Nat))]) (al1 (fit64 (by omega) (by omega))) (ops_make0 (α := PsA) ⟨none, 0, 0, []⟩ 2 (zv := .slice none 0 0) (T := 79) (by_ := 24) (n := m + 1) rfl (by kernel_rfl) (by kernel_rfl) (by kernel_rfl) (by kernel_rfl) (by kernel_rfl) rfl (by kernel_rfl) rfl (by omega) (by have hmx : maxLen = 9223372036854775807 := rfl; omega) (fun Yr0 pr0 hOr0 => qo0 1 [] [1, 3, 9] [(14, .slice pr0 (m + 1) (m + 1))] (on_ (ds_ (sq_ (qa0 [] [1, 3, 9, 14] [(15, .slice none 0 0)] (ds_ (sq_ (sq_ (qa0 [(1, .go (owns 1 0 1))] [1, 9, 14, 15] [(54, .slice p n cap), (55, .int .i64 (n : Nat)), (56, .int .i64 0)] (ds_ (at_block (at_loop (α := Nat × List PsA × List Ob × Option Addr × List Ob × List EnA × List Ob × Option Addr × Nat × Nat × List Ob) [1, 9, 14, 15, 54, 55, 56] (fun ⟨j, rl, Yr, pr, Yq, el, Yo, po, nu, co, Yi⟩ => [(1, .slice pw nw capw), (9, .map (some (γ9 0))), (14, .slice pr (m + 1) (m + 1)), (15, .slice po nu co), (54, .slice p n cap), (55, .int .i64 (n : Nat)), (56, .int .i64 (j : Nat))]) (fun ⟨j, rl, Yr, pr, Yq, el, Yo, po, nu, co, Yi⟩ => (γ9 0, .map eG kG) :: bx (γ1 0) (#[.slice p n cap]) 26 :: (Yr ++ (Yq ++ (Yo ++ (Yi ++ []))))) (fun ⟨j, rl, Yr, pr, Yq, el, Yo, po, nu, co, Yi⟩ => j ≤ n ∧ nu ≤ j ∧ SlO 79 Yr pr (m + 1) (m + 1) rl ∧ GotP 78 Yq rl ∧ rl.map PsA.l = (List.range (m + 1)).map (rowP (al.map IntsA.l) ((pairsV ts ws).take j)) ∧ SlO 47 Yo po nu co el ∧ GotE 3 Yi el ∧ el.map EnA.val = singZ (al.map IntsA.l) ((pairsV ts ws).take j)) (fun ⟨j, rl, Yr, pr, Yq, el, Yo, po, nu, co, Yi⟩ => n - j) (0, List.replicate (m + 1) (⟨none, 0, 0, []⟩ : PsA), Yr0, pr0, [], [], [], none, 0, 0, []) (by kernel_rfl) rfl ⟨Nat.zero_le _, Nat.le_refl _, hOr0, GotP.rep _, rows_0, SlO.nil, GotE.nil, sing_0.symm⟩ ?_))))))))))))))
   rintro ⟨j, rl, Yr, pr, Yq, el, Yo, po, nu, co, Yi⟩
   rintro ⟨hj, hnu, hOr, hQ, hR, hO, hGe, hE⟩
   have hrl := hOr.len
   refine sq_ ?_
   by_cases q40 : ((j : Nat) : Int) < ((n : Nat) : Int)
   ·
    refine qa [(0, .yes)] [1, 9, 14, 15, 54, 55, 56] [(57, .bool true)] ([((j : Nat) : Int) < ((n : Nat) : Int)]) (al1 q40) (ds_ (sq_ (t_ (at_skip (ds_ (sq_ (at_block (sq_ ?_))))))))
    obtain ⟨b43, o43, rfl⟩ := hts.pos (i := j) (by omega)
    obtain ⟨x45, hx45⟩ := get_some (l := ts) (m := j) (by omega)
    have hUx45 := hU x45 (List.mem_of_getElem? hx45)
    refine ma [(1, .at b43 o43 j), (2, .go (outs b43 (o43 + j * 5) [.int .i64 x45.id, .int .i64 x45.each, .int .u64 x45.th, .int .u64 x45.tl, .int .u64 x45.tw])), (5, .go (owns 0 0 5))] [1, 9, 14, 15, 54, 55, 56] (fun γ46 => [(16, .int .i64 (j : Nat)), (17, .pointer (some ⟨γ46 0, 0, none⟩))]) (fun γ46 L => bx (γ46 0) (#[.int .i64 x45.id, .int .i64 x45.each, .int .u64 x45.th, .int .u64 x45.tl, .int .u64 x45.tw]) 67 :: L) (fun γ46 => [(some ⟨b43, o43, none⟩ : Option Addr) = some ⟨b43, o43, none⟩, (j : Nat) = ((j : Nat) : Int), j < n] ++ (cellsP w b43 (o43 + j * 5) [.int .i64 x45.id, .int .i64 x45.each, .int .u64 x45.th, .int .u64 x45.tl, .int .u64 x45.tw])) (fun γ46 => (alA (al2 rfl (al2 rfl (al1 (by omega)))) (rd_pre (hts.get hx45) _ rfl))) (fun γ46 => ds_ (sq_ ?_))
    obtain ⟨b47, o47, hbo47⟩ := hws.pos (i := j) (by omega)
    have hsv47 := hws
    rw [hbo47] at hsv47
    obtain ⟨x48, hx48⟩ := get_some (l := ws) (m := j) (by omega)
    have hWx48 := hWU x48 (List.mem_of_getElem? hx48)
    refine at_any (by kernel_rfl) ?_
    refine tk (m := 5) [1, 2, 3] [(3, .at b47 o47 j)] [1, 9, 14, 15, 17, 54, 55, 56] [(64, .pointer (some ⟨b47, o47 + j * 3, none⟩))] ([(pw : Option Addr) = some ⟨b47, o47, none⟩, (j : Nat) = ((j : Nat) : Int), j < nw]) #[false, true, true, true, false, false, false, false] (al2 hbo47 (al2 rfl (al1 (by omega)))) ?_
    refine any_cutG 1 #[true, true, true, true, true, true, true, false] (fun γ54 => [(1, .slice pw nw capw), (9, .map (some (γ9 0))), (14, .slice pr (m + 1) (m + 1)), (15, .slice po nu co), (17, .pointer (some ⟨γ46 0, 0, none⟩)), (18, .pointer (some ⟨γ54 0, 0, none⟩)), (54, .slice (some ⟨b43, o43, none⟩) n cap), (55, .int .i64 (n : Nat)), (56, .int .i64 (j : Nat)), (66, .agg #[.int .i64 x45.id, .int .i64 x45.each, .int .u64 x45.th, .int .u64 x45.tl, .int .u64 x45.tw, .int .i64 x48.id, .int .u64 x48.ord, .bool x48.fresh])]) (fun γ54 => bx (γ54 0) (#[.int .i64 0, .int .i64 0, .int .u64 0, .int .u64 0, .int .u64 0, .int .i64 0, .int .u64 0, .bool false]) 78 :: bx (γ46 0) (#[.int .i64 x45.id, .int .i64 x45.each, .int .u64 x45.th, .int .u64 x45.tl, .int .u64 x45.tw]) 67 :: (γ9 0, .map eG kG) :: bx (γ1 0) (#[.slice (some ⟨b43, o43, none⟩) n cap]) 26 :: (Yr ++ (Yq ++ (Yo ++ (Yi ++ []))))) (fun γ54 => ?_) (fun hm => ?_)
    rotate_left
    ·
     refine any_fork [0, 4, 6] (by kernel_rfl) (by simp) (each_cons _ rfl ?_ (each_cons _ rfl ?_ (each_cons _ rfl ?_ (each_nil))))
     ·
      refine qo0 1 [(0, .go (owns 0 0 5))] [1, 9, 14, 15, 17, 54, 55, 56, 64] [(61, .agg #[.int .i64 x45.id, .int .i64 x45.each, .int .u64 x45.th, .int .u64 x45.tl, .int .u64 x45.tw])] ?_
      refine od_ ?_
      refine any_fork [4, 6] (by kernel_rfl) (by simp) (each_cons _ rfl ?_ (each_cons _ rfl ?_ (each_nil)))
      ·
       refine qo 1 [(4, .go (outs b47 (o47 + j * 3) [.int .i64 x48.id, .int .u64 x48.ord, .bool x48.fresh]))] [1, 9, 14, 15, 17, 54, 55, 56, 61] [(65, .agg #[.int .i64 x48.id, .int .u64 x48.ord, .bool x48.fresh])] (cellsP w b47 (o47 + j * 3) [.int .i64 x48.id, .int .u64 x48.ord, .bool x48.fresh]) (rd_pre (hsv47.get hx48) _ rfl) ?_
       refine od_ ?_
       refine tk (m := 2) [5] [] [1, 9, 14, 15, 17, 54, 55, 56] [(66, .agg #[.int .i64 x45.id, .int .i64 x45.each, .int .u64 x45.th, .int .u64 x45.tl, .int .u64 x45.tw, .int .i64 x48.id, .int .u64 x48.ord, .bool x48.fresh])] ([]) #[true, true, true, true, true, true, false, false] al0 ?_
       refine a1 6 rfl ?_
       refine mo0 1 [] [1, 9, 14, 15, 17, 54, 55, 56, 66] (fun γ58 => [(18, .pointer (some ⟨γ58 0, 0, none⟩))]) (fun γ58 L => bx (γ58 0) (#[.int .i64 0, .int .i64 0, .int .u64 0, .int .u64 0, .int .u64 0, .int .i64 0, .int .u64 0, .bool false]) 78 :: L) (fun γ58 => ?_)
       refine od_ ?_
       exact any_weak (hm fun i => [γ58 0].getD i 0) [1, 9, 14, 15, 17, 18, 54, 55, 56, 66] (by kernel_rfl) rfl rfl rfl
      ·
       refine mo0 1 [] [1, 9, 14, 15, 17, 54, 55, 56, 61, 64] (fun γ59 => [(18, .pointer (some ⟨γ59 0, 0, none⟩))]) (fun γ59 L => bx (γ59 0) (#[.int .i64 0, .int .i64 0, .int .u64 0, .int .u64 0, .int .u64 0, .int .i64 0, .int .u64 0, .bool false]) 78 :: L) (fun γ59 => ?_)
       refine od_ ?_
       refine a1 4 rfl ?_
       refine qo 1 [(4, .go (outs b47 (o47 + j * 3) [.int .i64 x48.id, .int .u64 x48.ord, .bool x48.fresh]))] [1, 9, 14, 15, 17, 18, 54, 55, 56, 61] [(65, .agg #[.int .i64 x48.id, .int .u64 x48.ord, .bool x48.fresh])] (cellsP w b47 (o47 + j * 3) [.int .i64 x48.id, .int .u64 x48.ord, .bool x48.fresh]) (rd_pre (hsv47.get hx48) _ rfl) ?_
       refine od_ ?_
       refine tk (m := 1) [5] [] [1, 9, 14, 15, 17, 18, 54, 55, 56] [(66, .agg #[.int .i64 x45.id, .int .i64 x45.each, .int .u64 x45.th, .int .u64 x45.tl, .int .u64 x45.tw, .int .i64 x48.id, .int .u64 x48.ord, .bool x48.fresh])] ([]) #[true, true, true, true, true, true, true, false] al0 ?_
       exact any_weak (hm fun i => [γ59 0].getD i 0) [1, 9, 14, 15, 17, 18, 54, 55, 56, 66] (by kernel_rfl) rfl rfl rfl
     ·
      refine qo 1 [(4, .go (outs b47 (o47 + j * 3) [.int .i64 x48.id, .int .u64 x48.ord, .bool x48.fresh]))] [1, 9, 14, 15, 17, 54, 55, 56] [(65, .agg #[.int .i64 x48.id, .int .u64 x48.ord, .bool x48.fresh])] (cellsP w b47 (o47 + j * 3) [.int .i64 x48.id, .int .u64 x48.ord, .bool x48.fresh]) (rd_pre (hsv47.get hx48) _ rfl) ?_
      refine od_ ?_
      refine any_fork [0, 6] (by kernel_rfl) (by simp) (each_cons _ rfl ?_ (each_cons _ rfl ?_ (each_nil)))
      ·
       refine qo0 1 [(0, .go (owns 0 0 5))] [1, 9, 14, 15, 17, 54, 55, 56, 65] [(61, .agg #[.int .i64 x45.id, .int .i64 x45.each, .int .u64 x45.th, .int .u64 x45.tl, .int .u64 x45.tw])] ?_
       refine od_ ?_
       refine tk (m := 2) [5] [] [1, 9, 14, 15, 17, 54, 55, 56] [(66, .agg #[.int .i64 x45.id, .int .i64 x45.each, .int .u64 x45.th, .int .u64 x45.tl, .int .u64 x45.tw, .int .i64 x48.id, .int .u64 x48.ord, .bool x48.fresh])] ([]) #[true, true, true, true, true, true, false, false] al0 ?_
       refine a1 6 rfl ?_
       refine mo0 1 [] [1, 9, 14, 15, 17, 54, 55, 56, 66] (fun γ65 => [(18, .pointer (some ⟨γ65 0, 0, none⟩))]) (fun γ65 L => bx (γ65 0) (#[.int .i64 0, .int .i64 0, .int .u64 0, .int .u64 0, .int .u64 0, .int .i64 0, .int .u64 0, .bool false]) 78 :: L) (fun γ65 => ?_)
       refine od_ ?_
       exact any_weak (hm fun i => [γ65 0].getD i 0) [1, 9, 14, 15, 17, 18, 54, 55, 56, 66] (by kernel_rfl) rfl rfl rfl
      ·
       refine mo0 1 [] [1, 9, 14, 15, 17, 54, 55, 56, 65] (fun γ66 => [(18, .pointer (some ⟨γ66 0, 0, none⟩))]) (fun γ66 L => bx (γ66 0) (#[.int .i64 0, .int .i64 0, .int .u64 0, .int .u64 0, .int .u64 0, .int .i64 0, .int .u64 0, .bool false]) 78 :: L) (fun γ66 => ?_)
       refine od_ ?_
       refine a1 0 rfl ?_
       refine qo0 1 [(0, .go (owns 1 0 5))] [1, 9, 14, 15, 17, 18, 54, 55, 56, 65] [(61, .agg #[.int .i64 x45.id, .int .i64 x45.each, .int .u64 x45.th, .int .u64 x45.tl, .int .u64 x45.tw])] ?_
       refine od_ ?_
       refine tk (m := 1) [5] [] [1, 9, 14, 15, 17, 18, 54, 55, 56] [(66, .agg #[.int .i64 x45.id, .int .i64 x45.each, .int .u64 x45.th, .int .u64 x45.tl, .int .u64 x45.tw, .int .i64 x48.id, .int .u64 x48.ord, .bool x48.fresh])] ([]) #[true, true, true, true, true, true, true, false] al0 ?_
       exact any_weak (hm fun i => [γ66 0].getD i 0) [1, 9, 14, 15, 17, 18, 54, 55, 56, 66] (by kernel_rfl) rfl rfl rfl
     ·
      refine mo0 1 [] [1, 9, 14, 15, 17, 54, 55, 56, 64] (fun γ69 => [(18, .pointer (some ⟨γ69 0, 0, none⟩))]) (fun γ69 L => bx (γ69 0) (#[.int .i64 0, .int .i64 0, .int .u64 0, .int .u64 0, .int .u64 0, .int .i64 0, .int .u64 0, .bool false]) 78 :: L) (fun γ69 => ?_)
      refine od_ ?_
      refine any_fork [0, 4] (by kernel_rfl) (by simp) (each_cons _ rfl ?_ (each_cons _ rfl ?_ (each_nil)))
      ·
       refine qo0 1 [(0, .go (owns 1 0 5))] [1, 9, 14, 15, 17, 18, 54, 55, 56, 64] [(61, .agg #[.int .i64 x45.id, .int .i64 x45.each, .int .u64 x45.th, .int .u64 x45.tl, .int .u64 x45.tw])] ?_
       refine od_ ?_
       refine a1 4 rfl ?_
       refine qo 1 [(4, .go (outs b47 (o47 + j * 3) [.int .i64 x48.id, .int .u64 x48.ord, .bool x48.fresh]))] [1, 9, 14, 15, 17, 18, 54, 55, 56, 61] [(65, .agg #[.int .i64 x48.id, .int .u64 x48.ord, .bool x48.fresh])] (cellsP w b47 (o47 + j * 3) [.int .i64 x48.id, .int .u64 x48.ord, .bool x48.fresh]) (rd_pre (hsv47.get hx48) _ rfl) ?_
       refine od_ ?_
       refine tk (m := 1) [5] [] [1, 9, 14, 15, 17, 18, 54, 55, 56] [(66, .agg #[.int .i64 x45.id, .int .i64 x45.each, .int .u64 x45.th, .int .u64 x45.tl, .int .u64 x45.tw, .int .i64 x48.id, .int .u64 x48.ord, .bool x48.fresh])] ([]) #[true, true, true, true, true, true, true, false] al0 ?_
       exact any_weak (hm fun i => [γ69 0].getD i 0) [1, 9, 14, 15, 17, 18, 54, 55, 56, 66] (by kernel_rfl) rfl rfl rfl
      ·
       refine qo 1 [(4, .go (outs b47 (o47 + j * 3) [.int .i64 x48.id, .int .u64 x48.ord, .bool x48.fresh]))] [1, 9, 14, 15, 17, 18, 54, 55, 56] [(65, .agg #[.int .i64 x48.id, .int .u64 x48.ord, .bool x48.fresh])] (cellsP w b47 (o47 + j * 3) [.int .i64 x48.id, .int .u64 x48.ord, .bool x48.fresh]) (rd_pre (hsv47.get hx48) _ rfl) ?_
       refine od_ ?_
       refine a1 0 rfl ?_
       refine qo0 1 [(0, .go (owns 1 0 5))] [1, 9, 14, 15, 17, 18, 54, 55, 56, 65] [(61, .agg #[.int .i64 x45.id, .int .i64 x45.each, .int .u64 x45.th, .int .u64 x45.tl, .int .u64 x45.tw])] ?_
       refine od_ ?_
       refine tk (m := 1) [5] [] [1, 9, 14, 15, 17, 18, 54, 55, 56] [(66, .agg #[.int .i64 x45.id, .int .i64 x45.each, .int .u64 x45.th, .int .u64 x45.tl, .int .u64 x45.tw, .int .i64 x48.id, .int .u64 x48.ord, .bool x48.fresh])] ([]) #[true, true, true, true, true, true, true, false] al0 ?_
       exact any_weak (hm fun i => [γ69 0].getD i 0) [1, 9, 14, 15, 17, 18, 54, 55, 56, 66] (by kernel_rfl) rfl rfl rfl
    refine a1 7 rfl ?_
    refine mo0 1 [(7, .go (owns 0 0 8))] [1, 9, 14, 15, 17, 18, 54, 55, 56] (fun _ => []) (fun _ L => (L.set 0 (bx (γ54 0) (#[.int .i64 x45.id, .int .i64 x45.each, .int .u64 x45.th, .int .u64 x45.tl, .int .u64 x45.tw, .int .i64 x48.id, .int .u64 x48.ord, .bool x48.fresh]) 78))) (fun _ => ?_)
    refine od_ ?_
    refine any_nil (by kernel_rfl) ?_
    refine ds_ (sq_ (ao_ (qo0 3 [(2, .go (owns 1 0 1))] [1, 9, 14, 15, 18, 54, 55, 56] [(67, .map (some (γ9 0))), (69, .int .i64 x45.id)] (ops_lookup (ik := .i64) (enc := (Value.int .i64)) (kk := x45.id) 2 ((Value.int .i64) 0) (.int .i64 ((mget Dg x45.id).getD 0)) rfl (by kernel_rfl) (by kernel_rfl) (by kernel_rfl) (by kernel_rfl) (⟨3, 3, by kernel_rfl, by kernel_rfl, by kernel_rfl⟩ : mapB Try.prog 75 .i64 ((Value.int .i64) 0)) rfl hmG (map_getD _ _ _) (qo0 1 [] [1, 9, 14, 15, 18, 54, 55, 56] [(19, .int .i64 ((mget Dg x45.id).getD 0))] (on_ (ds_ (sq_ ?_))))))))
    have hgv := hG x45.id
    have hgl := gnV_le (gs := (al.map IntsA.l)) (k := x45.id)
    rw [hgv]
    by_cases q80 : ((gnV (al.map IntsA.l) x45.id : Nat) : Int) > (0 : Int)
    ·
     refine qa [(1, .yes)] [1, 9, 14, 15, 18, 19, 54, 55, 56] [(72, .bool true)] ([((gnV (al.map IntsA.l) x45.id : Nat) : Int) > (0 : Int)]) (al1 q80) (ds_ (t_ ?_))
     have hln82 := hOr.len
     obtain ⟨g82, cs82, rfl, rfl, hOw82⟩ := hOr.rowOf (i := gnV (al.map IntsA.l) x45.id) (by omega)
     obtain ⟨x83, hx83⟩ := get_some (l := rl) (m := gnV (al.map IntsA.l) x45.id) (by omega)
     have hri := row_in hR hx83
     have hrt : ((pairsV ts ws).take j).length ≤ n := by rw [List.length_take]; omega
     obtain ⟨Ya5, Yx5, Yb5, hYq, hOx5, hcut5⟩ := hQ.cut hx83
     have hx5 := hOx5.facts
     obtain ⟨p9, hp9⟩ : ∃ p, p = x83.p := ⟨_, rfl⟩
     rw [← hp9] at hOx5
     refine At.as (L' := bx (γ54 0) (#[.int .i64 x45.id, .int .i64 x45.each, .int .u64 x45.th, .int .u64 x45.tl, .int .u64 x45.tw, .int .i64 x48.id, .int .u64 x48.ord, .bool x48.fresh]) 78 :: bx (γ46 0) (#[.int .i64 x45.id, .int .i64 x45.each, .int .u64 x45.th, .int .u64 x45.tl, .int .u64 x45.tw]) 67 :: (γ9 0, .map eG kG) :: bx (γ1 0) (#[.slice (some ⟨b43, o43, none⟩) n cap]) 26 :: bx g82 cs82 79 :: (Ya5 ++ (Yx5 ++ (Yb5 ++ (Yo ++ (Yi ++ [])))))) (by rw [hYq]; simp only [List.append_assoc, List.cons_append, List.nil_append]; first | done | rfl) ?_
     refine at_any (by kernel_rfl) ?_
     refine tk (m := 6) [0, 1, 2, 3, 4] [(4, .at g82 0 (gnV (al.map IntsA.l) x45.id))] [1, 9, 14, 15, 18, 54, 55, 56] [(73, .slice (some ⟨g82, 0, none⟩) (m + 1) (m + 1)), (74, .int .i64 (gnV (al.map IntsA.l) x45.id : Nat)), (77, .pointer (some ⟨g82, 0 + (gnV (al.map IntsA.l) x45.id) * 1, none⟩))] ([(some ⟨g82, 0, none⟩ : Option Addr) = some ⟨g82, 0, none⟩, (gnV (al.map IntsA.l) x45.id : Nat) = ((gnV (al.map IntsA.l) x45.id : Nat) : Int), gnV (al.map IntsA.l) x45.id < m + 1]) #[true, true, true, true, true, false, false, false, false, false, false] (al2 rfl (al2 rfl (al1 (by omega)))) ?_
     refine any_cutG 3 #[true, true, true, true, true, true, true, true, false, false, false] (fun γ89 => [(1, .slice pw nw capw), (9, .map (some (γ9 0))), (14, .slice (some ⟨g82, 0, none⟩) (m + 1) (m + 1)), (15, .slice po nu co), (54, .slice (some ⟨b43, o43, none⟩) n cap), (55, .int .i64 (n : Nat)), (56, .int .i64 (j : Nat)), (73, .slice (some ⟨g82, 0, none⟩) (m + 1) (m + 1)), (74, .int .i64 (gnV (al.map IntsA.l) x45.id : Nat)), (78, .slice p9 x83.n x83.cap), (80, .slice (some ⟨γ89 0, 0, none⟩) 1 1)]) (fun γ89 => bx (γ89 0) (#[.int .i64 x45.id, .int .i64 x45.each, .int .u64 x45.th, .int .u64 x45.tl, .int .u64 x45.tw, .int .i64 x48.id, .int .u64 x48.ord, .bool x48.fresh]) 78 :: bx (γ54 0) (#[.int .i64 x45.id, .int .i64 x45.each, .int .u64 x45.th, .int .u64 x45.tl, .int .u64 x45.tw, .int .i64 x48.id, .int .u64 x48.ord, .bool x48.fresh]) 78 :: bx (γ46 0) (#[.int .i64 x45.id, .int .i64 x45.each, .int .u64 x45.th, .int .u64 x45.tl, .int .u64 x45.tw]) 67 :: (γ9 0, .map eG kG) :: bx (γ1 0) (#[.slice (some ⟨b43, o43, none⟩) n cap]) 26 :: bx g82 cs82 79 :: (Ya5 ++ (Yx5 ++ (Yb5 ++ (Yo ++ (Yi ++ [])))))) (fun γ89 => ?_) (fun hm => ?_)
     rotate_left
     ·
      refine any_fork [5, 6] (by kernel_rfl) (by simp) (each_cons _ rfl ?_ (each_cons _ rfl ?_ (each_nil)))
      ·
       refine qo 1 [(5, .is (ownps 4 (0 + (gnV (al.map IntsA.l) x45.id) * 1) [.slice x83.p x83.n x83.cap]) (.slice p9 x83.n x83.cap))] [1, 9, 14, 15, 18, 54, 55, 56, 73, 74] [(78, .slice p9 x83.n x83.cap)] ([Value.slice x83.p x83.n x83.cap = .slice p9 x83.n x83.cap] ++ (acellsP cs82 (0 + (gnV (al.map IntsA.l) x45.id) * 1) [.slice x83.p x83.n x83.cap])) (alA (al1 (by rw [hp9])) (rda_pre (hOw82.rdx hOr.len hx83) _ rfl)) ?_
       refine od_ ?_
       refine a1 6 rfl ?_
       refine qo0 1 [(6, .go (owns 0 0 8))] [1, 9, 14, 15, 54, 55, 56, 73, 74, 78] [(79, .agg #[.int .i64 x45.id, .int .i64 x45.each, .int .u64 x45.th, .int .u64 x45.tl, .int .u64 x45.tw, .int .i64 x48.id, .int .u64 x48.ord, .bool x48.fresh])] ?_
       refine od_ ?_
       refine a1 7 rfl ?_
       refine mo0 1 [] [1, 9, 14, 15, 54, 55, 56, 73, 74, 78] (fun γ92 => [(80, .slice (some ⟨γ92 0, 0, none⟩) 1 1)]) (fun γ92 L => bx (γ92 0) (#[.int .i64 x45.id, .int .i64 x45.each, .int .u64 x45.th, .int .u64 x45.tl, .int .u64 x45.tw, .int .i64 x48.id, .int .u64 x48.ord, .bool x48.fresh]) 78 :: L) (fun γ92 => ?_)
       refine od_ ?_
       exact any_weak (hm fun i => [γ92 0].getD i 0) [1, 9, 14, 15, 54, 55, 56, 73, 74, 78, 80] (by kernel_rfl) rfl rfl rfl
      ·
       refine qo0 1 [(6, .go (owns 0 0 8))] [1, 9, 14, 15, 54, 55, 56, 73, 74, 77] [(79, .agg #[.int .i64 x45.id, .int .i64 x45.each, .int .u64 x45.th, .int .u64 x45.tl, .int .u64 x45.tw, .int .i64 x48.id, .int .u64 x48.ord, .bool x48.fresh])] ?_
       refine od_ ?_
       refine any_fork [5, 7] (by kernel_rfl) (by simp) (each_cons _ rfl ?_ (each_cons _ rfl ?_ (each_nil)))
       ·
        refine qo 1 [(5, .is (ownps 4 (0 + (gnV (al.map IntsA.l) x45.id) * 1) [.slice x83.p x83.n x83.cap]) (.slice p9 x83.n x83.cap))] [1, 9, 14, 15, 54, 55, 56, 73, 74, 79] [(78, .slice p9 x83.n x83.cap)] ([Value.slice x83.p x83.n x83.cap = .slice p9 x83.n x83.cap] ++ (acellsP cs82 (0 + (gnV (al.map IntsA.l) x45.id) * 1) [.slice x83.p x83.n x83.cap])) (alA (al1 (by rw [hp9])) (rda_pre (hOw82.rdx hOr.len hx83) _ rfl)) ?_
        refine od_ ?_
        refine a1 7 rfl ?_
        refine mo0 1 [] [1, 9, 14, 15, 54, 55, 56, 73, 74, 78] (fun γ95 => [(80, .slice (some ⟨γ95 0, 0, none⟩) 1 1)]) (fun γ95 L => bx (γ95 0) (#[.int .i64 x45.id, .int .i64 x45.each, .int .u64 x45.th, .int .u64 x45.tl, .int .u64 x45.tw, .int .i64 x48.id, .int .u64 x48.ord, .bool x48.fresh]) 78 :: L) (fun γ95 => ?_)
        refine od_ ?_
        exact any_weak (hm fun i => [γ95 0].getD i 0) [1, 9, 14, 15, 54, 55, 56, 73, 74, 78, 80] (by kernel_rfl) rfl rfl rfl
       ·
        refine mo0 1 [] [1, 9, 14, 15, 54, 55, 56, 73, 74, 77] (fun γ96 => [(80, .slice (some ⟨γ96 0, 0, none⟩) 1 1)]) (fun γ96 L => bx (γ96 0) (#[.int .i64 x45.id, .int .i64 x45.each, .int .u64 x45.th, .int .u64 x45.tl, .int .u64 x45.tw, .int .i64 x48.id, .int .u64 x48.ord, .bool x48.fresh]) 78 :: L) (fun γ96 => ?_)
        refine od_ ?_
        refine a1 5 rfl ?_
        refine qo 1 [(5, .is (ownps 5 (0 + (gnV (al.map IntsA.l) x45.id) * 1) [.slice x83.p x83.n x83.cap]) (.slice p9 x83.n x83.cap))] [1, 9, 14, 15, 54, 55, 56, 73, 74, 80] [(78, .slice p9 x83.n x83.cap)] ([Value.slice x83.p x83.n x83.cap = .slice p9 x83.n x83.cap] ++ (acellsP cs82 (0 + (gnV (al.map IntsA.l) x45.id) * 1) [.slice x83.p x83.n x83.cap])) (alA (al1 (by rw [hp9])) (rda_pre (hOw82.rdx hOr.len hx83) _ rfl)) ?_
        refine od_ ?_
        exact any_weak (hm fun i => [γ96 0].getD i 0) [1, 9, 14, 15, 54, 55, 56, 73, 74, 78, 80] (by kernel_rfl) rfl rfl rfl
     refine a1 8 rfl ?_
     refine Ops.pick [[bx (γ89 0) (#[.int .i64 x45.id, .int .i64 x45.each, .int .u64 x45.th, .int .u64 x45.tl, .int .u64 x45.tw, .int .i64 x48.id, .int .u64 x48.ord, .bool x48.fresh]) 78], [bx (γ54 0) (#[.int .i64 x45.id, .int .i64 x45.each, .int .u64 x45.th, .int .u64 x45.tl, .int .u64 x45.tw, .int .i64 x48.id, .int .u64 x48.ord, .bool x48.fresh]) 78], [bx (γ46 0) (#[.int .i64 x45.id, .int .i64 x45.each, .int .u64 x45.th, .int .u64 x45.tl, .int .u64 x45.tw]) 67], [(γ9 0, .map eG kG)], [bx (γ1 0) (#[.slice (some ⟨b43, o43, none⟩) n cap]) 26], [bx g82 cs82 79], Ya5, Yx5, Yb5, Yo, Yi] [0, 1, 2, 3, 4, 5, 7, 6, 8, 9, 10] [] (bx (γ89 0) (#[.int .i64 x45.id, .int .i64 x45.each, .int .u64 x45.th, .int .u64 x45.tl, .int .u64 x45.tw, .int .i64 x48.id, .int .u64 x48.ord, .bool x48.fresh]) 78 :: bx (γ54 0) (#[.int .i64 x45.id, .int .i64 x45.each, .int .u64 x45.th, .int .u64 x45.tl, .int .u64 x45.tw, .int .i64 x48.id, .int .u64 x48.ord, .bool x48.fresh]) 78 :: bx (γ46 0) (#[.int .i64 x45.id, .int .i64 x45.each, .int .u64 x45.th, .int .u64 x45.tl, .int .u64 x45.tw]) 67 :: (γ9 0, .map eG kG) :: bx (γ1 0) (#[.slice (some ⟨b43, o43, none⟩) n cap]) 26 :: bx g82 cs82 79 :: (Yx5 ++ (Ya5 ++ (Yb5 ++ (Yo ++ (Yi ++ [])))))) (by kernel_rfl) rfl rfl (ops_append (α := Pr) [bx (γ89 0) (#[.int .i64 x45.id, .int .i64 x45.each, .int .u64 x45.th, .int .u64 x45.tl, .int .u64 x45.tw, .int .i64 x48.id, .int .u64 x48.ord, .bool x48.fresh]) 78, bx (γ54 0) (#[.int .i64 x45.id, .int .i64 x45.each, .int .u64 x45.th, .int .u64 x45.tl, .int .u64 x45.tw, .int .i64 x48.id, .int .u64 x48.ord, .bool x48.fresh]) 78, bx (γ46 0) (#[.int .i64 x45.id, .int .i64 x45.each, .int .u64 x45.th, .int .u64 x45.tl, .int .u64 x45.tw]) 67, (γ9 0, .map eG kG), bx (γ1 0) (#[.slice (some ⟨b43, o43, none⟩) n cap]) 26, bx g82 cs82 79] Yx5 (Ya5 ++ (Yb5 ++ (Yo ++ (Yi ++ [])))) (.refl _) rfl (by kernel_rfl) (by kernel_rfl) (p := p9) (n := x83.n) (cap := x83.cap) (m := 1) (yv := .slice (some ⟨γ89 0, 0, none⟩) 1 1) (by kernel_rfl) (by kernel_rfl) (T := 78) (by_ := 64) (by kernel_rfl) x83.l ([(⟨x45, x48⟩ : Pr)]) hOx5 (fun w hw => src_svn Try.underlying79 (sv_row (hw.row 0 rfl) (by rfl)) (by rfl)) (by rfl) (by have hmx : maxLen = 9223372036854775807 := rfl; omega) (by have hmx : maxLen = 9223372036854775807 := rfl; omega) (fun Y98 p98 cap98 hO98 => ?_))
     refine od_ ?_
     refine tk (m := 1) [9] [(9, .at g82 0 (gnV (al.map IntsA.l) x45.id))] [1, 9, 14, 15, 54, 55, 56, 81] [(82, .pointer (some ⟨g82, 0 + (gnV (al.map IntsA.l) x45.id) * 1, none⟩))] ([(some ⟨g82, 0, none⟩ : Option Addr) = some ⟨g82, 0, none⟩, (gnV (al.map IntsA.l) x45.id : Nat) = ((gnV (al.map IntsA.l) x45.id : Nat) : Int), gnV (al.map IntsA.l) x45.id < m + 1]) #[true, true, true, true, true, true, true, true, true, true, false] (al2 rfl (al2 rfl (al1 (by omega)))) ?_
     refine a1 10 rfl ?_
     refine mo 1 [(10, .go (ownps 5 (0 + (gnV (al.map IntsA.l) x45.id) * 1) [undef]))] [1, 9, 14, 15, 54, 55, 56] (fun _ => []) (fun _ L => (L.set 5 (bx g82 ((cs82).setIfInBounds (0 + (gnV (al.map IntsA.l) x45.id) * 1) (.slice p98 (x83.n + 1) cap98)) 79))) (fun _ => [0 + (gnV (al.map IntsA.l) x45.id) * 1 < (cs82).size]) (fun _ => (al1 (hOw82.room hOr.len hx83 (f := 0) (by decide)))) (fun _ => ?_)
     refine od_ ?_
     refine any_nil (by kernel_rfl) ?_
     refine done_block (ds_ (qa [(0, .fit)] [1, 9, 14, 15, 54, 55] [(56, .int .i64 (j + 1 : Nat))] ([Fit .i64 ((j + 1 : Nat))]) (al1 (fit64 (by omega) (by omega))) (Done.pick [[bx (γ89 0) (#[.int .i64 x45.id, .int .i64 x45.each, .int .u64 x45.th, .int .u64 x45.tl, .int .u64 x45.tw, .int .i64 x48.id, .int .u64 x48.ord, .bool x48.fresh]) 78], [bx (γ54 0) (#[.int .i64 x45.id, .int .i64 x45.each, .int .u64 x45.th, .int .u64 x45.tl, .int .u64 x45.tw, .int .i64 x48.id, .int .u64 x48.ord, .bool x48.fresh]) 78], [bx (γ46 0) (#[.int .i64 x45.id, .int .i64 x45.each, .int .u64 x45.th, .int .u64 x45.tl, .int .u64 x45.tw]) 67], [(γ9 0, .map eG kG)], [bx (γ1 0) (#[.slice (some ⟨b43, o43, none⟩) n cap]) 26], [bx g82 ((cs82).setIfInBounds (0 + (gnV (al.map IntsA.l) x45.id) * 1) (.slice p98 (x83.n + 1) cap98)) 79], Y98, Ya5, Yb5, Yo, Yi] [3, 4, 5, 7, 6, 8, 9, 10] [0, 1, 2] ((γ9 0, .map eG kG) :: bx (γ1 0) (#[.slice (some ⟨b43, o43, none⟩) n cap]) 26 :: ([bx g82 ((cs82).setIfInBounds (0 + (gnV (al.map IntsA.l) x45.id) * 1) (.slice p98 (x83.n + 1) cap98)) 79] ++ (Ya5 ++ (Y98 ++ (Yb5 ++ (Yo ++ (Yi ++ []))))))) (by kernel_rfl) rfl rfl (Done.as (L' := (γ9 0, .map eG kG) :: bx (γ1 0) (#[.slice (some ⟨b43, o43, none⟩) n cap]) 26 :: ([bx g82 ((cs82).setIfInBounds (0 + (gnV (al.map IntsA.l) x45.id) * 1) (.slice p98 (x83.n + 1) cap98)) 79] ++ ((Ya5 ++ (Y98 ++ Yb5)) ++ (Yo ++ (Yi ++ []))))) (by simp only [List.append_assoc]) ?_))))
     exact dr [1, 9, 14, 15, 54, 55, 56] (j + 1, (rl.set (gnV (al.map IntsA.l) x45.id) (⟨p98, (x83.n + 1), cap98, (x83.l ++ [(⟨x45, x48⟩ : Pr)])⟩ : PsA)), ([bx g82 ((cs82).setIfInBounds (0 + (gnV (al.map IntsA.l) x45.id) * 1) (.slice p98 (x83.n + 1) cap98)) 79]), (some ⟨g82, 0, none⟩), Ya5 ++ (Y98 ++ Yb5), el, Yo, po, nu, co, Yi) ⟨by omega, by omega, (SlO.ofOwn (hOw82.put (x' := (⟨p98, (x83.n + 1), cap98, (x83.l ++ [(⟨x45, x48⟩ : Pr)])⟩ : PsA)) hOr.len hx83 (f := 0) (by decide) rfl) (len_set hOr.len)), hcut5 _ (⟨p98, (x83.n + 1), cap98, (x83.l ++ [(⟨x45, x48⟩ : Pr)])⟩ : PsA) hO98, rowp_set hR hx83 (pairs_at hx45 hx48) rfl (by omega) rfl, hO, hGe, by rw [sing_no (pairs_at hx45 hx48) (show ¬ gnV (al.map IntsA.l) x45.id = 0 by omega)]; exact hE⟩
    ·
     refine qa [(1, .no)] [1, 9, 14, 15, 18, 19, 54, 55, 56] [(72, .bool false)] ([¬ (((gnV (al.map IntsA.l) x45.id : Nat) : Int) > (0 : Int))]) (al1 q80) (ds_ (f_ (ao_ (mo0 3 [(1, .go (owns 0 0 8))] [1, 9, 14, 54, 55, 56] (fun γ103 => [(83, .slice po nu co), (85, .slice (some ⟨γ103 0, 0, none⟩) 1 1)]) (fun γ103 L => bx (γ103 0) (#[.int .i64 x45.id, .int .i64 x45.each, .int .u64 x45.th, .int .u64 x45.tl, .int .u64 x45.tw, .int .i64 x48.id, .int .u64 x48.ord, .bool x48.fresh]) 78 :: L) (fun γ103 => cP (fun v L' => ∃ q_ n_ c_ Y_, v = .agg #[.slice q_ n_ c_, .int .u64 (entO [(⟨x45, x48⟩ : Pr)]).t.hi, .int .u64 (entO [(⟨x45, x48⟩ : Pr)]).t.lo, .int .u64 (entO [(⟨x45, x48⟩ : Pr)]).t.w, .int .u64 (entO [(⟨x45, x48⟩ : Pr)]).ord, .bool (entO [(⟨x45, x48⟩ : Pr)]).fresh] ∧ L' = List.take 5 (bx (γ103 0) (#[.int .i64 x45.id, .int .i64 x45.each, .int .u64 x45.th, .int .u64 x45.tl, .int .u64 x45.tw, .int .i64 x48.id, .int .u64 x48.ord, .bool x48.fresh]) 78 :: bx (γ54 0) (#[.int .i64 x45.id, .int .i64 x45.each, .int .u64 x45.th, .int .u64 x45.tl, .int .u64 x45.tw, .int .i64 x48.id, .int .u64 x48.ord, .bool x48.fresh]) 78 :: bx (γ46 0) (#[.int .i64 x45.id, .int .i64 x45.each, .int .u64 x45.th, .int .u64 x45.tl, .int .u64 x45.tw]) 67 :: (γ9 0, .map eG kG) :: bx (γ1 0) (#[.slice (some ⟨b43, o43, none⟩) n cap]) 26 :: (Yr ++ (Yq ++ (Yo ++ (Yi ++ []))))) ++ (Y_ ++ List.drop 5 (bx (γ103 0) (#[.int .i64 x45.id, .int .i64 x45.each, .int .u64 x45.th, .int .u64 x45.tl, .int .u64 x45.tw, .int .i64 x48.id, .int .u64 x48.ord, .bool x48.fresh]) 78 :: bx (γ54 0) (#[.int .i64 x45.id, .int .i64 x45.each, .int .u64 x45.th, .int .u64 x45.tl, .int .u64 x45.tw, .int .i64 x48.id, .int .u64 x48.ord, .bool x48.fresh]) 78 :: bx (γ46 0) (#[.int .i64 x45.id, .int .i64 x45.each, .int .u64 x45.th, .int .u64 x45.tl, .int .u64 x45.tw]) 67 :: (γ9 0, .map eG kG) :: bx (γ1 0) (#[.slice (some ⟨b43, o43, none⟩) n cap]) 26 :: (Yr ++ (Yq ++ (Yo ++ (Yi ++ [])))))) ∧ SlO 3 Y_ q_ n_ c_ (entO [(⟨x45, x48⟩ : Pr)]).mem) Try.call36 (fun w hw => (ent1_t (some ⟨γ103 0, 0, none⟩) 1 1 [(⟨x45, x48⟩ : Pr)] w (sv_row (hw.row 0 rfl) rfl) rfl (by decide) (by decide) (fun p hp => by rw [List.mem_singleton.1 hp]; exact hzU _ (List.mem_of_getElem? (pairs_at hx45 hx48)))).mono fun e w' ⟨q_, n_, c_, Y_, he, hO, hb, hY⟩ => ⟨_, _, he, ⟨q_, n_, c_, Y_, rfl, rfl, hO⟩, hw.join hb hY 5⟩) ?_)))))
     rintro v104 L104 ⟨q104, n104, c104, Y104, rfl, rfl, hO104⟩
     refine mo0 1 [] [1, 9, 14, 54, 55, 56, 83] (fun γ105 => [(87, .slice (some ⟨γ105 0, 0, none⟩) 1 1)]) (fun γ105 L => bx (γ105 0) (#[.slice q104 n104 c104, .int .u64 ((entO [(⟨x45, x48⟩ : Pr)]).t.hi), .int .u64 ((entO [(⟨x45, x48⟩ : Pr)]).t.lo), .int .u64 ((entO [(⟨x45, x48⟩ : Pr)]).t.w), .int .u64 ((entO [(⟨x45, x48⟩ : Pr)]).ord), .bool ((entO [(⟨x45, x48⟩ : Pr)]).fresh)]) 47 :: L) (fun γ105 => Ops.pick [[bx (γ105 0) (#[.slice q104 n104 c104, .int .u64 ((entO [(⟨x45, x48⟩ : Pr)]).t.hi), .int .u64 ((entO [(⟨x45, x48⟩ : Pr)]).t.lo), .int .u64 ((entO [(⟨x45, x48⟩ : Pr)]).t.w), .int .u64 ((entO [(⟨x45, x48⟩ : Pr)]).ord), .bool ((entO [(⟨x45, x48⟩ : Pr)]).fresh)]) 47], [bx (γ103 0) (#[.int .i64 x45.id, .int .i64 x45.each, .int .u64 x45.th, .int .u64 x45.tl, .int .u64 x45.tw, .int .i64 x48.id, .int .u64 x48.ord, .bool x48.fresh]) 78], [bx (γ54 0) (#[.int .i64 x45.id, .int .i64 x45.each, .int .u64 x45.th, .int .u64 x45.tl, .int .u64 x45.tw, .int .i64 x48.id, .int .u64 x48.ord, .bool x48.fresh]) 78], [bx (γ46 0) (#[.int .i64 x45.id, .int .i64 x45.each, .int .u64 x45.th, .int .u64 x45.tl, .int .u64 x45.tw]) 67], [(γ9 0, .map eG kG)], [bx (γ1 0) (#[.slice (some ⟨b43, o43, none⟩) n cap]) 26], Y104, Yr, Yq, Yo, Yi] [0, 1, 2, 3, 4, 5, 9, 6, 7, 8, 10] [] (bx (γ105 0) (#[.slice q104 n104 c104, .int .u64 ((entO [(⟨x45, x48⟩ : Pr)]).t.hi), .int .u64 ((entO [(⟨x45, x48⟩ : Pr)]).t.lo), .int .u64 ((entO [(⟨x45, x48⟩ : Pr)]).t.w), .int .u64 ((entO [(⟨x45, x48⟩ : Pr)]).ord), .bool ((entO [(⟨x45, x48⟩ : Pr)]).fresh)]) 47 :: bx (γ103 0) (#[.int .i64 x45.id, .int .i64 x45.each, .int .u64 x45.th, .int .u64 x45.tl, .int .u64 x45.tw, .int .i64 x48.id, .int .u64 x48.ord, .bool x48.fresh]) 78 :: bx (γ54 0) (#[.int .i64 x45.id, .int .i64 x45.each, .int .u64 x45.th, .int .u64 x45.tl, .int .u64 x45.tw, .int .i64 x48.id, .int .u64 x48.ord, .bool x48.fresh]) 78 :: bx (γ46 0) (#[.int .i64 x45.id, .int .i64 x45.each, .int .u64 x45.th, .int .u64 x45.tl, .int .u64 x45.tw]) 67 :: (γ9 0, .map eG kG) :: bx (γ1 0) (#[.slice (some ⟨b43, o43, none⟩) n cap]) 26 :: (Yo ++ (Y104 ++ (Yr ++ (Yq ++ (Yi ++ [])))))) (by kernel_rfl) rfl rfl (ops_append (α := EnA) [bx (γ105 0) (#[.slice q104 n104 c104, .int .u64 ((entO [(⟨x45, x48⟩ : Pr)]).t.hi), .int .u64 ((entO [(⟨x45, x48⟩ : Pr)]).t.lo), .int .u64 ((entO [(⟨x45, x48⟩ : Pr)]).t.w), .int .u64 ((entO [(⟨x45, x48⟩ : Pr)]).ord), .bool ((entO [(⟨x45, x48⟩ : Pr)]).fresh)]) 47, bx (γ103 0) (#[.int .i64 x45.id, .int .i64 x45.each, .int .u64 x45.th, .int .u64 x45.tl, .int .u64 x45.tw, .int .i64 x48.id, .int .u64 x48.ord, .bool x48.fresh]) 78, bx (γ54 0) (#[.int .i64 x45.id, .int .i64 x45.each, .int .u64 x45.th, .int .u64 x45.tl, .int .u64 x45.tw, .int .i64 x48.id, .int .u64 x48.ord, .bool x48.fresh]) 78, bx (γ46 0) (#[.int .i64 x45.id, .int .i64 x45.each, .int .u64 x45.th, .int .u64 x45.tl, .int .u64 x45.tw]) 67, (γ9 0, .map eG kG), bx (γ1 0) (#[.slice (some ⟨b43, o43, none⟩) n cap]) 26] Yo (Y104 ++ (Yr ++ (Yq ++ (Yi ++ [])))) (.refl _) rfl (by kernel_rfl) (by kernel_rfl) (p := po) (n := nu) (cap := co) (m := 1) (yv := .slice (some ⟨γ105 0, 0, none⟩) 1 1) (by kernel_rfl) (by kernel_rfl) (T := 47) (by_ := 64) (by kernel_rfl) el ([(⟨q104, n104, c104, (entO [(⟨x45, x48⟩ : Pr)]).mem, (entO [(⟨x45, x48⟩ : Pr)]).t.hi, (entO [(⟨x45, x48⟩ : Pr)]).t.lo, (entO [(⟨x45, x48⟩ : Pr)]).t.w, (entO [(⟨x45, x48⟩ : Pr)]).ord, (entO [(⟨x45, x48⟩ : Pr)]).fresh⟩ : EnA)]) hO (fun w hw => src_svn Try.underlying34 (sv_row (hw.row 0 rfl) (by rfl)) (by rfl)) (by rfl) (by have hmx : maxLen = 9223372036854775807 := rfl; omega) (by have hmx : maxLen = 9223372036854775807 := rfl; omega) (fun Y106 p106 cap106 hO106 => ?_)))
     refine qo0 1 [] [1, 9, 14, 54, 55, 56] [(15, .slice p106 (nu + 1) cap106)] (on_ (done_block (ds_ (qa [(0, .fit)] [1, 9, 14, 15, 54, 55] [(56, .int .i64 (j + 1 : Nat))] ([Fit .i64 ((j + 1 : Nat))]) (al1 (fit64 (by omega) (by omega))) (Done.pick [[bx (γ105 0) (#[.slice q104 n104 c104, .int .u64 ((entO [(⟨x45, x48⟩ : Pr)]).t.hi), .int .u64 ((entO [(⟨x45, x48⟩ : Pr)]).t.lo), .int .u64 ((entO [(⟨x45, x48⟩ : Pr)]).t.w), .int .u64 ((entO [(⟨x45, x48⟩ : Pr)]).ord), .bool ((entO [(⟨x45, x48⟩ : Pr)]).fresh)]) 47], [bx (γ103 0) (#[.int .i64 x45.id, .int .i64 x45.each, .int .u64 x45.th, .int .u64 x45.tl, .int .u64 x45.tw, .int .i64 x48.id, .int .u64 x48.ord, .bool x48.fresh]) 78], [bx (γ54 0) (#[.int .i64 x45.id, .int .i64 x45.each, .int .u64 x45.th, .int .u64 x45.tl, .int .u64 x45.tw, .int .i64 x48.id, .int .u64 x48.ord, .bool x48.fresh]) 78], [bx (γ46 0) (#[.int .i64 x45.id, .int .i64 x45.each, .int .u64 x45.th, .int .u64 x45.tl, .int .u64 x45.tw]) 67], [(γ9 0, .map eG kG)], [bx (γ1 0) (#[.slice (some ⟨b43, o43, none⟩) n cap]) 26], Y106, Y104, Yr, Yq, Yi] [4, 5, 8, 9, 6, 10, 7] [0, 1, 2, 3] ((γ9 0, .map eG kG) :: bx (γ1 0) (#[.slice (some ⟨b43, o43, none⟩) n cap]) 26 :: (Yr ++ (Yq ++ (Y106 ++ (Yi ++ (Y104 ++ [])))))) (by kernel_rfl) rfl rfl (Done.as (L' := (γ9 0, .map eG kG) :: bx (γ1 0) (#[.slice (some ⟨b43, o43, none⟩) n cap]) 26 :: (Yr ++ (Yq ++ (Y106 ++ ((Yi ++ Y104) ++ []))))) (by simp only [List.append_assoc]) ?_))))))
     exact dr [1, 9, 14, 15, 54, 55, 56] (j + 1, rl, Yr, pr, Yq, (el ++ [(⟨q104, n104, c104, (entO [(⟨x45, x48⟩ : Pr)]).mem, (entO [(⟨x45, x48⟩ : Pr)]).t.hi, (entO [(⟨x45, x48⟩ : Pr)]).t.lo, (entO [(⟨x45, x48⟩ : Pr)]).t.w, (entO [(⟨x45, x48⟩ : Pr)]).ord, (entO [(⟨x45, x48⟩ : Pr)]).fresh⟩ : EnA)]), Y106, p106, (nu + 1), cap106, Yi ++ Y104) ⟨by omega, by omega, hOr, hQ, by rw [rowp_no (pairs_at hx45 hx48) (show gnV (al.map IntsA.l) x45.id = 0 by omega)]; exact hR, hO106, GotE.snoc (y := (⟨q104, n104, c104, (entO [(⟨x45, x48⟩ : Pr)]).mem, (entO [(⟨x45, x48⟩ : Pr)]).t.hi, (entO [(⟨x45, x48⟩ : Pr)]).t.lo, (entO [(⟨x45, x48⟩ : Pr)]).t.w, (entO [(⟨x45, x48⟩ : Pr)]).ord, (entO [(⟨x45, x48⟩ : Pr)]).fresh⟩ : EnA)) hGe hO104, by rw [sing_yes (pairs_at hx45 hx48) (show gnV (al.map IntsA.l) x45.id = 0 by omega), List.map_append, hE]; rfl⟩
   ·
    refine qa [(0, .no)] [1, 9, 14, 15, 54, 55, 56] [(57, .bool false)] ([¬ (((j : Nat) : Int) < ((n : Nat) : Int))]) (al1 q40) (ds_ (sq_ (f_ (at_leave _ rfl (ds_ (sq_ (sq_ ?_)))))))
    rw [List.take_of_length_le (by omega)] at hR hE
    refine qa0 [] [15] [(90, .slice pr (m + 1) (m + 1)), (91, .int .i64 (m + 1 : Nat)), (92, .int .i64 0)] (ds_ (at_block (at_loop (α := Nat × List EnA × List Ob × Option Addr × Nat × Nat × List Ob) [15, 90, 91, 92] (fun ⟨i, el, Yo, po, nu, co, Yi⟩ => [(15, .slice po nu co), (90, .slice pr (m + 1) (m + 1)), (91, .int .i64 (m + 1 : Nat)), (92, .int .i64 (i : Nat))]) (fun ⟨i, el, Yo, po, nu, co, Yi⟩ => (γ9 0, .map eG kG) :: bx (γ1 0) (#[.slice p n cap]) 26 :: (Yr ++ (Yq ++ (Yo ++ (Yi ++ []))))) (fun ⟨i, el, Yo, po, nu, co, Yi⟩ => i ≤ m + 1 ∧ nu ≤ n + i ∧ SlO 47 Yo po nu co el ∧ GotE 3 Yi el ∧ el.map EnA.val = singZ (al.map IntsA.l) (pairsV ts ws) ++ ((rl.map PsA.l).take i).filterMap neO) (fun ⟨i, el, Yo, po, nu, co, Yi⟩ => m + 1 - i) (0, el, Yo, po, nu, co, Yi) (by kernel_rfl) rfl ⟨Nat.zero_le _, by omega, hO, hGe, by rw [hE, List.take_zero]; simp⟩ ?_)))
    rintro ⟨i, el, Yo, po, nu, co, Yi⟩
    rintro ⟨hi, hnu3, hO, hGe, hE3⟩
    refine sq_ ?_
    by_cases q112 : ((i : Nat) : Int) < ((m + 1 : Nat) : Int)
    ·
     refine qa [(0, .yes)] [15, 90, 91, 92] [(93, .bool true)] ([((i : Nat) : Int) < ((m + 1 : Nat) : Int)]) (al1 q112) (ds_ (sq_ (t_ (at_skip (ds_ (sq_ (at_block (sq_ ?_))))))))
     have hln115 := hOr.len
     obtain ⟨g115, cs115, rfl, rfl, hOw115⟩ := hOr.rowOf (i := i) (by omega)
     obtain ⟨x117, hx117⟩ := get_some (l := rl) (m := i) (by omega)
     refine qa [(0, .at g115 0 i), (1, .go (ownps 2 (0 + i * 1) [.slice x117.p x117.n x117.cap]))] [15, 90, 91, 92] [(21, .slice x117.p x117.n x117.cap)] ([(some ⟨g115, 0, none⟩ : Option Addr) = some ⟨g115, 0, none⟩, (i : Nat) = ((i : Nat) : Int), i < m + 1] ++ (acellsP cs115 (0 + i * 1) [.slice x117.p x117.n x117.cap])) (alA (al2 rfl (al2 rfl (al1 (by omega)))) (rda_pre (hOw115.rdx hOr.len hx117) _ rfl)) (ds_ (sq_ ?_))
     have hri := row_in hR hx117
     obtain ⟨Zx5, -, hOx5⟩ := hQ.own (List.mem_of_getElem? hx117)
     have hx5 := hOx5.facts
     by_cases q120 : ((x117.n : Nat) : Int) > (0 : Int)
     ·
      refine qa [(2, .yes)] [15, 21, 90, 91, 92] [(98, .bool true)] ([((x117.n : Nat) : Int) > (0 : Int)]) (al1 q120) (ds_ (t_ (ao_ (qo0 2 [] [90, 91, 92] [(99, .slice po nu co), (100, .slice x117.p x117.n x117.cap)] (cP (fun v L' => ∃ q_ n_ c_ Y_, v = .agg #[.slice q_ n_ c_, .int .u64 (entO x117.l).t.hi, .int .u64 (entO x117.l).t.lo, .int .u64 (entO x117.l).t.w, .int .u64 (entO x117.l).ord, .bool (entO x117.l).fresh] ∧ L' = List.take 3 ((γ9 0, .map eG kG) :: bx (γ1 0) (#[.slice p n cap]) 26 :: bx g115 cs115 79 :: (Yq ++ (Yo ++ (Yi ++ [])))) ++ (Y_ ++ List.drop 3 ((γ9 0, .map eG kG) :: bx (γ1 0) (#[.slice p n cap]) 26 :: bx g115 cs115 79 :: (Yq ++ (Yo ++ (Yi ++ []))))) ∧ SlO 3 Y_ q_ n_ c_ (entO x117.l).mem) Try.call36 (fun w hw => (ent1_t x117.p x117.n x117.cap x117.l w (GotP.reads hQ hw (List.Sublist.cons _ (List.Sublist.cons _ (List.Sublist.cons _ (List.sublist_append_left Yq _)))) x117 (List.mem_of_getElem? hx117)).sv (GotP.reads hQ hw (List.Sublist.cons _ (List.Sublist.cons _ (List.Sublist.cons _ (List.sublist_append_left Yq _)))) x117 (List.mem_of_getElem? hx117)).hn (by omega) (by omega) (fun p hp => hzU p ((row_in hR hx117).2 p hp))).mono fun e w' ⟨q_, n_, c_, Y_, he, hO, hb, hY⟩ => ⟨_, _, he, ⟨q_, n_, c_, Y_, rfl, rfl, hO⟩, hw.join hb hY 3⟩) ?_)))))
      rintro v123 L123 ⟨q123, n123, c123, Y123, rfl, rfl, hO123⟩
      refine mo0 1 [] [90, 91, 92, 99] (fun γ124 => [(102, .slice (some ⟨γ124 0, 0, none⟩) 1 1)]) (fun γ124 L => bx (γ124 0) (#[.slice q123 n123 c123, .int .u64 ((entO x117.l).t.hi), .int .u64 ((entO x117.l).t.lo), .int .u64 ((entO x117.l).t.w), .int .u64 ((entO x117.l).ord), .bool ((entO x117.l).fresh)]) 47 :: L) (fun γ124 => Ops.pick [[bx (γ124 0) (#[.slice q123 n123 c123, .int .u64 ((entO x117.l).t.hi), .int .u64 ((entO x117.l).t.lo), .int .u64 ((entO x117.l).t.w), .int .u64 ((entO x117.l).ord), .bool ((entO x117.l).fresh)]) 47], [(γ9 0, .map eG kG)], [bx (γ1 0) (#[.slice p n cap]) 26], [bx g115 cs115 79], Y123, Yq, Yo, Yi] [0, 1, 2, 3, 6, 4, 5, 7] [] (bx (γ124 0) (#[.slice q123 n123 c123, .int .u64 ((entO x117.l).t.hi), .int .u64 ((entO x117.l).t.lo), .int .u64 ((entO x117.l).t.w), .int .u64 ((entO x117.l).ord), .bool ((entO x117.l).fresh)]) 47 :: (γ9 0, .map eG kG) :: bx (γ1 0) (#[.slice p n cap]) 26 :: bx g115 cs115 79 :: (Yo ++ (Y123 ++ (Yq ++ (Yi ++ []))))) (by kernel_rfl) rfl rfl (ops_append (α := EnA) [bx (γ124 0) (#[.slice q123 n123 c123, .int .u64 ((entO x117.l).t.hi), .int .u64 ((entO x117.l).t.lo), .int .u64 ((entO x117.l).t.w), .int .u64 ((entO x117.l).ord), .bool ((entO x117.l).fresh)]) 47, (γ9 0, .map eG kG), bx (γ1 0) (#[.slice p n cap]) 26, bx g115 cs115 79] Yo (Y123 ++ (Yq ++ (Yi ++ []))) (.refl _) rfl (by kernel_rfl) (by kernel_rfl) (p := po) (n := nu) (cap := co) (m := 1) (yv := .slice (some ⟨γ124 0, 0, none⟩) 1 1) (by kernel_rfl) (by kernel_rfl) (T := 47) (by_ := 64) (by kernel_rfl) el ([(⟨q123, n123, c123, (entO x117.l).mem, (entO x117.l).t.hi, (entO x117.l).t.lo, (entO x117.l).t.w, (entO x117.l).ord, (entO x117.l).fresh⟩ : EnA)]) hO (fun w hw => src_svn Try.underlying34 (sv_row (hw.row 0 rfl) (by rfl)) (by rfl)) (by rfl) (by have hmx : maxLen = 9223372036854775807 := rfl; omega) (by have hmx : maxLen = 9223372036854775807 := rfl; omega) (fun Y125 p125 cap125 hO125 => qo0 1 [] [90, 91, 92] [(15, .slice p125 (nu + 1) cap125)] (on_ (done_block (ds_ (qa [(0, .fit)] [15, 90, 91] [(92, .int .i64 (i + 1 : Nat))] ([Fit .i64 ((i + 1 : Nat))]) (al1 (fit64 (by omega) (by omega))) (Done.pick [[bx (γ124 0) (#[.slice q123 n123 c123, .int .u64 ((entO x117.l).t.hi), .int .u64 ((entO x117.l).t.lo), .int .u64 ((entO x117.l).t.w), .int .u64 ((entO x117.l).ord), .bool ((entO x117.l).fresh)]) 47], [(γ9 0, .map eG kG)], [bx (γ1 0) (#[.slice p n cap]) 26], [bx g115 cs115 79], Y125, Y123, Yq, Yi] [1, 2, 3, 6, 4, 7, 5] [0] ((γ9 0, .map eG kG) :: bx (γ1 0) (#[.slice p n cap]) 26 :: ([bx g115 cs115 79] ++ (Yq ++ (Y125 ++ (Yi ++ (Y123 ++ [])))))) (by kernel_rfl) rfl rfl ?_))))))))
      refine Done.as (L' := (γ9 0, .map eG kG) :: bx (γ1 0) (#[.slice p n cap]) 26 :: ([bx g115 cs115 79] ++ (Yq ++ (Y125 ++ ((Yi ++ Y123) ++ []))))) (by simp only [List.append_assoc, List.cons_append, List.nil_append]) ?_
      exact dr [15, 90, 91, 92] (i + 1, (el ++ [(⟨q123, n123, c123, (entO x117.l).mem, (entO x117.l).t.hi, (entO x117.l).t.lo, (entO x117.l).t.w, (entO x117.l).ord, (entO x117.l).fresh⟩ : EnA)]), Y125, p125, (nu + 1), cap125, Yi ++ Y123) ⟨by omega, by omega, hO125, GotE.snoc (y := (⟨q123, n123, c123, (entO x117.l).mem, (entO x117.l).t.hi, (entO x117.l).t.lo, (entO x117.l).t.w, (entO x117.l).ord, (entO x117.l).fresh⟩ : EnA)) hGe hO123, by rw [fm_yes hx117 (fun e => by rw [e] at hx5; simp at hx5; omega), ← List.append_assoc, List.map_append, hE3]; rfl⟩
     ·
      refine qa [(2, .no)] [15, 21, 90, 91, 92] [(98, .bool false)] ([¬ (((x117.n : Nat) : Int) > (0 : Int))]) (al1 q120) (ds_ (f_ (at_skip (done_block (ds_ (qa [(0, .fit)] [15, 90, 91] [(92, .int .i64 (i + 1 : Nat))] ([Fit .i64 ((i + 1 : Nat))]) (al1 (fit64 (by omega) (by omega))) ?_))))))
      exact dr [15, 90, 91, 92] (i + 1, el, Yo, po, nu, co, Yi) ⟨by omega, by omega, hO, hGe, by rw [fm_no hx117 (List.length_eq_zero_iff.1 (by omega))]; exact hE3⟩
    ·
     refine qa [(0, .no)] [15, 90, 91, 92] [(93, .bool false)] ([¬ (((i : Nat) : Int) < ((m + 1 : Nat) : Int))]) (al1 q112) (ds_ (sq_ (f_ (at_leave _ rfl (ds_ (sq_ ?_))))))
     have hE4 : el.map EnA.val = rawV (al.map IntsA.l) (pairsV ts ws) := by rw [hE3]; exact raw_end (by rw [hgm]; exact hR) (by omega)
     have hnd : (el.map fun x => firstM x.val).Nodup := by have h9 := raw_nodup (gs := (al.map IntsA.l)) (ids_nodup (ws := ws) hc3.1 hwl); rw [← hE4, List.map_map] at h9; exact h9
     have hrt : ∀ x ∈ el, rightE x.val = true := fun x hx => raw_right (gs := (al.map IntsA.l)) (ws := ws) hc3.1 (by rw [← hE4]; exact List.mem_map_of_mem hx)
     have hUe : ∀ x ∈ el, x.U := raw_Us (.refl _) hE4 hzU
     refine ao_ (qo0 1 [] [15] [(105, .slice po nu co)] (Ops.pick [[(γ9 0, .map eG kG)], [bx (γ1 0) (#[.slice p n cap]) 26], Yr, Yq, Yo, Yi] [0, 1, 4, 2, 3, 5] [] ((γ9 0, .map eG kG) :: bx (γ1 0) (#[.slice p n cap]) 26 :: (Yo ++ (Yr ++ (Yq ++ (Yi ++ []))))) (by kernel_rfl) rfl rfl (cP (fun v L' => ∃ Y_ el_, v = .tuple #[] ∧ L' = [(γ9 0, .map eG kG), bx (γ1 0) (#[.slice p n cap]) 26] ++ (Y_ ++ (Yr ++ (Yq ++ (Yi ++ [])))) ∧ el_.Perm el ∧ SortP (el_.map EnA.val) ∧ SlO 47 Y_ po nu co el_) Try.call37 (fun w hw => (sortE_own (X := [(γ9 0, .map eG kG), bx (γ1 0) (#[.slice p n cap]) 26] ++ (Yr ++ (Yq ++ (Yi ++ [])))) (Hs.front (A := [(γ9 0, .map eG kG), bx (γ1 0) (#[.slice p n cap]) 26]) (Y := Yo) (R := (Yr ++ (Yq ++ (Yi ++ [])))) hw) hO (by omega) hrt hnd (fun b W hW => GotE.reads hGe hUe hW (List.Sublist.cons _ (List.Sublist.trans (List.Sublist.trans (List.Sublist.trans (List.sublist_append_left Yi _) (List.sublist_append_right Yq _)) (List.sublist_append_right Yr _)) (List.sublist_append_right _ _))))).mono fun e w' ⟨he, Y_, el_, hp_, hs_, hO_, hY_⟩ => ⟨_, _, he, ⟨Y_, el_, rfl, rfl, hp_, hs_, hO_⟩, hY_.push⟩) ?_)))
     rintro v132 L132 ⟨Y132, el132, rfl, rfl, hp132, hs132, hO132⟩
     refine on_ (ds_ (sq_ (qa0 [] [] [(6, .slice po nu co), (7, .int .i64 0)] (ds_ (rt ([]) (.tuple #[.slice po nu co, .int .i64 0]) ?_)))))
     obtain ⟨Yj, hYj, hGj⟩ := hGe.perm hp132.symm
     exact fun w' hw => ⟨_, _, _, Y132, Yj, el132, by rw [show chkO ts ws (al.map IntsA.l) = 0 from by omega], hO132, hGj, by rw [if_pos (by omega)]; exact doc_of hc3.1 hc3.2.1 hc3.2.2 (by rw [← hE4]; exact hp132.map _) hs132, raw_Us hp132 hE4 hzU, hw.below, (two_tails14 (Hs.pick [[(γ9 0, .map eG kG)], [bx (γ1 0) (#[.slice p n cap]) 26], Y132, Yr, Yq, Yi] [2, 5] [0, 1, 3, 4] (by kernel_rfl) hw)).perm (hYj.symm.append_left _)⟩
end Go.Proofs.Ytoljahfofkmdaaa

/-! Order: the layer does something. -/
namespace Go.Proofs.Ytoljahfofkmdaaa
open Go Go.RowKit

set_option maxRecDepth 100000 in
theorem over_t (a b : Int) (w : World)
 : Calls Try.prog 54 #[.int .u64 a, .int .u64 b] w fun e w' => e = .returned (.agg #[.int .u64 0, .int .u64 a, .int .u64 b]) ∧ Below w.heap.size w w' := by
 refine enter (Hs.start w) Try.func54 rfl Try.ntmps54 rfl (sq_ (ma0 [] [0, 1] (fun γ1 => [(4, .pointer (some ⟨γ1 0, 0, none⟩))]) (fun γ1 L => bx (γ1 0) (#[.int .u64 0, .int .u64 0, .int .u64 0]) 45 :: L) (fun γ1 => ds_ (sq_ (ma0 [(4, .go (owns 0 0 3))] [4] (fun _ => []) (fun _ L => (L.set 0 (bx (γ1 0) (#[.int .u64 0, .int .u64 a, .int .u64 b]) 45))) (fun _ => ds_ (rt (owns 0 0 3) (.agg #[.int .u64 0, .int .u64 a, .int .u64 b]) ?_)))))))
 exact fun w' hw => ⟨rfl, hw.below⟩
theorem lit_U12 : ∀ r ∈ [(⟨1, 1, 0, 10, 1⟩ : Rn), (⟨2, 1, 0, 20, 2⟩ : Rn), (⟨3, 1, 0, 5, 1⟩ : Rn)], r.U := by
 intro r hr
 simp only [List.mem_cons, List.not_mem_nil, or_false] at hr
 rcases hr with rfl | rfl | rfl <;> exact ⟨by decide, by decide, by decide, by decide, by constructor <;> decide⟩
theorem lit_W12 : ∀ r ∈ [(⟨1, 3, false⟩ : Wt), (⟨2, 1, false⟩ : Wt), (⟨3, 2, false⟩ : Wt)], r.U := by
 intro r hr
 simp only [List.mem_cons, List.not_mem_nil, or_false] at hr
 rcases hr with rfl | rfl | rfl <;> exact ⟨by decide, by decide, by decide, by decide⟩

set_option maxRecDepth 100000 in
theorem wakes_t  (w : World)
 : Calls Try.prog 9 #[] w fun e w' => e = .returned (.bool true) ∧ Below w.heap.size w w' := by
 refine enter (Hs.start w) Try.func9 rfl Try.ntmps9 rfl (sq_ (qa0 [] [] [] (ds_ (sq_ (ao_ (ops_inline (g := 30) (args := #[]) (by kernel_rfl) (by kernel_rfl) (by kernel_rfl) (fun args w => Try.call30 args w) Try.func30 rfl Try.ntmps30 rfl (sq_ (ma0 [] [] (fun γ3 => [(0, .pointer (some ⟨γ3 0, 0, none⟩))]) (fun γ3 L => bx (γ3 0) (#[.slice none 0 0]) 26 :: L) (fun γ3 => ds_ (sq_ (ao_ (cD (.agg #[.int .u64 0, .int .u64 10, .int .u64 1]) Try.call54 (fun w hw => over_t 10 1 w) (qo0 1 [] [0] [(4, .agg #[.int .i64 1, .int .i64 1, .int .u64 0, .int .u64 10, .int .u64 1])] (cD (.agg #[.int .u64 0, .int .u64 20, .int .u64 2]) Try.call54 (fun w hw => over_t 20 2 w) (qo0 1 [] [0, 4] [(6, .agg #[.int .i64 2, .int .i64 1, .int .u64 0, .int .u64 20, .int .u64 2])] (cD (.agg #[.int .u64 0, .int .u64 5, .int .u64 1]) Try.call54 (fun w hw => over_t 5 1 w) (mo0 5 [(9, .go (owns 0 0 1))] [0] (fun γ7 => [(2, .pointer (some ⟨γ7 1, 0, none⟩))]) (fun γ7 L => bx (γ7 1) (#[.slice (some ⟨γ7 0, 0, none⟩) 3 3]) 26 :: bx (γ7 0) (#[.int .i64 1, .int .i64 1, .int .u64 0, .int .u64 10, .int .u64 1, .int .i64 2, .int .i64 1, .int .u64 0, .int .u64 20, .int .u64 2, .int .i64 3, .int .i64 1, .int .u64 0, .int .u64 5, .int .u64 1]) 67 :: L) (fun γ7 => on_ (ds_ (sq_ (ma0 [(0, .go (owns 0 0 1)), (5, .go (owns 3 0 1))] [0] (fun γ8 => [(1, .slice (some ⟨γ8 0, 0, none⟩) 3 3)]) (fun γ8 L => bx (γ8 0) (#[.int .i64 1, .int .u64 3, .bool false, .int .i64 2, .int .u64 1, .bool false, .int .i64 3, .int .u64 2, .bool false]) 51 :: (L.set 2 (bx (γ3 0) (#[.slice (some ⟨γ7 0, 0, none⟩) 3 3]) 26))) (fun γ8 => ds_ (bk (owns 3 0 1) (.tuple #[.agg #[.slice (some ⟨γ7 0, 0, none⟩) 3 3], .slice (some ⟨γ8 0, 0, none⟩) 3 3]) (mo0 6 [(5, .go (owns 0 0 1))] [] (fun γ9 => [(1, .pointer (some ⟨γ9 0, 0, none⟩)), (2, .slice (some ⟨γ8 0, 0, none⟩) 3 3)]) (fun γ9 L => bx (γ9 0) (#[.slice (some ⟨γ7 0, 0, none⟩) 3 3]) 26 :: L) (fun γ9 => on_ (ds_ (sq_ (ao_ (qo0 2 [(0, .go (owns 0 0 1))] [1, 2] [(12, .agg #[.slice (some ⟨γ7 0, 0, none⟩) 3 3]), (13, .slice (some ⟨γ8 0, 0, none⟩) 3 3)] (cP (fun v L' => ∃ q_ n_ c_ Y_ Z_ el_, v = .tuple #[.slice q_ n_ c_, .int .i64 0] ∧ L' = List.take 5 ([bx (γ9 0) (#[.slice (some ⟨γ7 0, 0, none⟩) 3 3]) 26, bx (γ8 0) (#[.int .i64 1, .int .u64 3, .bool false, .int .i64 2, .int .u64 1, .bool false, .int .i64 3, .int .u64 2, .bool false]) 51, bx (γ7 1) (#[.slice (some ⟨γ7 0, 0, none⟩) 3 3]) 26, bx (γ7 0) (#[.int .i64 1, .int .i64 1, .int .u64 0, .int .u64 10, .int .u64 1, .int .i64 2, .int .i64 1, .int .u64 0, .int .u64 20, .int .u64 2, .int .i64 3, .int .i64 1, .int .u64 0, .int .u64 5, .int .u64 1]) 67, bx (γ3 0) (#[.slice (some ⟨γ7 0, 0, none⟩) 3 3]) 26]) ++ (Y_ ++ (Z_ ++ List.drop 5 ([bx (γ9 0) (#[.slice (some ⟨γ7 0, 0, none⟩) 3 3]) 26, bx (γ8 0) (#[.int .i64 1, .int .u64 3, .bool false, .int .i64 2, .int .u64 1, .bool false, .int .i64 3, .int .u64 2, .bool false]) 51, bx (γ7 1) (#[.slice (some ⟨γ7 0, 0, none⟩) 3 3]) 26, bx (γ7 0) (#[.int .i64 1, .int .i64 1, .int .u64 0, .int .u64 10, .int .u64 1, .int .i64 2, .int .i64 1, .int .u64 0, .int .u64 20, .int .u64 2, .int .i64 3, .int .i64 1, .int .u64 0, .int .u64 5, .int .u64 1]) 67, bx (γ3 0) (#[.slice (some ⟨γ7 0, 0, none⟩) 3 3]) 26]))) ∧ SlO 47 Y_ q_ n_ c_ el_ ∧ GotE 3 Z_ el_ ∧ el_.map EnA.val = [(⟨[3], ⟨0, 5, 1⟩, 2, false⟩ : En), ⟨[2], ⟨0, 20, 2⟩, 1, false⟩, ⟨[1], ⟨0, 10, 1⟩, 3, false⟩] ∧ (∀ x ∈ el_, x.U)) Try.call12 (fun w hw => (ents_t (some ⟨γ7 0, 0, none⟩) 3 3 [(⟨1, 1, 0, 10, 1⟩ : Rn), (⟨2, 1, 0, 20, 2⟩ : Rn), (⟨3, 1, 0, 5, 1⟩ : Rn)] (some ⟨γ8 0, 0, none⟩) 3 3 [(⟨1, 3, false⟩ : Wt), (⟨2, 1, false⟩ : Wt), (⟨3, 2, false⟩ : Wt)] none 0 0 [] w (sv_row (hw.row 3 rfl) rfl) rfl (by decide) lit_U12 (sv_row (hw.row 1 rfl) rfl) rfl (by decide) lit_W12 Sv.nil rfl (by decide) (fun x hx => nomatch hx) (fun x hx => nomatch hx)).mono fun e w' ⟨q_, n_, c_, Y_, Z_, el_, he, hO, hG, hV, hU, hb, hY⟩ => by rw [show chkO [(⟨1, 1, 0, 10, 1⟩ : Rn), (⟨2, 1, 0, 20, 2⟩ : Rn), (⟨3, 1, 0, 5, 1⟩ : Rn)] [(⟨1, 3, false⟩ : Wt), (⟨2, 1, false⟩ : Wt), (⟨3, 2, false⟩ : Wt)] (([] : List IntsA).map IntsA.l) = 0 from by kernel_rfl] at he hV; rw [if_pos rfl, show docV [(⟨1, 1, 0, 10, 1⟩ : Rn), (⟨2, 1, 0, 20, 2⟩ : Rn), (⟨3, 1, 0, 5, 1⟩ : Rn)] [(⟨1, 3, false⟩ : Wt), (⟨2, 1, false⟩ : Wt), (⟨3, 2, false⟩ : Wt)] (([] : List IntsA).map IntsA.l) = [(⟨[3], ⟨0, 5, 1⟩, 2, false⟩ : En), ⟨[2], ⟨0, 20, 2⟩, 1, false⟩, ⟨[1], ⟨0, 10, 1⟩, 3, false⟩] from by kernel_rfl] at hV; exact ⟨_, _, he, ⟨q_, n_, c_, Y_, Z_, el_, rfl, rfl, hO, hG, hV, hU⟩, hs_re (hw.join hb hY 5)⟩) ?_))))))))))))))))))))))))))))))
 rintro v11 L11 ⟨q11, n11, c11, Y11, Yz11, el11, rfl, rfl, hO11, hG11, hV11, hE11⟩
 refine qo0 5 [] [1, 2] [(3, .slice q11 n11 c11), (4, .int .i64 0)] (on_ (ds_ (sq_ (ao_ (mo0 4 [(0, .go (owns 0 0 1))] [3, 4] (fun γ13 => [(18, .agg #[.slice (some ⟨γ7 0, 0, none⟩) 3 3]), (19, .slice (some ⟨γ8 0, 0, none⟩) 3 3), (21, .slice (some ⟨γ13 1, 0, none⟩) 1 1)]) (fun γ13 L => bx (γ13 1) (#[.slice (some ⟨γ13 0, 0, none⟩) 2 2]) 40 :: bx (γ13 0) (#[.int .i64 1, .int .i64 3]) 3 :: L) (fun γ13 => cP (fun v L' => ∃ q_ n_ c_ Y_ Z_ el_, v = .tuple #[.slice q_ n_ c_, .int .i64 0] ∧ L' = List.take 7 (bx (γ13 1) (#[.slice (some ⟨γ13 0, 0, none⟩) 2 2]) 40 :: bx (γ13 0) (#[.int .i64 1, .int .i64 3]) 3 :: bx (γ9 0) (#[.slice (some ⟨γ7 0, 0, none⟩) 3 3]) 26 :: bx (γ8 0) (#[.int .i64 1, .int .u64 3, .bool false, .int .i64 2, .int .u64 1, .bool false, .int .i64 3, .int .u64 2, .bool false]) 51 :: bx (γ7 1) (#[.slice (some ⟨γ7 0, 0, none⟩) 3 3]) 26 :: bx (γ7 0) (#[.int .i64 1, .int .i64 1, .int .u64 0, .int .u64 10, .int .u64 1, .int .i64 2, .int .i64 1, .int .u64 0, .int .u64 20, .int .u64 2, .int .i64 3, .int .i64 1, .int .u64 0, .int .u64 5, .int .u64 1]) 67 :: bx (γ3 0) (#[.slice (some ⟨γ7 0, 0, none⟩) 3 3]) 26 :: (Y11 ++ (Yz11 ++ []))) ++ (Y_ ++ (Z_ ++ List.drop 7 (bx (γ13 1) (#[.slice (some ⟨γ13 0, 0, none⟩) 2 2]) 40 :: bx (γ13 0) (#[.int .i64 1, .int .i64 3]) 3 :: bx (γ9 0) (#[.slice (some ⟨γ7 0, 0, none⟩) 3 3]) 26 :: bx (γ8 0) (#[.int .i64 1, .int .u64 3, .bool false, .int .i64 2, .int .u64 1, .bool false, .int .i64 3, .int .u64 2, .bool false]) 51 :: bx (γ7 1) (#[.slice (some ⟨γ7 0, 0, none⟩) 3 3]) 26 :: bx (γ7 0) (#[.int .i64 1, .int .i64 1, .int .u64 0, .int .u64 10, .int .u64 1, .int .i64 2, .int .i64 1, .int .u64 0, .int .u64 20, .int .u64 2, .int .i64 3, .int .i64 1, .int .u64 0, .int .u64 5, .int .u64 1]) 67 :: bx (γ3 0) (#[.slice (some ⟨γ7 0, 0, none⟩) 3 3]) 26 :: (Y11 ++ (Yz11 ++ []))))) ∧ SlO 47 Y_ q_ n_ c_ el_ ∧ GotE 3 Z_ el_ ∧ el_.map EnA.val = [(⟨[2], ⟨0, 20, 2⟩, 1, false⟩ : En), ⟨[1, 3], ⟨0, 10, 1⟩, 2, false⟩] ∧ (∀ x ∈ el_, x.U)) Try.call12 (fun w hw => (ents_t (some ⟨γ7 0, 0, none⟩) 3 3 [(⟨1, 1, 0, 10, 1⟩ : Rn), (⟨2, 1, 0, 20, 2⟩ : Rn), (⟨3, 1, 0, 5, 1⟩ : Rn)] (some ⟨γ8 0, 0, none⟩) 3 3 [(⟨1, 3, false⟩ : Wt), (⟨2, 1, false⟩ : Wt), (⟨3, 2, false⟩ : Wt)] (some ⟨γ13 1, 0, none⟩) 1 1 [(⟨(some ⟨γ13 0, 0, none⟩), 2, 2, [1, 3]⟩ : IntsA)] w (sv_row (hw.row 5 rfl) rfl) rfl (by decide) lit_U12 (sv_row (hw.row 3 rfl) rfl) rfl (by decide) lit_W12 (sv_row (hw.row 0 rfl) rfl) rfl (by decide) (fun x hx => by rw [List.mem_singleton.1 hx]; exact ⟨(sv_row (hw.row 1 rfl) rfl), rfl, Nat.le_refl 2, (by show (2 : Nat) ≤ 9223372036854775807; decide)⟩) (fun x hx => by rw [List.mem_singleton.1 hx]; show (2 : Nat) ≤ 1000; decide)).mono fun e w' ⟨q_, n_, c_, Y_, Z_, el_, he, hO, hG, hV, hU, hb, hY⟩ => by rw [show chkO [(⟨1, 1, 0, 10, 1⟩ : Rn), (⟨2, 1, 0, 20, 2⟩ : Rn), (⟨3, 1, 0, 5, 1⟩ : Rn)] [(⟨1, 3, false⟩ : Wt), (⟨2, 1, false⟩ : Wt), (⟨3, 2, false⟩ : Wt)] ([(⟨(some ⟨γ13 0, 0, none⟩), 2, 2, [1, 3]⟩ : IntsA)].map IntsA.l) = 0 from by kernel_rfl] at he hV; rw [if_pos rfl, show docV [(⟨1, 1, 0, 10, 1⟩ : Rn), (⟨2, 1, 0, 20, 2⟩ : Rn), (⟨3, 1, 0, 5, 1⟩ : Rn)] [(⟨1, 3, false⟩ : Wt), (⟨2, 1, false⟩ : Wt), (⟨3, 2, false⟩ : Wt)] ([(⟨(some ⟨γ13 0, 0, none⟩), 2, 2, [1, 3]⟩ : IntsA)].map IntsA.l) = [(⟨[2], ⟨0, 20, 2⟩, 1, false⟩ : En), ⟨[1, 3], ⟨0, 10, 1⟩, 2, false⟩] from by kernel_rfl] at hV; exact ⟨_, _, he, ⟨q_, n_, c_, Y_, Z_, el_, rfl, rfl, hO, hG, hV, hU⟩, hs_re (hw.join hb hY 7)⟩) ?_))))))
 rintro v14 L14 ⟨q14, n14, c14, Y14, Yz14, el14, rfl, rfl, hO14, hG14, hV14, hE14⟩
 refine qo0 5 [] [3, 4] [(5, .slice q14 n14 c14), (6, .int .i64 0)] (on_ (ds_ (sq_ (at_rebase fun wR16 hS16 => ?_))))
 obtain ⟨a1, a2, a3, ha1, ha2, ha3, va1, va2, va3, hl1⟩ := three_at hV11
 obtain ⟨b1, b2, hb1, hb2, vb1, vb2, hl2⟩ := two_at hV14
 have hs11 := hO11.sub hS16 (List.Sublist.cons _ (List.Sublist.cons _ (List.Sublist.cons _ (List.Sublist.cons _ (List.Sublist.cons _ (List.Sublist.cons _ (List.Sublist.cons _ (List.Sublist.trans (List.Sublist.trans (List.sublist_append_left Y11 _) (List.sublist_append_right Yz14 _)) (List.sublist_append_right Y14 _)))))))))
 have hnn11 := hO11.len
 have hrd11 := GotE.reads hG11 hE11 hS16 (List.Sublist.cons _ (List.Sublist.cons _ (List.Sublist.cons _ (List.Sublist.cons _ (List.Sublist.cons _ (List.Sublist.cons _ (List.Sublist.cons _ (List.Sublist.trans (List.Sublist.trans (List.Sublist.trans (List.sublist_append_left Yz11 _) (List.sublist_append_right Y11 _)) (List.sublist_append_right Yz14 _)) (List.sublist_append_right Y14 _)))))))))
 have hs14 := hO14.sub hS16 (List.Sublist.cons _ (List.Sublist.cons _ (List.Sublist.cons _ (List.Sublist.cons _ (List.Sublist.cons _ (List.Sublist.cons _ (List.Sublist.cons _ (List.sublist_append_left Y14 _))))))))
 have hnn14 := hO14.len
 have hrd14 := GotE.reads hG14 hE14 hS16 (List.Sublist.cons _ (List.Sublist.cons _ (List.Sublist.cons _ (List.Sublist.cons _ (List.Sublist.cons _ (List.Sublist.cons _ (List.Sublist.cons _ (List.Sublist.trans (List.sublist_append_left Yz14 _) (List.sublist_append_right Y14 _)))))))))
 have hra1 := hrd11 a1 (List.mem_of_getElem? ha1)
 have hsa1 := hra1.sv
 have hna1 := hra1.hn
 have hra2 := hrd11 a2 (List.mem_of_getElem? ha2)
 have hsa2 := hra2.sv
 have hna2 := hra2.hn
 have hrb2 := hrd14 b2 (List.mem_of_getElem? hb2)
 have hsb2 := hrb2.sv
 have hnb2 := hrb2.hn
 have la1 : a1.l[0]? = some 3 := by rw [show a1.l = [3] from congrArg En.mem va1]; rfl
 have la2 : a2.l[0]? = some 2 := by rw [show a2.l = [2] from congrArg En.mem va2]; rfl
 have lb2 : b2.n = 2 := by rw [hnb2, show b2.l = [1, 3] from congrArg En.mem vb2]; rfl
 have ka1 : a1.l.length = 1 := by rw [show a1.l = [3] from congrArg En.mem va1]; rfl
 have ka2 : a2.l.length = 1 := by rw [show a2.l = [2] from congrArg En.mem va2]; rfl
 obtain ⟨b18, o18, rfl⟩ := hs11.pos (i := 0) (by omega)
 obtain ⟨b20, o20, hbo20⟩ := hsa1.pos (i := 0) (by omega)
 have hsv20 := hsa1
 rw [hbo20] at hsv20
 obtain ⟨b22, o22, hbo22⟩ := hsa2.pos (i := 0) (by omega)
 have hsv22 := hsa2
 rw [hbo22] at hsv22
 obtain ⟨b24, o24, rfl⟩ := hs14.pos (i := 1) (by omega)
 refine qa [(9, .yes), (14, .yes), (18, .at b18 o18 0), (20, .go (outs b18 (o18 + 0 * 6) [.slice a1.p a1.n a1.cap])), (21, .at b20 o20 0), (22, .go (outs b20 (o20 + 0 * 1) [.int .i64 3])), (27, .at b18 o18 1), (29, .go (outs b18 (o18 + 1 * 6) [.slice a2.p a2.n a2.cap])), (30, .at b22 o22 0), (31, .go (outs b22 (o22 + 0 * 1) [.int .i64 2])), (36, .at b24 o24 1), (38, .go (outs b24 (o24 + 1 * 6) [.slice b2.p b2.n b2.cap])), (40, .yes)] [] [(0, .bool true)] ([((n11 : Nat) : Int) = (3 : Int)] ++ ([((n14 : Nat) : Int) = (2 : Int)] ++ ([(some ⟨b18, o18, none⟩ : Option Addr) = some ⟨b18, o18, none⟩, 0 = ((0 : Nat) : Int), 0 < n11] ++ (cellsP wR16 b18 (o18 + 0 * 6) [.slice a1.p a1.n a1.cap] ++ ([(a1.p : Option Addr) = some ⟨b20, o20, none⟩, 0 = ((0 : Nat) : Int), 0 < a1.n] ++ (cellsP wR16 b20 (o20 + 0 * 1) [.int .i64 3] ++ ([(some ⟨b18, o18, none⟩ : Option Addr) = some ⟨b18, o18, none⟩, 1 = ((1 : Nat) : Int), 1 < n11] ++ (cellsP wR16 b18 (o18 + 1 * 6) [.slice a2.p a2.n a2.cap] ++ ([(a2.p : Option Addr) = some ⟨b22, o22, none⟩, 0 = ((0 : Nat) : Int), 0 < a2.n] ++ (cellsP wR16 b22 (o22 + 0 * 1) [.int .i64 2] ++ ([(some ⟨b24, o24, none⟩ : Option Addr) = some ⟨b24, o24, none⟩, 1 = ((1 : Nat) : Int), 1 < n14] ++ (cellsP wR16 b24 (o24 + 1 * 6) [.slice b2.p b2.n b2.cap] ++ ([((b2.n : Nat) : Int) = (2 : Int)]))))))))))))) (alA (al1 (by omega)) (alA (al1 (by omega)) (alA (al2 rfl (al2 rfl (al1 (by omega)))) (alA (rd_pre (hs11.get ha1) _ rfl) (alA (al2 hbo20 (al2 rfl (al1 (by omega)))) (alA (rd_pre (hsv20.get la1) _ rfl) (alA (al2 rfl (al2 rfl (al1 (by omega)))) (alA (rd_pre (hs11.get ha2) _ rfl) (alA (al2 hbo22 (al2 rfl (al1 (by omega)))) (alA (rd_pre (hsv22.get la2) _ rfl) (alA (al2 rfl (al2 rfl (al1 (by omega)))) (alA (rd_pre (hs14.get hb2) _ rfl) (al1 (by omega)))))))))))))) (ds_ (rt ([]) (.bool true) ?_))
 exact fun w' hw => ⟨rfl, (hS16.over hw).below⟩
end Go.Proofs.Ytoljahfofkmdaaa

/-! The statement OrderOne, walked. -/
namespace Go.Proofs.Ytoljahfofkmdaaa
open Go Go.RowKit

end Go.Proofs.Ytoljahfofkmdaaa

/-! The statement OrderEach, walked. -/
namespace Go.Proofs.Ytoljahfofkmdaaa
open Go Go.RowKit
theorem hs_re4 {w0 w : World} {A B C D X R : List Ob} (h : Hs w0 (X ++ ((A ++ (B ++ (C ++ D))) ++ R)) w) : Hs w0 (X ++ (A ++ (B ++ (C ++ (D ++ R))))) w := by simpa only [List.append_assoc] using h

end Go.Proofs.Ytoljahfofkmdaaa
