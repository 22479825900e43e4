/- Texts of this proof, one behind the other. -/
import Derived.Test.YtoljahfofkmdaaaZb
import Derived.Test.YtoljahfofkmdaaaZa
import Derived.Laws.OwnMore
/-! Order: what of a row is put in order. -/
namespace Go.Proofs.Ytoljahfofkmdaaa
open Go Go.RowKit

set_option maxRecDepth 100000 in
theorem rcopy_t (p : Option Addr) (n cap : Nat) (ts : List Rn) (w : World)
 (hts : Sv w p ts) (hn : n = ts.length) (hb : n ≤ 1000)
 : Calls Try.prog 32 #[.agg #[.slice p n cap]] w fun e w' => ∃ q' n' c' Y, e = .returned (.agg #[.slice q' n' c']) ∧ SlO 67 Y q' n' c' ts ∧ Below w.heap.size w w' ∧ Hs w Y w' := by
 refine enter (Hs.start w) Try.func32 rfl Try.ntmps32 rfl (sq_ (ma0 [] [] (fun γ1 => [(1, .pointer (some ⟨γ1 0, 0, none⟩)), (2, .pointer (some ⟨γ1 1, 0, none⟩))]) (fun γ1 L => bx (γ1 1) (#[.slice none 0 0]) 26 :: bx (γ1 0) (#[.slice p n cap]) 26 :: L) (fun γ1 => ds_ (sq_ (ao_ (mo0 3 [(2, .go (owns 2 0 1))] [2] (fun γ2 => [(3, .slice (some ⟨γ2 0, 0, none⟩) 0 0), (5, .slice p n cap)]) (fun γ2 L => bx (γ2 0) (#[]) 67 :: L) (fun γ2 => ops_append (α := Rn) [bx (γ1 1) (#[.slice none 0 0]) 26, bx (γ1 0) (#[.slice p n cap]) 26] ([bx (γ2 0) (#[]) 67]) ([]) (mvE rfl) rfl (by kernel_rfl) (by kernel_rfl) (p := (some ⟨γ2 0, 0, none⟩)) (n := 0) (cap := 0) (m := n) (yv := .slice p n cap) (by kernel_rfl) (by kernel_rfl) (T := 67) (by_ := 40) (by kernel_rfl) ([]) ts (SlO.lit (by rfl) (by rfl) (by simp [maxLen])) (fun w hw => src_svn Try.underlying24 (hts.kept hw.below) hn) hn (by have hmx : maxLen = 9223372036854775807 := rfl; omega) (by have hmx : maxLen = 9223372036854775807 := rfl; omega) (fun Y3 p3 cap3 hO3 => mo0 2 [(5, .go (owns 0 0 1))] [2] (fun _ => []) (fun _ L => (L.set 0 (bx (γ1 1) (#[.slice p3 (0 + n) cap3]) 26))) (fun _ => on_ (ds_ (rt (owns 0 0 1) (.agg #[.slice p3 (0 + n) cap3]) ?_)))))))))))
 exact fun w' hw => ⟨_, _, _, _, rfl, SlO.asE hO3 (by rw [List.nil_append]), hw.below, one_tail (Hs.pick [[bx (γ1 1) (#[.slice p3 (0 + n) cap3]) 26], [bx (γ1 0) (#[.slice p n cap]) 26], Y3] [2] [0, 1] (by kernel_rfl) hw)⟩
theorem four_tails {w0 w : World} {A B C D : List Ob} (h : Hs w0 (A ++ (B ++ (C ++ (D ++ [])))) w) : Hs w0 (A ++ (B ++ (C ++ D))) w := by rwa [List.append_nil] at h

set_option maxRecDepth 100000 in
theorem rowshort_t (p : Option Addr) (n cap : Nat) (ts : List Rn) (pw : Option Addr) (nw capw : Nat) (ws : List Wt) (q : Option Addr) (m capq : Nat) (al : List IntsA) (w : World)
 (hts : Sv w p ts) (hn : n = ts.length) (hcp : n ≤ cap) (hbg : cap ≤ 9223372036854775807)
 (hws : Sv w pw ws) (hnw : nw = ws.length) (hcw : nw ≤ capw) (hbw : capw ≤ 9223372036854775807)
 (hal : Sv w q al) (hma : m = al.length) (hcq : m ≤ capq) (hbq : capq ≤ 9223372036854775807) (hnm : ∀ x ∈ al, x.Reads w)
 : Calls Try.prog 10 #[.agg #[.slice p n cap, .slice pw nw capw, .slice q m capq]] w fun e w' => ∃ q1 n1 c1 Y1 q2 n2 c2 Y2 q3 n3 c3 Y3 bl Yi, e = .returned (.agg #[.slice q1 n1 c1, .slice q2 n2 c2, .slice q3 n3 c3]) ∧ SlO 67 Y1 q1 n1 c1 (ts.take 17) ∧ SlO 51 Y2 q2 n2 c2 (ws.take 17) ∧ SlO 40 Y3 q3 n3 c3 bl ∧ GotR 3 Yi bl ∧ bl.map IntsA.l = shortG (al.map IntsA.l) ∧ Below w.heap.size w w' ∧ Hs w (Y1 ++ (Y2 ++ (Y3 ++ Yi))) w' := by
 refine enter (Hs.start w) Try.func10 rfl Try.ntmps10 rfl (sq_ (ma0 [] [] (fun γ1 => [(1, .pointer (some ⟨γ1 0, 0, none⟩)), (2, .pointer (some ⟨γ1 1, 0, none⟩))]) (fun γ1 L => bx (γ1 1) (#[.slice none 0 0, .slice none 0 0, .slice none 0 0]) 30 :: bx (γ1 0) (#[.slice p n cap, .slice pw nw capw, .slice q m capq]) 30 :: L) (fun γ1 => ds_ (sq_ (qa0 [] [1, 2] [(3, .slice none 0 0)] (ds_ (sq_ (sq_ (qa0 [(1, .go (owns 1 2 1))] [1, 2, 3] [(8, .slice q m capq), (9, .int .i64 (m : Nat)), (10, .int .i64 0)] (ds_ (at_block (at_loop (α := Nat × List Ob × Option Addr × Nat × Nat × List IntsA × List Ob) [1, 2, 3, 8, 9, 10] (fun ⟨j, Yo, po, nu, co, bl, Yi⟩ => [(1, .pointer (some ⟨γ1 0, 0, none⟩)), (2, .pointer (some ⟨γ1 1, 0, none⟩)), (3, .slice po nu co), (8, .slice q m capq), (9, .int .i64 (m : Nat)), (10, .int .i64 (j : Nat))]) (fun ⟨j, Yo, po, nu, co, bl, Yi⟩ => bx (γ1 1) (#[.slice none 0 0, .slice none 0 0, .slice none 0 0]) 30 :: bx (γ1 0) (#[.slice p n cap, .slice pw nw capw, .slice q m capq]) 30 :: (Yo ++ (Yi ++ []))) (fun ⟨j, Yo, po, nu, co, bl, Yi⟩ => j ≤ m ∧ nu ≤ j ∧ SlO 40 Yo po nu co bl ∧ GotR 3 Yi bl ∧ bl.map IntsA.l = shortG ((al.take j).map IntsA.l)) (fun ⟨j, Yo, po, nu, co, bl, Yi⟩ => m - j) (0, [], none, 0, 0, [], []) (by kernel_rfl) rfl ⟨Nat.zero_le _, Nat.le_refl _, SlO.nil, GotR.nil, rfl⟩ ?_))))))))))))
 rintro ⟨j, Yo, po, nu, co, bl, Yi⟩
 rintro ⟨hj, hnu, hO, hG, hB⟩
 have hlb := hO.len
 refine sq_ ?_
 by_cases q5 : ((j : Nat) : Int) < ((m : Nat) : Int)
 ·
  refine qa [(0, .yes)] [1, 2, 3, 8, 9, 10] [(11, .bool true)] ([((j : Nat) : Int) < ((m : Nat) : Int)]) (al1 q5) (ds_ (sq_ (t_ (at_skip (ds_ (sq_ (at_block (sq_ ?_))))))))
  obtain ⟨b8, o8, rfl⟩ := hal.pos (i := j) (by omega)
  obtain ⟨x10, hx10⟩ := get_some (l := al) (m := j) (by omega)
  obtain ⟨hsx10, hnx10, hcx10, hbx10⟩ := hnm x10 (List.mem_of_getElem? hx10)
  refine qa [(1, .at b8 o8 j), (2, .go (outs b8 (o8 + j * 1) [.slice x10.p x10.n x10.cap]))] [1, 2, 3, 8, 9, 10] [(4, .int .i64 (j : Nat)), (5, .slice x10.p x10.n x10.cap)] ([(some ⟨b8, o8, none⟩ : Option Addr) = some ⟨b8, o8, none⟩, (j : Nat) = ((j : Nat) : Int), j < m] ++ (cellsP w b8 (o8 + j * 1) [.slice x10.p x10.n x10.cap])) (alA (al2 rfl (al2 rfl (al1 (by omega)))) (rd_pre (hal.get hx10) _ rfl)) (ds_ (sq_ ?_))
  by_cases q13 : ((j : Nat) : Int) < (17 : Int)
  ·
   refine qa [(1, .yes)] [1, 2, 3, 5, 8, 9, 10] [(16, .bool true)] ([((j : Nat) : Int) < (17 : Int)]) (al1 q13) (ds_ (t_ (ao_ (qo0 2 [] [1, 2, 8, 9, 10] [(17, .slice po nu co), (18, .slice x10.p x10.n x10.cap)] (cP (fun v L' => ∃ q_ n_ c_ Y_, v = .slice q_ n_ c_ ∧ L' = List.take 2 (bx (γ1 1) (#[.slice none 0 0, .slice none 0 0, .slice none 0 0]) 30 :: bx (γ1 0) (#[.slice p n cap, .slice pw nw capw, .slice (some ⟨b8, o8, none⟩) m capq]) 30 :: (Yo ++ (Yi ++ []))) ++ (Y_ ++ List.drop 2 (bx (γ1 1) (#[.slice none 0 0, .slice none 0 0, .slice none 0 0]) 30 :: bx (γ1 0) (#[.slice p n cap, .slice pw nw capw, .slice (some ⟨b8, o8, none⟩) m capq]) 30 :: (Yo ++ (Yi ++ [])))) ∧ SlO 3 Y_ q_ n_ c_ (x10.l.take 17)) Try.call31 (fun w hw => (ints_t x10.p x10.n x10.cap x10.l w (hsx10.kept hw.below) hnx10 (by omega) (by omega)).mono fun e w' ⟨q_, n_, c_, Y_, he, hO, hb, hY⟩ => ⟨_, _, he, ⟨q_, n_, c_, Y_, rfl, rfl, hO⟩, hw.join hb hY 2⟩) ?_)))))
   rintro v16 L16 ⟨q16, n16, c16, Y16, rfl, rfl, hO16⟩
   refine mo0 1 [] [1, 2, 8, 9, 10, 17] (fun γ17 => [(20, .slice (some ⟨γ17 0, 0, none⟩) 1 1)]) (fun γ17 L => bx (γ17 0) (#[.slice q16 n16 c16]) 40 :: L) (fun γ17 => Ops.pick [[bx (γ17 0) (#[.slice q16 n16 c16]) 40], [bx (γ1 1) (#[.slice none 0 0, .slice none 0 0, .slice none 0 0]) 30], [bx (γ1 0) (#[.slice p n cap, .slice pw nw capw, .slice (some ⟨b8, o8, none⟩) m capq]) 30], Y16, Yo, Yi] [0, 1, 2, 4, 3, 5] [] (bx (γ17 0) (#[.slice q16 n16 c16]) 40 :: bx (γ1 1) (#[.slice none 0 0, .slice none 0 0, .slice none 0 0]) 30 :: bx (γ1 0) (#[.slice p n cap, .slice pw nw capw, .slice (some ⟨b8, o8, none⟩) m capq]) 30 :: (Yo ++ (Y16 ++ (Yi ++ [])))) (by kernel_rfl) rfl rfl (ops_append (α := IntsA) [bx (γ17 0) (#[.slice q16 n16 c16]) 40, bx (γ1 1) (#[.slice none 0 0, .slice none 0 0, .slice none 0 0]) 30, bx (γ1 0) (#[.slice p n cap, .slice pw nw capw, .slice (some ⟨b8, o8, none⟩) m capq]) 30] Yo (Y16 ++ (Yi ++ [])) (.refl _) rfl (by kernel_rfl) (by kernel_rfl) (p := po) (n := nu) (cap := co) (m := 1) (yv := .slice (some ⟨γ17 0, 0, none⟩) 1 1) (by kernel_rfl) (by kernel_rfl) (T := 40) (by_ := 24) (by kernel_rfl) bl ([(⟨q16, n16, c16, (x10.l.take 17)⟩ : IntsA)]) hO (fun w hw => src_svn Try.underlying28 (sv_row (hw.row 0 rfl) (by rfl)) (by rfl)) (by rfl) (by have hmx : maxLen = 9223372036854775807 := rfl; omega) (by have hmx : maxLen = 9223372036854775807 := rfl; omega) (fun Y18 p18 cap18 hO18 => qo0 1 [] [1, 2, 8, 9, 10] [(3, .slice p18 (nu + 1) cap18)] (on_ (done_block (ds_ (qa [(0, .fit)] [1, 2, 3, 8, 9] [(10, .int .i64 (j + 1 : Nat))] ([Fit .i64 ((j + 1 : Nat))]) (al1 (fit64 (by omega) (by omega))) (Done.pick [[bx (γ17 0) (#[.slice q16 n16 c16]) 40], [bx (γ1 1) (#[.slice none 0 0, .slice none 0 0, .slice none 0 0]) 30], [bx (γ1 0) (#[.slice p n cap, .slice pw nw capw, .slice (some ⟨b8, o8, none⟩) m capq]) 30], Y18, Y16, Yi] [1, 2, 3, 5, 4] [0] (bx (γ1 1) (#[.slice none 0 0, .slice none 0 0, .slice none 0 0]) 30 :: bx (γ1 0) (#[.slice p n cap, .slice pw nw capw, .slice (some ⟨b8, o8, none⟩) m capq]) 30 :: (Y18 ++ (Yi ++ (Y16 ++ [])))) (by kernel_rfl) rfl rfl (Done.as (L' := bx (γ1 1) (#[.slice none 0 0, .slice none 0 0, .slice none 0 0]) 30 :: bx (γ1 0) (#[.slice p n cap, .slice pw nw capw, .slice (some ⟨b8, o8, none⟩) m capq]) 30 :: (Y18 ++ ((Yi ++ Y16) ++ []))) (by simp only [List.append_assoc]) ?_)))))))))
   exact dr [1, 2, 3, 8, 9, 10] (j + 1, Y18, p18, (nu + 1), cap18, (bl ++ [(⟨q16, n16, c16, (x10.l.take 17)⟩ : IntsA)]), Yi ++ Y16) ⟨by omega, by omega, hO18, GotR.snoc (x := (⟨q16, n16, c16, (x10.l.take 17)⟩ : IntsA)) hG hO16, sg_on hB hx10 (by omega) rfl⟩
  ·
   refine qa [(1, .no)] [1, 2, 3, 5, 8, 9, 10] [(16, .bool false)] ([¬ (((j : Nat) : Int) < (17 : Int))]) (al1 q13) (ds_ (f_ (at_skip (done_block (ds_ (qa [(0, .fit)] [1, 2, 3, 8, 9] [(10, .int .i64 (j + 1 : Nat))] ([Fit .i64 ((j + 1 : Nat))]) (al1 (fit64 (by omega) (by omega))) ?_))))))
   exact dr [1, 2, 3, 8, 9, 10] (j + 1, Yo, po, nu, co, bl, Yi) ⟨by omega, by omega, hO, hG, sg_out hB (by omega)⟩
 ·
  refine qa [(0, .no)] [1, 2, 3, 8, 9, 10] [(11, .bool false)] ([¬ (((j : Nat) : Int) < ((m : Nat) : Int))]) (al1 q5) (ds_ (sq_ (f_ (at_leave _ rfl (ds_ (sq_ (ao_ (qo 10 [(2, .go (owns 1 0 1)), (5, .go (owns 1 0 1)), (8, .sl (.slice p (min n 17) cap))] [1, 2, 3] [(32, .agg #[.slice p (min n 17) cap])] ([SlRun Try.prog 24 (.slice p n cap) none (some (.int .i64 (if (17 : Int) < ((n : Nat) : Int) then 17 else (n : Nat)))) none (.slice p (min n 17) cap)]) (al1 (by rw [min_if17]; exact slE_hi (P := Try.prog) (h := (min n 17)) (T := 24) (e := 67) (k := 5) (by_ := 40) (by kernel_rfl) (by omega))) (cP (fun v L' => ∃ q_ n_ c_ Y_, v = .agg #[.slice q_ n_ c_] ∧ L' = List.take 2 (bx (γ1 1) (#[.slice none 0 0, .slice none 0 0, .slice none 0 0]) 30 :: bx (γ1 0) (#[.slice p n cap, .slice pw nw capw, .slice q m capq]) 30 :: (Yo ++ (Yi ++ []))) ++ (Y_ ++ List.drop 2 (bx (γ1 1) (#[.slice none 0 0, .slice none 0 0, .slice none 0 0]) 30 :: bx (γ1 0) (#[.slice p n cap, .slice pw nw capw, .slice q m capq]) 30 :: (Yo ++ (Yi ++ [])))) ∧ SlO 67 Y_ q_ n_ c_ (ts.take (min n 17))) Try.call32 (fun w hw => (rcopy_t p (min n 17) cap (ts.take (min n 17)) w ((hts.kept hw.below).take (min n 17)) (by rw [List.length_take]; omega) (by omega)).mono fun e w' ⟨q_, n_, c_, Y_, he, hO, hb, hY⟩ => ⟨_, _, he, ⟨q_, n_, c_, Y_, rfl, rfl, hO⟩, hw.join hb hY 2⟩) ?_)))))))))
  rintro v25 L25 ⟨q25, n25, c25, Y25, rfl, rfl, hO25⟩
  refine mo0 2 [(12, .go (owns 0 0 1))] [1, 2, 3] (fun γ26 => [(6, .pointer (some ⟨γ26 0, 0, none⟩))]) (fun γ26 L => bx (γ26 0) (#[.slice q25 n25 c25]) 26 :: L) (fun γ26 => on_ (ds_ (sq_ ?_)))
  refine at_any (by kernel_rfl) ?_
  refine tk (m := 10) [2, 4, 10] [] [2, 6] [(36, .pointer (some ⟨γ1 0, 1, none⟩)), (38, .pointer (some ⟨γ1 0, 1, none⟩)), (44, .slice po nu co)] ([]) #[false, false, true, false, true, false, false, false, false, false, true, false, false] al0 ?_
  refine any_cutX (V := (List Ob) × (Nat) × (Option Addr) × (Nat → Nat)) (fun ⟨Y210, cap210, p210, γ50⟩ => SlO 51 Y210 p210 (0 + (min nw 17)) cap210 ([] ++ (ws.take (min nw 17)))) 0 #[true, true, true, true, true, true, true, true, true, true, true, true, true] (fun ⟨Y210, cap210, p210, γ50⟩ => [(2, .pointer (some ⟨γ1 1, 0, none⟩))]) (fun ⟨Y210, cap210, p210, γ50⟩ => bx (γ26 0) (#[.slice q25 n25 c25]) 26 :: bx (γ1 1) (#[.slice q25 n25 c25, .slice p210 (0 + (min nw 17)) cap210, .slice po nu co]) 30 :: bx (γ1 0) (#[.slice p n cap, .slice pw nw capw, .slice q m capq]) 30 :: (Y210 ++ (Y25 ++ (Yo ++ (Yi ++ []))))) ?_ (fun hmx22 => ?_)
  rotate_left
  ·
   refine any_cutX (V := (List Ob) × (Nat) × (Option Addr) × (Nat → Nat)) (fun ⟨Y210, cap210, p210, γ50⟩ => SlO 51 Y210 p210 (0 + (min nw 17)) cap210 ([] ++ (ws.take (min nw 17)))) 1 #[true, true, true, true, true, true, true, true, true, true, true, true, false] (fun ⟨Y210, cap210, p210, γ50⟩ => [(2, .pointer (some ⟨γ1 1, 0, none⟩)), (45, .agg #[.slice q25 n25 c25, .slice p210 (0 + (min nw 17)) cap210, .slice po nu co])]) (fun ⟨Y210, cap210, p210, γ50⟩ => bx (γ26 0) (#[.slice q25 n25 c25]) 26 :: bx (γ1 1) (#[.slice none 0 0, .slice none 0 0, .slice none 0 0]) 30 :: bx (γ1 0) (#[.slice p n cap, .slice pw nw capw, .slice q m capq]) 30 :: (Y210 ++ (Y25 ++ (Yo ++ (Yi ++ []))))) ?_ (fun hmx21 => ?_)
   ·
    rintro ⟨Y210, cap210, p210, γ50⟩ hO210
    refine a1 12 rfl ?_
    refine mo0 1 [(12, .go (owns 1 0 3))] [2] (fun _ => []) (fun _ L => (L.set 1 (bx (γ1 1) (#[.slice q25 n25 c25, .slice p210 (0 + (min nw 17)) cap210, .slice po nu co]) 30))) (fun _ => ?_)
    refine od_ ?_
    exact wk (hmx22 (Y210, cap210, p210, γ50) hO210) [2] [[_], [_], [_], _, _, _, _] [0, 1, 2, 3, 4, 5, 6] rfl rfl
   refine any_cutX (V := (List Ob) × (Nat) × (Option Addr) × (Nat → Nat)) (fun ⟨Y210, cap210, p210, γ50⟩ => SlO 51 Y210 p210 (0 + (min nw 17)) cap210 ([] ++ (ws.take (min nw 17)))) 3 #[false, true, true, true, true, true, true, true, true, true, true, false, false] (fun ⟨Y210, cap210, p210, γ50⟩ => [(2, .pointer (some ⟨γ1 1, 0, none⟩)), (6, .pointer (some ⟨γ26 0, 0, none⟩)), (43, .slice p210 (0 + (min nw 17)) cap210), (44, .slice po nu co)]) (fun ⟨Y210, cap210, p210, γ50⟩ => bx (γ26 0) (#[.slice q25 n25 c25]) 26 :: bx (γ1 1) (#[.slice none 0 0, .slice none 0 0, .slice none 0 0]) 30 :: bx (γ1 0) (#[.slice p n cap, .slice pw nw capw, .slice q m capq]) 30 :: (Y210 ++ (Y25 ++ (Yo ++ (Yi ++ []))))) ?_ (fun hmx20 => ?_)
   ·
    rintro ⟨Y210, cap210, p210, γ50⟩ hO210
    refine a1 0 rfl ?_
    refine qo0 1 [(0, .go (owns 0 0 1))] [2, 43, 44] [(34, .agg #[.slice q25 n25 c25])] ?_
    refine od_ ?_
    refine tk (m := 1) [11] [] [2] [(45, .agg #[.slice q25 n25 c25, .slice p210 (0 + (min nw 17)) cap210, .slice po nu co])] ([]) #[true, true, true, true, true, true, true, true, true, true, true, true, false] al0 ?_
    exact wk (hmx21 (Y210, cap210, p210, γ50) hO210) [2, 45] [[_], [_], [_], _, _, _, _] [0, 1, 2, 3, 4, 5, 6] rfl rfl
   refine any_cutX (V := (Nat → Nat)) (fun γ50 => True) 3 #[true, true, true, true, true, true, true, true, true, false, true, false, false] (fun γ50 => [(2, .pointer (some ⟨γ1 1, 0, none⟩)), (34, .agg #[.slice q25 n25 c25]), (35, .slice (some ⟨γ50 0, 0, none⟩) 0 0), (42, .slice pw (min nw 17) capw), (44, .slice po nu co)]) (fun γ50 => bx (γ50 0) (#[]) 51 :: bx (γ26 0) (#[.slice q25 n25 c25]) 26 :: bx (γ1 1) (#[.slice none 0 0, .slice none 0 0, .slice none 0 0]) 30 :: bx (γ1 0) (#[.slice p n cap, .slice pw nw capw, .slice q m capq]) 30 :: (Y25 ++ (Yo ++ (Yi ++ [])))) ?_ (fun hmx19 => ?_)
   ·
    rintro γ50 _
    refine a1 9 rfl ?_
    refine ops_append (α := Wt) [bx (γ26 0) (#[.slice q25 n25 c25]) 26, bx (γ1 1) (#[.slice none 0 0, .slice none 0 0, .slice none 0 0]) 30, bx (γ1 0) (#[.slice p n cap, .slice pw nw capw, .slice q m capq]) 30] ([bx (γ50 0) (#[]) 51]) (Y25 ++ (Yo ++ (Yi ++ []))) (mvE rfl) rfl (by kernel_rfl) (by kernel_rfl) (p := (some ⟨γ50 0, 0, none⟩)) (n := 0) (cap := 0) (m := (min nw 17)) (yv := .slice pw (min nw 17) capw) (by kernel_rfl) (by kernel_rfl) (T := 51) (by_ := 24) (by kernel_rfl) ([]) (ws.take (min nw 17)) (SlO.lit (by rfl) (by rfl) (by simp [maxLen])) (fun w hw => src_svn Try.underlying27 ((hws.kept hw.below).take (min nw 17)) (by rw [List.length_take]; omega)) (by rw [List.length_take]; omega) (by have hmx : maxLen = 9223372036854775807 := rfl; omega) (by have hmx : maxLen = 9223372036854775807 := rfl; omega) (fun Y210 p210 cap210 hO210 => ?_)
    refine od_ ?_
    refine tk (m := 1) [11] [] [2] [(45, .agg #[.slice q25 n25 c25, .slice p210 (0 + (min nw 17)) cap210, .slice po nu co])] ([]) #[true, true, true, true, true, true, true, true, true, true, true, true, false] al0 ?_
    exact wk (hmx21 (Y210, cap210, p210, γ50) hO210) [2, 45] [[_], [_], [_], _, _, _, _] [0, 1, 2, 3, 4, 5, 6] rfl rfl
   refine any_cutX (V := (Nat → Nat)) (fun γ50 => True) 4 #[false, true, true, true, true, true, true, true, true, false, true, false, false] (fun γ50 => [(2, .pointer (some ⟨γ1 1, 0, none⟩)), (6, .pointer (some ⟨γ26 0, 0, none⟩)), (35, .slice (some ⟨γ50 0, 0, none⟩) 0 0), (42, .slice pw (min nw 17) capw), (44, .slice po nu co)]) (fun γ50 => bx (γ50 0) (#[]) 51 :: bx (γ26 0) (#[.slice q25 n25 c25]) 26 :: bx (γ1 1) (#[.slice none 0 0, .slice none 0 0, .slice none 0 0]) 30 :: bx (γ1 0) (#[.slice p n cap, .slice pw nw capw, .slice q m capq]) 30 :: (Y25 ++ (Yo ++ (Yi ++ [])))) ?_ (fun hmx18 => ?_)
   ·
    rintro γ50 _
    refine any_fork [0, 9] (by kernel_rfl) (by simp) (each_cons _ rfl ?_ (each_cons _ rfl ?_ (each_nil)))
    ·
     refine qo0 1 [(0, .go (owns 1 0 1))] [2, 35, 42, 44] [(34, .agg #[.slice q25 n25 c25])] ?_
     refine od_ ?_
     exact wk (hmx19 γ50 trivial) [2, 34, 35, 42, 44] [[_], [_], [_], [_], _, _, _] [0, 1, 2, 3, 4, 5, 6] rfl rfl
    ·
     refine ops_append (α := Wt) [bx (γ26 0) (#[.slice q25 n25 c25]) 26, bx (γ1 1) (#[.slice none 0 0, .slice none 0 0, .slice none 0 0]) 30, bx (γ1 0) (#[.slice p n cap, .slice pw nw capw, .slice q m capq]) 30] ([bx (γ50 0) (#[]) 51]) (Y25 ++ (Yo ++ (Yi ++ []))) (mvE rfl) rfl (by kernel_rfl) (by kernel_rfl) (p := (some ⟨γ50 0, 0, none⟩)) (n := 0) (cap := 0) (m := (min nw 17)) (yv := .slice pw (min nw 17) capw) (by kernel_rfl) (by kernel_rfl) (T := 51) (by_ := 24) (by kernel_rfl) ([]) (ws.take (min nw 17)) (SlO.lit (by rfl) (by rfl) (by simp [maxLen])) (fun w hw => src_svn Try.underlying27 ((hws.kept hw.below).take (min nw 17)) (by rw [List.length_take]; omega)) (by rw [List.length_take]; omega) (by have hmx : maxLen = 9223372036854775807 := rfl; omega) (by have hmx : maxLen = 9223372036854775807 := rfl; omega) (fun Y210 p210 cap210 hO210 => ?_)
     refine od_ ?_
     exact wk (hmx20 (Y210, cap210, p210, γ50) hO210) [2, 6, 43, 44] [[_], [_], [_], _, _, _, _] [0, 1, 2, 3, 4, 5, 6] rfl rfl
   refine any_cutX (V := Unit) (fun _ => True) 4 #[true, false, true, true, true, true, true, true, true, false, true, false, false] (fun _ => [(2, .pointer (some ⟨γ1 1, 0, none⟩)), (34, .agg #[.slice q25 n25 c25]), (42, .slice pw (min nw 17) capw), (44, .slice po nu co)]) (fun _ => bx (γ26 0) (#[.slice q25 n25 c25]) 26 :: bx (γ1 1) (#[.slice none 0 0, .slice none 0 0, .slice none 0 0]) 30 :: bx (γ1 0) (#[.slice p n cap, .slice pw nw capw, .slice q m capq]) 30 :: (Y25 ++ (Yo ++ (Yi ++ [])))) ?_ (fun hmx17 => ?_)
   ·
    rintro _ _
    refine a1 1 rfl ?_
    refine mo0 1 [] [2, 34, 42, 44] (fun γ50 => [(35, .slice (some ⟨γ50 0, 0, none⟩) 0 0)]) (fun γ50 L => bx (γ50 0) (#[]) 51 :: L) (fun γ50 => ?_)
    refine od_ ?_
    exact wk (hmx19 γ50 trivial) [2, 34, 35, 42, 44] [[_], [_], [_], [_], _, _, _] [0, 1, 2, 3, 4, 5, 6] rfl rfl
   refine any_cutX (V := (Nat → Nat)) (fun γ50 => True) 4 #[true, true, true, true, true, true, true, true, false, false, true, false, false] (fun γ50 => [(2, .pointer (some ⟨γ1 1, 0, none⟩)), (34, .agg #[.slice q25 n25 c25]), (35, .slice (some ⟨γ50 0, 0, none⟩) 0 0), (37, .slice pw nw capw), (41, .int .i64 (if (17 : Int) < ((nw : Nat) : Int) then 17 else (nw : Nat))), (44, .slice po nu co)]) (fun γ50 => bx (γ50 0) (#[]) 51 :: bx (γ26 0) (#[.slice q25 n25 c25]) 26 :: bx (γ1 1) (#[.slice none 0 0, .slice none 0 0, .slice none 0 0]) 30 :: bx (γ1 0) (#[.slice p n cap, .slice pw nw capw, .slice q m capq]) 30 :: (Y25 ++ (Yo ++ (Yi ++ [])))) ?_ (fun hmx16 => ?_)
   ·
    rintro γ50 _
    refine a1 8 rfl ?_
    refine qo 1 [(8, .sl (.slice pw (min nw 17) capw))] [2, 34, 35, 44] [(42, .slice pw (min nw 17) capw)] ([SlRun Try.prog 27 (.slice pw nw capw) none (some (.int .i64 (if (17 : Int) < ((nw : Nat) : Int) then 17 else (nw : Nat)))) none (.slice pw (min nw 17) capw)]) (al1 (by rw [min_if17]; exact slE_hi (P := Try.prog) (h := (min nw 17)) (T := 27) (e := 51) (k := 3) (by_ := 24) (by kernel_rfl) (by omega))) ?_
    refine od_ ?_
    exact wk (hmx19 γ50 trivial) [2, 34, 35, 42, 44] [[_], [_], [_], [_], _, _, _] [0, 1, 2, 3, 4, 5, 6] rfl rfl
   refine any_cutX (V := Unit) (fun _ => True) 5 #[false, false, true, true, true, true, true, true, true, false, true, false, false] (fun _ => [(2, .pointer (some ⟨γ1 1, 0, none⟩)), (6, .pointer (some ⟨γ26 0, 0, none⟩)), (42, .slice pw (min nw 17) capw), (44, .slice po nu co)]) (fun _ => bx (γ26 0) (#[.slice q25 n25 c25]) 26 :: bx (γ1 1) (#[.slice none 0 0, .slice none 0 0, .slice none 0 0]) 30 :: bx (γ1 0) (#[.slice p n cap, .slice pw nw capw, .slice q m capq]) 30 :: (Y25 ++ (Yo ++ (Yi ++ [])))) ?_ (fun hmx15 => ?_)
   ·
    rintro _ _
    refine any_fork [0, 1] (by kernel_rfl) (by simp) (each_cons _ rfl ?_ (each_cons _ rfl ?_ (each_nil)))
    ·
     refine qo0 1 [(0, .go (owns 0 0 1))] [2, 42, 44] [(34, .agg #[.slice q25 n25 c25])] ?_
     refine od_ ?_
     exact wk (hmx17 () trivial) [2, 34, 42, 44] [[_], [_], [_], _, _, _] [0, 1, 2, 3, 4, 5] rfl rfl
    ·
     refine mo0 1 [] [2, 6, 42, 44] (fun γ50 => [(35, .slice (some ⟨γ50 0, 0, none⟩) 0 0)]) (fun γ50 L => bx (γ50 0) (#[]) 51 :: L) (fun γ50 => ?_)
     refine od_ ?_
     exact wk (hmx18 γ50 trivial) [2, 6, 35, 42, 44] [[_], [_], [_], [_], _, _, _] [0, 1, 2, 3, 4, 5, 6] rfl rfl
   refine any_cutX (V := (Nat → Nat)) (fun γ50 => True) 5 #[false, true, true, true, true, true, true, true, false, false, true, false, false] (fun γ50 => [(2, .pointer (some ⟨γ1 1, 0, none⟩)), (6, .pointer (some ⟨γ26 0, 0, none⟩)), (35, .slice (some ⟨γ50 0, 0, none⟩) 0 0), (37, .slice pw nw capw), (41, .int .i64 (if (17 : Int) < ((nw : Nat) : Int) then 17 else (nw : Nat))), (44, .slice po nu co)]) (fun γ50 => bx (γ50 0) (#[]) 51 :: bx (γ26 0) (#[.slice q25 n25 c25]) 26 :: bx (γ1 1) (#[.slice none 0 0, .slice none 0 0, .slice none 0 0]) 30 :: bx (γ1 0) (#[.slice p n cap, .slice pw nw capw, .slice q m capq]) 30 :: (Y25 ++ (Yo ++ (Yi ++ [])))) ?_ (fun hmx14 => ?_)
   ·
    rintro γ50 _
    refine any_fork [0, 8] (by kernel_rfl) (by simp) (each_cons _ rfl ?_ (each_cons _ rfl ?_ (each_nil)))
    ·
     refine qo0 1 [(0, .go (owns 1 0 1))] [2, 35, 37, 41, 44] [(34, .agg #[.slice q25 n25 c25])] ?_
     refine od_ ?_
     exact wk (hmx16 γ50 trivial) [2, 34, 35, 37, 41, 44] [[_], [_], [_], [_], _, _, _] [0, 1, 2, 3, 4, 5, 6] rfl rfl
    ·
     refine qo 1 [(8, .sl (.slice pw (min nw 17) capw))] [2, 6, 35, 44] [(42, .slice pw (min nw 17) capw)] ([SlRun Try.prog 27 (.slice pw nw capw) none (some (.int .i64 (if (17 : Int) < ((nw : Nat) : Int) then 17 else (nw : Nat)))) none (.slice pw (min nw 17) capw)]) (al1 (by rw [min_if17]; exact slE_hi (P := Try.prog) (h := (min nw 17)) (T := 27) (e := 51) (k := 3) (by_ := 24) (by kernel_rfl) (by omega))) ?_
     refine od_ ?_
     exact wk (hmx18 γ50 trivial) [2, 6, 35, 42, 44] [[_], [_], [_], [_], _, _, _] [0, 1, 2, 3, 4, 5, 6] rfl rfl
   refine any_cutX (V := Unit) (fun _ => True) 5 #[true, false, true, true, true, true, true, true, false, false, true, false, false] (fun _ => [(2, .pointer (some ⟨γ1 1, 0, none⟩)), (34, .agg #[.slice q25 n25 c25]), (37, .slice pw nw capw), (41, .int .i64 (if (17 : Int) < ((nw : Nat) : Int) then 17 else (nw : Nat))), (44, .slice po nu co)]) (fun _ => bx (γ26 0) (#[.slice q25 n25 c25]) 26 :: bx (γ1 1) (#[.slice none 0 0, .slice none 0 0, .slice none 0 0]) 30 :: bx (γ1 0) (#[.slice p n cap, .slice pw nw capw, .slice q m capq]) 30 :: (Y25 ++ (Yo ++ (Yi ++ [])))) ?_ (fun hmx13 => ?_)
   ·
    rintro _ _
    refine any_fork [1, 8] (by kernel_rfl) (by simp) (each_cons _ rfl ?_ (each_cons _ rfl ?_ (each_nil)))
    ·
     refine mo0 1 [] [2, 34, 37, 41, 44] (fun γ50 => [(35, .slice (some ⟨γ50 0, 0, none⟩) 0 0)]) (fun γ50 L => bx (γ50 0) (#[]) 51 :: L) (fun γ50 => ?_)
     refine od_ ?_
     exact wk (hmx16 γ50 trivial) [2, 34, 35, 37, 41, 44] [[_], [_], [_], [_], _, _, _] [0, 1, 2, 3, 4, 5, 6] rfl rfl
    ·
     refine qo 1 [(8, .sl (.slice pw (min nw 17) capw))] [2, 34, 44] [(42, .slice pw (min nw 17) capw)] ([SlRun Try.prog 27 (.slice pw nw capw) none (some (.int .i64 (if (17 : Int) < ((nw : Nat) : Int) then 17 else (nw : Nat)))) none (.slice pw (min nw 17) capw)]) (al1 (by rw [min_if17]; exact slE_hi (P := Try.prog) (h := (min nw 17)) (T := 27) (e := 51) (k := 3) (by_ := 24) (by kernel_rfl) (by omega))) ?_
     refine od_ ?_
     exact wk (hmx17 () trivial) [2, 34, 42, 44] [[_], [_], [_], _, _, _] [0, 1, 2, 3, 4, 5] rfl rfl
   refine any_cutX (V := (Nat → Nat)) (fun γ50 => True) 5 #[true, true, true, false, true, true, true, true, false, false, true, false, false] (fun γ50 => [(2, .pointer (some ⟨γ1 1, 0, none⟩)), (34, .agg #[.slice q25 n25 c25]), (35, .slice (some ⟨γ50 0, 0, none⟩) 0 0), (36, .pointer (some ⟨γ1 0, 1, none⟩)), (41, .int .i64 (if (17 : Int) < ((nw : Nat) : Int) then 17 else (nw : Nat))), (44, .slice po nu co)]) (fun γ50 => bx (γ50 0) (#[]) 51 :: bx (γ26 0) (#[.slice q25 n25 c25]) 26 :: bx (γ1 1) (#[.slice none 0 0, .slice none 0 0, .slice none 0 0]) 30 :: bx (γ1 0) (#[.slice p n cap, .slice pw nw capw, .slice q m capq]) 30 :: (Y25 ++ (Yo ++ (Yi ++ [])))) ?_ (fun hmx12 => ?_)
   ·
    rintro γ50 _
    refine a1 3 rfl ?_
    refine qo0 1 [(3, .go (owns 3 1 1))] [2, 34, 35, 41, 44] [(37, .slice pw nw capw)] ?_
    refine od_ ?_
    exact wk (hmx16 γ50 trivial) [2, 34, 35, 37, 41, 44] [[_], [_], [_], [_], _, _, _] [0, 1, 2, 3, 4, 5, 6] rfl rfl
   refine any_cutX (V := Unit) (fun _ => True) 6 #[false, false, true, true, true, true, true, true, false, false, true, false, false] (fun _ => [(2, .pointer (some ⟨γ1 1, 0, none⟩)), (6, .pointer (some ⟨γ26 0, 0, none⟩)), (37, .slice pw nw capw), (41, .int .i64 (if (17 : Int) < ((nw : Nat) : Int) then 17 else (nw : Nat))), (44, .slice po nu co)]) (fun _ => bx (γ26 0) (#[.slice q25 n25 c25]) 26 :: bx (γ1 1) (#[.slice none 0 0, .slice none 0 0, .slice none 0 0]) 30 :: bx (γ1 0) (#[.slice p n cap, .slice pw nw capw, .slice q m capq]) 30 :: (Y25 ++ (Yo ++ (Yi ++ [])))) ?_ (fun hmx11 => ?_)
   ·
    rintro _ _
    refine any_fork [0, 1, 8] (by kernel_rfl) (by simp) (each_cons _ rfl ?_ (each_cons _ rfl ?_ (each_cons _ rfl ?_ (each_nil))))
    ·
     refine qo0 1 [(0, .go (owns 0 0 1))] [2, 37, 41, 44] [(34, .agg #[.slice q25 n25 c25])] ?_
     refine od_ ?_
     exact wk (hmx13 () trivial) [2, 34, 37, 41, 44] [[_], [_], [_], _, _, _] [0, 1, 2, 3, 4, 5] rfl rfl
    ·
     refine mo0 1 [] [2, 6, 37, 41, 44] (fun γ50 => [(35, .slice (some ⟨γ50 0, 0, none⟩) 0 0)]) (fun γ50 L => bx (γ50 0) (#[]) 51 :: L) (fun γ50 => ?_)
     refine od_ ?_
     exact wk (hmx14 γ50 trivial) [2, 6, 35, 37, 41, 44] [[_], [_], [_], [_], _, _, _] [0, 1, 2, 3, 4, 5, 6] rfl rfl
    ·
     refine qo 1 [(8, .sl (.slice pw (min nw 17) capw))] [2, 6, 44] [(42, .slice pw (min nw 17) capw)] ([SlRun Try.prog 27 (.slice pw nw capw) none (some (.int .i64 (if (17 : Int) < ((nw : Nat) : Int) then 17 else (nw : Nat)))) none (.slice pw (min nw 17) capw)]) (al1 (by rw [min_if17]; exact slE_hi (P := Try.prog) (h := (min nw 17)) (T := 27) (e := 51) (k := 3) (by_ := 24) (by kernel_rfl) (by omega))) ?_
     refine od_ ?_
     exact wk (hmx15 () trivial) [2, 6, 42, 44] [[_], [_], [_], _, _, _] [0, 1, 2, 3, 4, 5] rfl rfl
   refine any_cutX (V := (Nat → Nat)) (fun γ50 => True) 6 #[false, true, true, false, true, true, true, true, false, false, true, false, false] (fun γ50 => [(2, .pointer (some ⟨γ1 1, 0, none⟩)), (6, .pointer (some ⟨γ26 0, 0, none⟩)), (35, .slice (some ⟨γ50 0, 0, none⟩) 0 0), (36, .pointer (some ⟨γ1 0, 1, none⟩)), (41, .int .i64 (if (17 : Int) < ((nw : Nat) : Int) then 17 else (nw : Nat))), (44, .slice po nu co)]) (fun γ50 => bx (γ50 0) (#[]) 51 :: bx (γ26 0) (#[.slice q25 n25 c25]) 26 :: bx (γ1 1) (#[.slice none 0 0, .slice none 0 0, .slice none 0 0]) 30 :: bx (γ1 0) (#[.slice p n cap, .slice pw nw capw, .slice q m capq]) 30 :: (Y25 ++ (Yo ++ (Yi ++ [])))) ?_ (fun hmx10 => ?_)
   ·
    rintro γ50 _
    refine any_fork [0, 3] (by kernel_rfl) (by simp) (each_cons _ rfl ?_ (each_cons _ rfl ?_ (each_nil)))
    ·
     refine qo0 1 [(0, .go (owns 1 0 1))] [2, 35, 36, 41, 44] [(34, .agg #[.slice q25 n25 c25])] ?_
     refine od_ ?_
     exact wk (hmx12 γ50 trivial) [2, 34, 35, 36, 41, 44] [[_], [_], [_], [_], _, _, _] [0, 1, 2, 3, 4, 5, 6] rfl rfl
    ·
     refine qo0 1 [(3, .go (owns 3 1 1))] [2, 6, 35, 41, 44] [(37, .slice pw nw capw)] ?_
     refine od_ ?_
     exact wk (hmx14 γ50 trivial) [2, 6, 35, 37, 41, 44] [[_], [_], [_], [_], _, _, _] [0, 1, 2, 3, 4, 5, 6] rfl rfl
   refine any_cutX (V := Unit) (fun _ => True) 6 #[true, false, true, false, true, true, true, true, false, false, true, false, false] (fun _ => [(2, .pointer (some ⟨γ1 1, 0, none⟩)), (34, .agg #[.slice q25 n25 c25]), (36, .pointer (some ⟨γ1 0, 1, none⟩)), (41, .int .i64 (if (17 : Int) < ((nw : Nat) : Int) then 17 else (nw : Nat))), (44, .slice po nu co)]) (fun _ => bx (γ26 0) (#[.slice q25 n25 c25]) 26 :: bx (γ1 1) (#[.slice none 0 0, .slice none 0 0, .slice none 0 0]) 30 :: bx (γ1 0) (#[.slice p n cap, .slice pw nw capw, .slice q m capq]) 30 :: (Y25 ++ (Yo ++ (Yi ++ [])))) ?_ (fun hmx9 => ?_)
   ·
    rintro _ _
    refine any_fork [1, 3] (by kernel_rfl) (by simp) (each_cons _ rfl ?_ (each_cons _ rfl ?_ (each_nil)))
    ·
     refine mo0 1 [] [2, 34, 36, 41, 44] (fun γ50 => [(35, .slice (some ⟨γ50 0, 0, none⟩) 0 0)]) (fun γ50 L => bx (γ50 0) (#[]) 51 :: L) (fun γ50 => ?_)
     refine od_ ?_
     exact wk (hmx12 γ50 trivial) [2, 34, 35, 36, 41, 44] [[_], [_], [_], [_], _, _, _] [0, 1, 2, 3, 4, 5, 6] rfl rfl
    ·
     refine qo0 1 [(3, .go (owns 2 1 1))] [2, 34, 41, 44] [(37, .slice pw nw capw)] ?_
     refine od_ ?_
     exact wk (hmx13 () trivial) [2, 34, 37, 41, 44] [[_], [_], [_], _, _, _] [0, 1, 2, 3, 4, 5] rfl rfl
   refine any_cutX (V := (Nat → Nat)) (fun γ50 => True) 7 #[true, true, true, true, true, false, false, false, false, false, true, false, false] (fun γ50 => [(2, .pointer (some ⟨γ1 1, 0, none⟩)), (34, .agg #[.slice q25 n25 c25]), (35, .slice (some ⟨γ50 0, 0, none⟩) 0 0), (37, .slice pw nw capw), (38, .pointer (some ⟨γ1 0, 1, none⟩)), (44, .slice po nu co)]) (fun γ50 => bx (γ50 0) (#[]) 51 :: bx (γ26 0) (#[.slice q25 n25 c25]) 26 :: bx (γ1 1) (#[.slice none 0 0, .slice none 0 0, .slice none 0 0]) 30 :: bx (γ1 0) (#[.slice p n cap, .slice pw nw capw, .slice q m capq]) 30 :: (Y25 ++ (Yo ++ (Yi ++ [])))) ?_ (fun hmx8 => ?_)
   ·
    rintro γ50 _
    refine a1 5 rfl ?_
    refine qo0 1 [(5, .go (owns 3 1 1))] [2, 34, 35, 37, 44] [(39, .slice pw nw capw)] ?_
    refine od_ ?_
    refine tk (m := 4) [6, 7] [] [2, 34, 35, 37, 44] [(41, .int .i64 (if (17 : Int) < ((nw : Nat) : Int) then 17 else (nw : Nat)))] ([]) #[true, true, true, true, true, true, true, true, false, false, true, false, false] al0 ?_
    exact wk (hmx16 γ50 trivial) [2, 34, 35, 37, 41, 44] [[_], [_], [_], [_], _, _, _] [0, 1, 2, 3, 4, 5, 6] rfl rfl
   refine any_cutX (V := Unit) (fun _ => True) 7 #[false, false, true, false, true, true, true, true, false, false, true, false, false] (fun _ => [(2, .pointer (some ⟨γ1 1, 0, none⟩)), (6, .pointer (some ⟨γ26 0, 0, none⟩)), (36, .pointer (some ⟨γ1 0, 1, none⟩)), (41, .int .i64 (if (17 : Int) < ((nw : Nat) : Int) then 17 else (nw : Nat))), (44, .slice po nu co)]) (fun _ => bx (γ26 0) (#[.slice q25 n25 c25]) 26 :: bx (γ1 1) (#[.slice none 0 0, .slice none 0 0, .slice none 0 0]) 30 :: bx (γ1 0) (#[.slice p n cap, .slice pw nw capw, .slice q m capq]) 30 :: (Y25 ++ (Yo ++ (Yi ++ [])))) ?_ (fun hmx7 => ?_)
   ·
    rintro _ _
    refine any_fork [0, 1, 3] (by kernel_rfl) (by simp) (each_cons _ rfl ?_ (each_cons _ rfl ?_ (each_cons _ rfl ?_ (each_nil))))
    ·
     refine qo0 1 [(0, .go (owns 0 0 1))] [2, 36, 41, 44] [(34, .agg #[.slice q25 n25 c25])] ?_
     refine od_ ?_
     exact wk (hmx9 () trivial) [2, 34, 36, 41, 44] [[_], [_], [_], _, _, _] [0, 1, 2, 3, 4, 5] rfl rfl
    ·
     refine mo0 1 [] [2, 6, 36, 41, 44] (fun γ50 => [(35, .slice (some ⟨γ50 0, 0, none⟩) 0 0)]) (fun γ50 L => bx (γ50 0) (#[]) 51 :: L) (fun γ50 => ?_)
     refine od_ ?_
     exact wk (hmx10 γ50 trivial) [2, 6, 35, 36, 41, 44] [[_], [_], [_], [_], _, _, _] [0, 1, 2, 3, 4, 5, 6] rfl rfl
    ·
     refine qo0 1 [(3, .go (owns 2 1 1))] [2, 6, 41, 44] [(37, .slice pw nw capw)] ?_
     refine od_ ?_
     exact wk (hmx11 () trivial) [2, 6, 37, 41, 44] [[_], [_], [_], _, _, _] [0, 1, 2, 3, 4, 5] rfl rfl
   refine any_cutX (V := (Nat → Nat)) (fun γ50 => True) 8 #[false, true, true, true, true, false, false, false, false, false, true, false, false] (fun γ50 => [(2, .pointer (some ⟨γ1 1, 0, none⟩)), (6, .pointer (some ⟨γ26 0, 0, none⟩)), (35, .slice (some ⟨γ50 0, 0, none⟩) 0 0), (37, .slice pw nw capw), (38, .pointer (some ⟨γ1 0, 1, none⟩)), (44, .slice po nu co)]) (fun γ50 => bx (γ50 0) (#[]) 51 :: bx (γ26 0) (#[.slice q25 n25 c25]) 26 :: bx (γ1 1) (#[.slice none 0 0, .slice none 0 0, .slice none 0 0]) 30 :: bx (γ1 0) (#[.slice p n cap, .slice pw nw capw, .slice q m capq]) 30 :: (Y25 ++ (Yo ++ (Yi ++ [])))) ?_ (fun hmx6 => ?_)
   ·
    rintro γ50 _
    refine any_fork [0, 5] (by kernel_rfl) (by simp) (each_cons _ rfl ?_ (each_cons _ rfl ?_ (each_nil)))
    ·
     refine qo0 1 [(0, .go (owns 1 0 1))] [2, 35, 37, 38, 44] [(34, .agg #[.slice q25 n25 c25])] ?_
     refine od_ ?_
     exact wk (hmx8 γ50 trivial) [2, 34, 35, 37, 38, 44] [[_], [_], [_], [_], _, _, _] [0, 1, 2, 3, 4, 5, 6] rfl rfl
    ·
     refine qo0 1 [(5, .go (owns 3 1 1))] [2, 6, 35, 37, 44] [(39, .slice pw nw capw)] ?_
     refine od_ ?_
     refine tk (m := 5) [6, 7] [] [2, 6, 35, 37, 44] [(41, .int .i64 (if (17 : Int) < ((nw : Nat) : Int) then 17 else (nw : Nat)))] ([]) #[false, true, true, true, true, true, true, true, false, false, true, false, false] al0 ?_
     exact wk (hmx14 γ50 trivial) [2, 6, 35, 37, 41, 44] [[_], [_], [_], [_], _, _, _] [0, 1, 2, 3, 4, 5, 6] rfl rfl
   refine any_cutX (V := Unit) (fun _ => True) 8 #[true, false, true, true, true, false, false, false, false, false, true, false, false] (fun _ => [(2, .pointer (some ⟨γ1 1, 0, none⟩)), (34, .agg #[.slice q25 n25 c25]), (37, .slice pw nw capw), (38, .pointer (some ⟨γ1 0, 1, none⟩)), (44, .slice po nu co)]) (fun _ => bx (γ26 0) (#[.slice q25 n25 c25]) 26 :: bx (γ1 1) (#[.slice none 0 0, .slice none 0 0, .slice none 0 0]) 30 :: bx (γ1 0) (#[.slice p n cap, .slice pw nw capw, .slice q m capq]) 30 :: (Y25 ++ (Yo ++ (Yi ++ [])))) ?_ (fun hmx5 => ?_)
   ·
    rintro _ _
    refine any_fork [1, 5] (by kernel_rfl) (by simp) (each_cons _ rfl ?_ (each_cons _ rfl ?_ (each_nil)))
    ·
     refine mo0 1 [] [2, 34, 37, 38, 44] (fun γ50 => [(35, .slice (some ⟨γ50 0, 0, none⟩) 0 0)]) (fun γ50 L => bx (γ50 0) (#[]) 51 :: L) (fun γ50 => ?_)
     refine od_ ?_
     exact wk (hmx8 γ50 trivial) [2, 34, 35, 37, 38, 44] [[_], [_], [_], [_], _, _, _] [0, 1, 2, 3, 4, 5, 6] rfl rfl
    ·
     refine qo0 1 [(5, .go (owns 2 1 1))] [2, 34, 37, 44] [(39, .slice pw nw capw)] ?_
     refine od_ ?_
     refine tk (m := 5) [6, 7] [] [2, 34, 37, 44] [(41, .int .i64 (if (17 : Int) < ((nw : Nat) : Int) then 17 else (nw : Nat)))] ([]) #[true, false, true, true, true, true, true, true, false, false, true, false, false] al0 ?_
     exact wk (hmx13 () trivial) [2, 34, 37, 41, 44] [[_], [_], [_], _, _, _] [0, 1, 2, 3, 4, 5] rfl rfl
   refine any_cutX (V := (Nat → Nat)) (fun γ50 => True) 8 #[true, true, true, false, true, false, false, false, false, false, true, false, false] (fun γ50 => [(2, .pointer (some ⟨γ1 1, 0, none⟩)), (34, .agg #[.slice q25 n25 c25]), (35, .slice (some ⟨γ50 0, 0, none⟩) 0 0), (36, .pointer (some ⟨γ1 0, 1, none⟩)), (38, .pointer (some ⟨γ1 0, 1, none⟩)), (44, .slice po nu co)]) (fun γ50 => bx (γ50 0) (#[]) 51 :: bx (γ26 0) (#[.slice q25 n25 c25]) 26 :: bx (γ1 1) (#[.slice none 0 0, .slice none 0 0, .slice none 0 0]) 30 :: bx (γ1 0) (#[.slice p n cap, .slice pw nw capw, .slice q m capq]) 30 :: (Y25 ++ (Yo ++ (Yi ++ [])))) ?_ (fun hmx4 => ?_)
   ·
    rintro γ50 _
    refine any_fork [3, 5] (by kernel_rfl) (by simp) (each_cons _ rfl ?_ (each_cons _ rfl ?_ (each_nil)))
    ·
     refine qo0 1 [(3, .go (owns 3 1 1))] [2, 34, 35, 38, 44] [(37, .slice pw nw capw)] ?_
     refine od_ ?_
     exact wk (hmx8 γ50 trivial) [2, 34, 35, 37, 38, 44] [[_], [_], [_], [_], _, _, _] [0, 1, 2, 3, 4, 5, 6] rfl rfl
    ·
     refine qo0 1 [(5, .go (owns 3 1 1))] [2, 34, 35, 36, 44] [(39, .slice pw nw capw)] ?_
     refine od_ ?_
     refine tk (m := 5) [6, 7] [] [2, 34, 35, 36, 44] [(41, .int .i64 (if (17 : Int) < ((nw : Nat) : Int) then 17 else (nw : Nat)))] ([]) #[true, true, true, false, true, true, true, true, false, false, true, false, false] al0 ?_
     exact wk (hmx12 γ50 trivial) [2, 34, 35, 36, 41, 44] [[_], [_], [_], [_], _, _, _] [0, 1, 2, 3, 4, 5, 6] rfl rfl
   refine any_cutX (V := Unit) (fun _ => True) 9 #[false, false, true, true, true, false, false, false, false, false, true, false, false] (fun _ => [(2, .pointer (some ⟨γ1 1, 0, none⟩)), (6, .pointer (some ⟨γ26 0, 0, none⟩)), (37, .slice pw nw capw), (38, .pointer (some ⟨γ1 0, 1, none⟩)), (44, .slice po nu co)]) (fun _ => bx (γ26 0) (#[.slice q25 n25 c25]) 26 :: bx (γ1 1) (#[.slice none 0 0, .slice none 0 0, .slice none 0 0]) 30 :: bx (γ1 0) (#[.slice p n cap, .slice pw nw capw, .slice q m capq]) 30 :: (Y25 ++ (Yo ++ (Yi ++ [])))) ?_ (fun hmx3 => ?_)
   ·
    rintro _ _
    refine any_fork [0, 1, 5] (by kernel_rfl) (by simp) (each_cons _ rfl ?_ (each_cons _ rfl ?_ (each_cons _ rfl ?_ (each_nil))))
    ·
     refine qo0 1 [(0, .go (owns 0 0 1))] [2, 37, 38, 44] [(34, .agg #[.slice q25 n25 c25])] ?_
     refine od_ ?_
     exact wk (hmx5 () trivial) [2, 34, 37, 38, 44] [[_], [_], [_], _, _, _] [0, 1, 2, 3, 4, 5] rfl rfl
    ·
     refine mo0 1 [] [2, 6, 37, 38, 44] (fun γ50 => [(35, .slice (some ⟨γ50 0, 0, none⟩) 0 0)]) (fun γ50 L => bx (γ50 0) (#[]) 51 :: L) (fun γ50 => ?_)
     refine od_ ?_
     exact wk (hmx6 γ50 trivial) [2, 6, 35, 37, 38, 44] [[_], [_], [_], [_], _, _, _] [0, 1, 2, 3, 4, 5, 6] rfl rfl
    ·
     refine qo0 1 [(5, .go (owns 2 1 1))] [2, 6, 37, 44] [(39, .slice pw nw capw)] ?_
     refine od_ ?_
     refine tk (m := 6) [6, 7] [] [2, 6, 37, 44] [(41, .int .i64 (if (17 : Int) < ((nw : Nat) : Int) then 17 else (nw : Nat)))] ([]) #[false, false, true, true, true, true, true, true, false, false, true, false, false] al0 ?_
     exact wk (hmx11 () trivial) [2, 6, 37, 41, 44] [[_], [_], [_], _, _, _] [0, 1, 2, 3, 4, 5] rfl rfl
   refine any_cutX (V := (Nat → Nat)) (fun γ50 => True) 9 #[false, true, true, false, true, false, false, false, false, false, true, false, false] (fun γ50 => [(2, .pointer (some ⟨γ1 1, 0, none⟩)), (6, .pointer (some ⟨γ26 0, 0, none⟩)), (35, .slice (some ⟨γ50 0, 0, none⟩) 0 0), (36, .pointer (some ⟨γ1 0, 1, none⟩)), (38, .pointer (some ⟨γ1 0, 1, none⟩)), (44, .slice po nu co)]) (fun γ50 => bx (γ50 0) (#[]) 51 :: bx (γ26 0) (#[.slice q25 n25 c25]) 26 :: bx (γ1 1) (#[.slice none 0 0, .slice none 0 0, .slice none 0 0]) 30 :: bx (γ1 0) (#[.slice p n cap, .slice pw nw capw, .slice q m capq]) 30 :: (Y25 ++ (Yo ++ (Yi ++ [])))) ?_ (fun hmx2 => ?_)
   ·
    rintro γ50 _
    refine any_fork [0, 3, 5] (by kernel_rfl) (by simp) (each_cons _ rfl ?_ (each_cons _ rfl ?_ (each_cons _ rfl ?_ (each_nil))))
    ·
     refine qo0 1 [(0, .go (owns 1 0 1))] [2, 35, 36, 38, 44] [(34, .agg #[.slice q25 n25 c25])] ?_
     refine od_ ?_
     exact wk (hmx4 γ50 trivial) [2, 34, 35, 36, 38, 44] [[_], [_], [_], [_], _, _, _] [0, 1, 2, 3, 4, 5, 6] rfl rfl
    ·
     refine qo0 1 [(3, .go (owns 3 1 1))] [2, 6, 35, 38, 44] [(37, .slice pw nw capw)] ?_
     refine od_ ?_
     exact wk (hmx6 γ50 trivial) [2, 6, 35, 37, 38, 44] [[_], [_], [_], [_], _, _, _] [0, 1, 2, 3, 4, 5, 6] rfl rfl
    ·
     refine qo0 1 [(5, .go (owns 3 1 1))] [2, 6, 35, 36, 44] [(39, .slice pw nw capw)] ?_
     refine od_ ?_
     refine tk (m := 6) [6, 7] [] [2, 6, 35, 36, 44] [(41, .int .i64 (if (17 : Int) < ((nw : Nat) : Int) then 17 else (nw : Nat)))] ([]) #[false, true, true, false, true, true, true, true, false, false, true, false, false] al0 ?_
     exact wk (hmx10 γ50 trivial) [2, 6, 35, 36, 41, 44] [[_], [_], [_], [_], _, _, _] [0, 1, 2, 3, 4, 5, 6] rfl rfl
   refine any_cutX (V := Unit) (fun _ => True) 9 #[true, false, true, false, true, false, false, false, false, false, true, false, false] (fun _ => [(2, .pointer (some ⟨γ1 1, 0, none⟩)), (34, .agg #[.slice q25 n25 c25]), (36, .pointer (some ⟨γ1 0, 1, none⟩)), (38, .pointer (some ⟨γ1 0, 1, none⟩)), (44, .slice po nu co)]) (fun _ => bx (γ26 0) (#[.slice q25 n25 c25]) 26 :: bx (γ1 1) (#[.slice none 0 0, .slice none 0 0, .slice none 0 0]) 30 :: bx (γ1 0) (#[.slice p n cap, .slice pw nw capw, .slice q m capq]) 30 :: (Y25 ++ (Yo ++ (Yi ++ [])))) ?_ (fun hmx1 => ?_)
   ·
    rintro _ _
    refine any_fork [1, 3, 5] (by kernel_rfl) (by simp) (each_cons _ rfl ?_ (each_cons _ rfl ?_ (each_cons _ rfl ?_ (each_nil))))
    ·
     refine mo0 1 [] [2, 34, 36, 38, 44] (fun γ50 => [(35, .slice (some ⟨γ50 0, 0, none⟩) 0 0)]) (fun γ50 L => bx (γ50 0) (#[]) 51 :: L) (fun γ50 => ?_)
     refine od_ ?_
     exact wk (hmx4 γ50 trivial) [2, 34, 35, 36, 38, 44] [[_], [_], [_], [_], _, _, _] [0, 1, 2, 3, 4, 5, 6] rfl rfl
    ·
     refine qo0 1 [(3, .go (owns 2 1 1))] [2, 34, 38, 44] [(37, .slice pw nw capw)] ?_
     refine od_ ?_
     exact wk (hmx5 () trivial) [2, 34, 37, 38, 44] [[_], [_], [_], _, _, _] [0, 1, 2, 3, 4, 5] rfl rfl
    ·
     refine qo0 1 [(5, .go (owns 2 1 1))] [2, 34, 36, 44] [(39, .slice pw nw capw)] ?_
     refine od_ ?_
     refine tk (m := 6) [6, 7] [] [2, 34, 36, 44] [(41, .int .i64 (if (17 : Int) < ((nw : Nat) : Int) then 17 else (nw : Nat)))] ([]) #[true, false, true, false, true, true, true, true, false, false, true, false, false] al0 ?_
     exact wk (hmx9 () trivial) [2, 34, 36, 41, 44] [[_], [_], [_], _, _, _] [0, 1, 2, 3, 4, 5] rfl rfl
   refine any_fork [0, 1, 3, 5] (by kernel_rfl) (by simp) (each_cons _ rfl ?_ (each_cons _ rfl ?_ (each_cons _ rfl ?_ (each_cons _ rfl ?_ (each_nil)))))
   ·
    refine qo0 1 [(0, .go (owns 0 0 1))] [2, 36, 38, 44] [(34, .agg #[.slice q25 n25 c25])] ?_
    refine od_ ?_
    exact wk (hmx1 () trivial) [2, 34, 36, 38, 44] [[_], [_], [_], _, _, _] [0, 1, 2, 3, 4, 5] rfl rfl
   ·
    refine mo0 1 [] [2, 6, 36, 38, 44] (fun γ50 => [(35, .slice (some ⟨γ50 0, 0, none⟩) 0 0)]) (fun γ50 L => bx (γ50 0) (#[]) 51 :: L) (fun γ50 => ?_)
    refine od_ ?_
    exact wk (hmx2 γ50 trivial) [2, 6, 35, 36, 38, 44] [[_], [_], [_], [_], _, _, _] [0, 1, 2, 3, 4, 5, 6] rfl rfl
   ·
    refine qo0 1 [(3, .go (owns 2 1 1))] [2, 6, 38, 44] [(37, .slice pw nw capw)] ?_
    refine od_ ?_
    exact wk (hmx3 () trivial) [2, 6, 37, 38, 44] [[_], [_], [_], _, _, _] [0, 1, 2, 3, 4, 5] rfl rfl
   ·
    refine qo0 1 [(5, .go (owns 2 1 1))] [2, 6, 36, 44] [(39, .slice pw nw capw)] ?_
    refine od_ ?_
    refine tk (m := 7) [6, 7] [] [2, 6, 36, 44] [(41, .int .i64 (if (17 : Int) < ((nw : Nat) : Int) then 17 else (nw : Nat)))] ([]) #[false, false, true, false, true, true, true, true, false, false, true, false, false] al0 ?_
    exact wk (hmx7 () trivial) [2, 6, 36, 41, 44] [[_], [_], [_], _, _, _] [0, 1, 2, 3, 4, 5] rfl rfl
  rintro ⟨Y210, cap210, p210, γ50⟩ hO210
  refine any_nil (by kernel_rfl) ?_
  refine ds_ (rt (owns 1 0 3) (.agg #[.slice q25 n25 c25, .slice p210 (0 + (min nw 17)) cap210, .slice po nu co]) ?_)
  rw [sg_all (by omega)] at hB
  exact fun w' hw => ⟨_, _, _, _, _, _, _, _, _, _, _, _, _, _, rfl, SlO.asE hO25 (by first | rw [take_min hn] | rw [List.nil_append, take_min hn]), SlO.asE hO210 (by rw [List.nil_append, take_min hnw]), hO, hG, hB, hw.below, four_tails (Hs.pick [[bx (γ26 0) (#[.slice q25 n25 c25]) 26], [bx (γ1 1) (#[.slice q25 n25 c25, .slice p210 (0 + (min nw 17)) cap210, .slice po nu co]) 30], [bx (γ1 0) (#[.slice p n cap, .slice pw nw capw, .slice q m capq]) 30], Y210, Y25, Yo, Yi] [4, 3, 5, 6] [0, 1, 2] (by kernel_rfl) hw)⟩
end Go.Proofs.Ytoljahfofkmdaaa

/-! Order: slices.Reverse on one's own row of rows. -/
namespace Go.Proofs.Ytoljahfofkmdaaa
open Go Go.RowKit

set_option maxRecDepth 100000 in
theorem reverse_own (w0 : World) (X : List Ob) (g : Nat) (cs : Array Value) (n h cap : Nat) (l : List IntsA) (w : World)
 (hH : Hs w0 (bx g cs 40 :: X) w) (hml : n = l.length) (hh : h ≤ n) (hb : n ≤ 1000) (hOw : OwnS (Enc.k IntsA) (l.flatMap Enc.enc) n cap cs)
 : Calls Try.prog 22 #[.slice (some ⟨g, 0, none⟩) h cap] w fun e w' => e = .returned (.tuple #[]) ∧ ∃ (m : List IntsA) (cs2 : Array Value), m.Perm l ∧ OwnS (Enc.k IntsA) (m.flatMap Enc.enc) n cap cs2 ∧ Hs w0 (bx g cs2 40 :: X) w' := by
 refine enter hH Try.func22 rfl Try.ntmps22 rfl (sq_ (qa [(2, .fit)] [0] [(2, .int .i64 0), (3, .int .i64 ((h : Nat) - 1))] ([Fit .i64 ((h : Nat) - 1)]) (al1 (fit64 (by omega) (by omega))) (ds_ (at_block (at_loop (α := Nat × Int × List IntsA × Array Value) [0, 2, 3] (fun ⟨i, jj, m, cs2⟩ => [(0, .slice (some ⟨g, 0, none⟩) h cap), (2, .int .i64 (i : Nat)), (3, .int .i64 jj)]) (fun ⟨i, jj, m, cs2⟩ => bx g cs2 40 :: X) (fun ⟨i, jj, m, cs2⟩ => i ≤ h ∧ jj = (h : Int) - 1 - i ∧ m.Perm l ∧ n = m.length ∧ OwnS (Enc.k IntsA) (m.flatMap Enc.enc) n cap cs2) (fun ⟨i, jj, m, cs2⟩ => h - i) (0, (h : Int) - 1, l, cs) (by kernel_rfl) rfl ⟨Nat.zero_le _, by show (h : Int) - 1 = (h : Int) - 1 - ((0 : Nat) : Int); omega, .refl _, hml, hOw⟩ ?_)))))
 rintro ⟨i, jj, m, cs2⟩
 rintro ⟨hi, hjj, hP, hml, hOw⟩
 refine sq_ (sq_ ?_)
 by_cases q3 : ((i : Nat) : Int) < (jj : Int)
 ·
  refine qa [(2, .yes)] [0, 2, 3] [(9, .bool true)] ([((i : Nat) : Int) < (jj : Int)]) (al1 q3) (ds_ (t_ (at_skip (ds_ (sq_ (at_block ?_))))))
  have hj3 : jj = ((h - 1 - i : Nat) : Int) := by omega
  rw [hj3]
  obtain ⟨x6, hx6⟩ := get_some (l := m) (m := h - 1 - i) (by omega)
  obtain ⟨x8, hx8⟩ := get_some (l := m) (m := i) (by omega)
  refine at_any (by kernel_rfl) ?_
  refine tk (m := 6) [0, 1, 2, 3, 4, 5, 6, 8, 9, 10] [(6, .at g 0 (h - 1 - i)), (10, .at g 0 i)] [0, 2, 3] [(14, .slice (some ⟨g, 0, none⟩) h cap), (15, .int .i64 (i : Nat)), (16, .slice (some ⟨g, 0, none⟩) h cap), (17, .int .i64 (h - 1 - i : Nat)), (20, .pointer (some ⟨g, 0 + (h - 1 - i) * 1, none⟩)), (24, .pointer (some ⟨g, 0 + i * 1, none⟩))] ([(some ⟨g, 0, none⟩ : Option Addr) = some ⟨g, 0, none⟩, (h - 1 - i : Nat) = ((h - 1 - i : Nat) : Int), h - 1 - i < h] ++ ([(some ⟨g, 0, none⟩ : Option Addr) = some ⟨g, 0, none⟩, (i : Nat) = ((i : Nat) : Int), i < h])) #[true, true, true, true, true, true, true, false, true, true, true, false, false, false, false, false] (alA (al2 rfl (al2 rfl (al1 (by omega)))) (al2 rfl (al2 rfl (al1 (by omega))))) ?_
  refine any_cut 3 #[true, true, true, true, true, true, true, true, true, true, true, true, true, false, false, false] ([(0, .slice (some ⟨g, 0, none⟩) h cap), (2, .int .i64 (i : Nat)), (3, .int .i64 (h - 1 - i : Nat)), (16, .slice (some ⟨g, 0, none⟩) h cap), (17, .int .i64 (h - 1 - i : Nat)), (21, .slice x6.p x6.n x6.cap), (25, .slice x8.p x8.n x8.cap), (26, .pointer (some ⟨g, 0 + i * 1, none⟩))]) (bx g cs2 40 :: X) ?_ (fun hm => ?_)
  rotate_left
  ·
   refine any_fork [7, 11] (by kernel_rfl) (by simp) (each_cons _ rfl ?_ (each_cons _ rfl ?_ (each_nil)))
   ·
    refine qo 1 [(7, .go (ownps 0 (0 + (h - 1 - i) * 1) [.slice x6.p x6.n x6.cap]))] [0, 2, 3, 14, 15, 16, 17, 24] [(21, .slice x6.p x6.n x6.cap)] (acellsP cs2 (0 + (h - 1 - i) * 1) [.slice x6.p x6.n x6.cap]) (rda_pre (hOw.rdx hml hx6) _ rfl) ?_
    refine od_ ?_
    refine a1 11 rfl ?_
    refine qo 1 [(11, .go (ownps 0 (0 + i * 1) [.slice x8.p x8.n x8.cap]))] [0, 2, 3, 14, 15, 16, 17, 21] [(25, .slice x8.p x8.n x8.cap)] (acellsP cs2 (0 + i * 1) [.slice x8.p x8.n x8.cap]) (rda_pre (hOw.rdx hml hx8) _ rfl) ?_
    refine od_ ?_
    refine tk (m := 3) [12] [(12, .at g 0 i)] [0, 2, 3, 16, 17, 21, 25] [(26, .pointer (some ⟨g, 0 + i * 1, none⟩))] ([(some ⟨g, 0, none⟩ : Option Addr) = some ⟨g, 0, none⟩, (i : Nat) = ((i : Nat) : Int), i < h]) #[true, true, true, true, true, true, true, true, true, true, true, true, true, false, false, false] (al2 rfl (al2 rfl (al1 (by omega)))) ?_
    exact any_weak hm [0, 2, 3, 16, 17, 21, 25, 26] (by kernel_rfl) rfl rfl rfl
   ·
    refine qo 1 [(11, .go (ownps 0 (0 + i * 1) [.slice x8.p x8.n x8.cap]))] [0, 2, 3, 14, 15, 16, 17, 20] [(25, .slice x8.p x8.n x8.cap)] (acellsP cs2 (0 + i * 1) [.slice x8.p x8.n x8.cap]) (rda_pre (hOw.rdx hml hx8) _ rfl) ?_
    refine od_ ?_
    refine a1 7 rfl ?_
    refine qo 1 [(7, .go (ownps 0 (0 + (h - 1 - i) * 1) [.slice x6.p x6.n x6.cap]))] [0, 2, 3, 14, 15, 16, 17, 25] [(21, .slice x6.p x6.n x6.cap)] (acellsP cs2 (0 + (h - 1 - i) * 1) [.slice x6.p x6.n x6.cap]) (rda_pre (hOw.rdx hml hx6) _ rfl) ?_
    refine od_ ?_
    refine tk (m := 3) [12] [(12, .at g 0 i)] [0, 2, 3, 16, 17, 21, 25] [(26, .pointer (some ⟨g, 0 + i * 1, none⟩))] ([(some ⟨g, 0, none⟩ : Option Addr) = some ⟨g, 0, none⟩, (i : Nat) = ((i : Nat) : Int), i < h]) #[true, true, true, true, true, true, true, true, true, true, true, true, true, false, false, false] (al2 rfl (al2 rfl (al1 (by omega)))) ?_
    exact any_weak hm [0, 2, 3, 16, 17, 21, 25, 26] (by kernel_rfl) rfl rfl rfl
  refine a1 13 rfl ?_
  refine mo 1 [(13, .go (ownps 0 (0 + i * 1) [undef]))] [0, 2, 3, 16, 17, 25] (fun _ => []) (fun _ L => (L.set 0 (bx g ((cs2).setIfInBounds (0 + i * 1) (.slice x6.p x6.n x6.cap)) 40))) (fun _ => [0 + i * 1 < (cs2).size]) (fun _ => (al1 (hOw.room hml hx8 (f := 0) (by decide)))) (fun _ => ?_)
  refine od_ ?_
  refine tk (m := 1) [14] [(14, .at g 0 (h - 1 - i))] [0, 2, 3, 25] [(27, .pointer (some ⟨g, 0 + (h - 1 - i) * 1, none⟩))] ([(some ⟨g, 0, none⟩ : Option Addr) = some ⟨g, 0, none⟩, (h - 1 - i : Nat) = ((h - 1 - i : Nat) : Int), h - 1 - i < h]) #[true, true, true, true, true, true, true, true, true, true, true, true, true, true, true, false] (al2 rfl (al2 rfl (al1 (by omega)))) ?_
  refine a1 15 rfl ?_
  refine mo 1 [(15, .go (ownps 0 (0 + (h - 1 - i) * 1) [undef]))] [0, 2, 3] (fun _ => []) (fun _ L => (L.set 0 (bx g (((cs2).setIfInBounds (0 + i * 1) (.slice x6.p x6.n x6.cap)).setIfInBounds (0 + (h - 1 - i) * 1) (.slice x8.p x8.n x8.cap)) 40))) (fun _ => [0 + (h - 1 - i) * 1 < ((cs2).setIfInBounds (0 + i * 1) (.slice x6.p x6.n x6.cap)).size]) (fun _ => (al1 ((hOw.put (x' := (⟨x6.p, x6.n, x6.cap, x6.l⟩ : IntsA)) hml hx8 (f := 0) (by decide) rfl).room (len_set hml) (get_set_ne (by omega) hx6) (f := 0) (by decide)))) (fun _ => ?_)
  refine od_ ?_
  refine any_nil (by kernel_rfl) ?_
  refine done_block (ds_ (qa [(1, .fit), (3, .fit)] [0] [(2, .int .i64 (i + 1 : Nat)), (3, .int .i64 ((h - 1 - i : Nat) - 1))] ([Fit .i64 ((i + 1 : Nat))] ++ ([Fit .i64 ((h - 1 - i : Nat) - 1)])) (alA (al1 (fit64 (by omega) (by omega))) (al1 (fit64 (by omega) (by omega)))) ?_))
  exact dr [0, 2, 3] (i + 1, ((h - 1 - i : Nat) : Int) - 1, ((m.set i (⟨x6.p, x6.n, x6.cap, x6.l⟩ : IntsA)).set (h - 1 - i) (⟨x8.p, x8.n, x8.cap, x8.l⟩ : IntsA)), ((cs2).setIfInBounds (0 + i * 1) (.slice x6.p x6.n x6.cap)).setIfInBounds (0 + (h - 1 - i) * 1) (.slice x8.p x8.n x8.cap)) ⟨by omega, by show ((h - 1 - i : Nat) : Int) - 1 = (h : Int) - 1 - ((i + 1 : Nat) : Int); omega, (swap_perm hx8 hx6).trans hP, (len_set (len_set hml)), ((hOw.put (x' := (⟨x6.p, x6.n, x6.cap, x6.l⟩ : IntsA)) hml hx8 (f := 0) (by decide) rfl).put (x' := (⟨x8.p, x8.n, x8.cap, x8.l⟩ : IntsA)) (len_set hml) (get_set_ne (by omega) hx6) (f := 0) (by decide) rfl)⟩
 ·
  refine qa [(2, .no)] [0, 2, 3] [(9, .bool false)] ([¬ (((i : Nat) : Int) < (jj : Int))]) (al1 q3) (ds_ (f_ (at_leave _ rfl (done_return (by rfl) ?_))))
  exact fun w' hw => ⟨rfl, m, cs2, hP, hOw, hw⟩
end Go.Proofs.Ytoljahfofkmdaaa

/-! Entities: the rows of pairs, step by step; plain. -/
namespace Go.Proofs.Ytoljahfofkmdaaa
open Go Go.RowKit

/-- A row of pairs as an element. -/
structure PsA where
  p : Option Addr
  n : Nat
  cap : Nat
  l : List Pr
def PsA.enc (x : PsA) : List Value := [.slice x.p x.n x.cap]
instance : Enc PsA := ⟨PsA.enc, 1, fun _ => rfl, fun x v h => by simp [PsA.enc] at h; subst h; rfl, by decide⟩
structure PsA.Reads (w : World) (x : PsA) : Prop where
  sv : Sv w x.p x.l
  hn : x.n = x.l.length
  hc : x.n ≤ x.cap
  hb : x.cap ≤ 9223372036854775807
section
variable {w w' w0 : World} {x : PsA} {al : List PsA} {T : TypeId} {Y Yi L : List Ob}
theorem PsA.Reads.kept (h : x.Reads w) (hb : Below w.heap.size w w') : x.Reads w' := ⟨h.sv.kept hb, h.hn, h.hc, h.hb⟩
/-- Rows of one's own, each in a block of its own. -/
def GotP (T : TypeId) (Yi : List Ob) (al : List PsA) : Prop := ∃ Ys : List (List Ob), Yi = Ys.flatten ∧ Ys.length = al.length ∧ ∀ (i : Nat) (Y : List Ob) (x : PsA), Ys[i]? = some Y → al[i]? = some x → SlO T Y x.p x.n x.cap x.l
theorem GotP.nil : GotP T [] [] := ⟨[], rfl, rfl, fun i Y x h => by simp at h⟩
theorem GotP.snoc (h : GotP T Yi al) (hx : SlO T Y x.p x.n x.cap x.l) : GotP T (Yi ++ Y) (al ++ [x]) := by
  obtain ⟨Ys, rfl, hl, hs⟩ := h
  refine ⟨Ys ++ [Y], by simp, by simp [hl], fun i Z z h1 h2 => ?_⟩
  by_cases hi : i < Ys.length
  · rw [List.getElem?_append_left hi] at h1
    rw [List.getElem?_append_left (by omega)] at h2
    exact hs i Z z h1 h2
  · rw [List.getElem?_append_right (by omega)] at h1
    rw [List.getElem?_append_right (by omega)] at h2
    have hz : i - Ys.length = 0 := by
      have := (List.getElem?_eq_some_iff.1 h1).1
      simpa using this
    rw [hz] at h1
    rw [show i - al.length = 0 by omega] at h2
    simp at h1 h2
    subst h1; subst h2
    exact hx
theorem GotP.own (h : GotP T Yi al) (hx : x ∈ al) : ∃ Y, List.Sublist Y Yi ∧ SlO T Y x.p x.n x.cap x.l := by
  obtain ⟨Ys, rfl, hl, hs⟩ := h
  obtain ⟨i, hi⟩ := List.mem_iff_getElem?.1 hx
  have hil := (List.getElem?_eq_some_iff.1 hi).1
  have e : Ys[i]? = some Ys[i] := List.getElem?_eq_getElem (by omega)
  exact ⟨Ys[i], List.sublist_flatten_of_mem (List.getElem_mem _), hs i _ x e hi⟩
theorem GotP.reads (h : GotP T Yi al) (hw : Hs w0 L w) (hs : List.Sublist Yi L) : ∀ x ∈ al, x.Reads w := fun x hx => by
  obtain ⟨Y, h1, h2⟩ := h.own hx
  have hf := h2.facts
  exact ⟨h2.sub hw (h1.trans hs), hf.1, hf.2.1, hf.2.2⟩
/-- One row is taken out, and another laid there. -/
theorem GotP.cut {i : Nat} (h : GotP T Yi al) (hx : al[i]? = some x) : ∃ A Z B, Yi = A ++ (Z ++ B) ∧ SlO T Z x.p x.n x.cap x.l ∧ ∀ (Z' : List Ob) (y : PsA), SlO T Z' y.p y.n y.cap y.l → GotP T (A ++ (Z' ++ B)) (al.set i y) := by
  obtain ⟨Ys, rfl, hl, hs⟩ := h
  have hil := (List.getElem?_eq_some_iff.1 hx).1
  have hiy : i < Ys.length := by omega
  have e : Ys[i]? = some Ys[i] := List.getElem?_eq_getElem hiy
  have hsp : Ys = Ys.take i ++ Ys[i] :: Ys.drop (i + 1) := by rw [← List.drop_eq_getElem_cons hiy, List.take_append_drop]
  refine ⟨(Ys.take i).flatten, Ys[i], (Ys.drop (i + 1)).flatten, ?_, hs i _ x e hx, fun Z' y hy => ⟨Ys.set i Z', ?_, by simp [hl], fun k Z z h1 h2 => ?_⟩⟩
  · have h9 := congrArg List.flatten hsp
    rw [List.flatten_append, List.flatten_cons] at h9
    exact h9
  · rw [List.set_eq_take_append_cons_drop, if_pos hiy]
    simp
  · by_cases hk : i = k
    · subst hk
      rw [List.getElem?_set_self hiy] at h1
      rw [List.getElem?_set_self hil] at h2
      cases h1; cases h2
      exact hy
    · rw [List.getElem?_set_ne hk] at h1 h2
      exact hs k Z z h1 h2
end

section
variable {T : TypeId} {gs : List (List Int)} {ts : List Rn} {ws : List Wt} {zs : List Pr} {p : Pr} {j n M : Nat} {rl : List PsA} {e y : PsA} {D : List (Int × Int)} {l : List Int} {c v : Int} {u : Int → Int} {i : Nat} {g : List Int}
theorem GotP.rep (n : Nat) : GotP T [] (List.replicate n ⟨none, 0, 0, []⟩) :=
  ⟨List.replicate n [], by simp, by simp, fun i Y x h1 h2 => by
      rw [List.getElem?_replicate] at h1 h2
      split at h1
      · rename_i hi
        rw [if_pos hi] at h2
        cases h1; cases h2
        exact SlO.nil
      · cases h1⟩
theorem rows_0 : (List.replicate M (⟨none, 0, 0, []⟩ : PsA)).map PsA.l = (List.range M).map (rowP gs (zs.take 0)) := by
  rw [List.map_replicate, List.take_zero]
  have e : rowP gs [] = fun _ => [] := by funext n; unfold rowP rowZ; split <;> rfl
  rw [e]
  apply List.ext_getElem (by simp)
  intro i h1 h2
  simp
theorem sing_0 : singZ gs (zs.take 0) = [] := by rw [List.take_zero]; rfl
theorem sing_no (hz : zs[j]? = some p) (h : gnV gs p.r.id ≠ 0) : singZ gs (zs.take (j + 1)) = singZ gs (zs.take j) := by
  unfold singZ rowZ
  rw [take_one hz, List.filter_append]
  simp [h]
theorem sing_yes (hz : zs[j]? = some p) (h : gnV gs p.r.id = 0) : singZ gs (zs.take (j + 1)) = singZ gs (zs.take j) ++ [entO [p]] := by
  unfold singZ rowZ
  rw [take_one hz, List.filter_append, List.map_append]
  simp [h]
theorem rowp_on (hz : zs[j]? = some p) : rowP gs (zs.take (j + 1)) n = if n = gnV gs p.r.id ∧ n ≠ 0 then rowP gs (zs.take j) n ++ [p] else rowP gs (zs.take j) n := by
  unfold rowP rowZ
  rw [take_one hz, List.filter_append]
  by_cases h0 : n = 0
  · simp [h0]
  · rw [if_neg h0, if_neg h0]
    by_cases h : gnV gs p.r.id = n
    · rw [if_pos ⟨h.symm, h0⟩]; simp [h]
    · rw [if_neg (fun h2 => h h2.1.symm)]; simp [h]
theorem rowp_no (hz : zs[j]? = some p) (h : gnV gs p.r.id = 0) : (List.range M).map (rowP gs (zs.take (j + 1))) = (List.range M).map (rowP gs (zs.take j)) := by
  apply List.map_congr_left
  intro n _
  rw [rowp_on hz, if_neg (by omega)]
theorem rowp_set (hR : rl.map PsA.l = (List.range M).map (rowP gs (zs.take j))) (hx : rl[n]? = some e) (hz : zs[j]? = some p) (hn : gnV gs p.r.id = n) (h0 : 0 < n) (hy : y.l = e.l ++ [p]) : (rl.set n y).map PsA.l = (List.range M).map (rowP gs (zs.take (j + 1))) := by
  rw [List.map_set, hR, hy]
  have h1 : (rl.map PsA.l)[n]? = some e.l := by rw [List.getElem?_map, hx]; rfl
  rw [hR, List.getElem?_map] at h1
  apply List.ext_getElem?
  intro i
  by_cases hi : i < M
  · by_cases hin : n = i
    · subst hin
      rw [List.getElem?_set_self (by simpa using hi), List.getElem?_map, List.getElem?_range hi]
      rw [List.getElem?_range hi] at h1
      simp only [Option.map_some, Option.some.injEq] at h1 ⊢
      rw [rowp_on hz, if_pos ⟨hn.symm, by omega⟩, h1]
    · rw [List.getElem?_set_ne hin, List.getElem?_map, List.getElem?_map, List.getElem?_range hi]
      simp only [Option.map_some, Option.some.injEq]
      rw [rowp_on hz, if_neg (by omega)]
  · rw [List.getElem?_eq_none (by simpa using hi), List.getElem?_eq_none (by simpa using hi)]
theorem gi_on (hI : ∀ k, (mget D k).getD 0 = if k ∈ l.take i then v else u k) (hx : l[i]? = some c) : ∀ k, (mget (mupd D c v) k).getD 0 = if k ∈ l.take (i + 1) then v else u k := fun k => by
  rw [take_one hx]
  by_cases e : k = c
  · subst e
    rw [mu_get, if_pos (List.mem_append_right _ (List.mem_singleton.2 rfl))]; rfl
  · rw [mu_get_ne e, hI k]
    by_cases h : k ∈ l.take i
    · rw [if_pos h, if_pos (List.mem_append_left _ h)]
    · rw [if_neg h, if_neg (fun h2 => (List.mem_append.1 h2).elim h fun h3 => e (List.mem_singleton.1 h3))]
theorem gj_on (hx : gs[j]? = some g) (hI : ∀ k, (mget D k).getD 0 = if k ∈ g.take i then ((j + 1 : Nat) : Int) else ((gnV (gs.take j) k : Nat) : Int)) (hi : g.length ≤ i) : ∀ k, (mget D k).getD 0 = ((gnV (gs.take (j + 1)) k : Nat) : Int) := fun k => by
  have hj := (List.getElem?_eq_some_iff.1 hx).1
  rw [hI k, List.take_of_length_le hi, take_one hx]
  unfold gnV
  rw [gn_snoc, List.length_take, Nat.min_eq_left (by omega)]
  split
  · simp
  · rfl
theorem row_in (hR : rl.map PsA.l = (List.range M).map (rowP gs zs)) (hx : rl[n]? = some e) : e.l.length ≤ zs.length ∧ ∀ p ∈ e.l, p ∈ zs := by
  have h1 : (rl.map PsA.l)[n]? = some e.l := by rw [List.getElem?_map, hx]; rfl
  rw [hR, List.getElem?_map] at h1
  have hn : n < M := by
    have := (List.getElem?_eq_some_iff.1 hx).1
    have h2 : rl.length = M := by have := congrArg List.length hR; simpa using this
    omega
  rw [List.getElem?_range hn] at h1
  simp only [Option.map_some, Option.some.injEq] at h1
  rw [← h1]
  unfold rowP rowZ
  split
  · exact ⟨Nat.zero_le _, fun p h => by cases h⟩
  · exact ⟨List.length_filter_le _ _, fun p h => (List.mem_filter.1 h).1⟩
theorem fm_no (hx : rl[n]? = some e) (h : e.l = []) : ((rl.map PsA.l).take (n + 1)).filterMap neO = ((rl.map PsA.l).take n).filterMap neO := by
  rw [take_one (by rw [List.getElem?_map, hx]; rfl : (rl.map PsA.l)[n]? = some e.l), List.filterMap_append, h]
  simp [neO]
theorem fm_yes (hx : rl[n]? = some e) (h : e.l ≠ []) : ((rl.map PsA.l).take (n + 1)).filterMap neO = ((rl.map PsA.l).take n).filterMap neO ++ [entO e.l] := by
  rw [take_one (by rw [List.getElem?_map, hx]; rfl : (rl.map PsA.l)[n]? = some e.l), List.filterMap_append]
  simp [ne_some h]
theorem raw_end (hR : rl.map PsA.l = (List.range (gs.length + 1)).map (rowP gs zs)) (hj : rl.length ≤ j) : singZ gs zs ++ ((rl.map PsA.l).take j).filterMap neO = rawV gs zs := by
  rw [List.take_of_length_le (by simpa using hj), hR]; rfl
theorem raw_U {a : En} (hz : ∀ p ∈ zs, p.U) (ha : a ∈ rawV gs zs) : a.t.U ∧ 0 ≤ a.ord ∧ a.ord < 18446744073709551616 := by
  obtain ⟨F, hF, hs, rfl, _⟩ := raw_in ha
  exact ⟨one_t (P := Fq.U) hF fun p hp => (hz p (hs p hp)).r.t, one_o (P := fun o => 0 ≤ o) hF fun p hp => (hz p (hs p hp)).w.o0, one_o (P := fun o => o < 18446744073709551616) hF fun p hp => (hz p (hs p hp)).w.o1⟩
theorem pairs_U (h1 : ∀ r ∈ ts, r.U) (h2 : ∀ x ∈ ws, x.U) : ∀ p ∈ pairsV ts ws, p.U := fun p hp => ⟨h1 _ (pairs_mem hp).1, h2 _ (pairs_mem hp).2⟩
theorem raw_Us {el fl : List EnA} (hp : fl.Perm el) (he : el.map EnA.val = rawV gs zs) (hz : ∀ p ∈ zs, p.U) : ∀ x ∈ fl, x.U := fun x hx => by
  have := raw_U (gs := gs) hz (by rw [← he]; exact List.mem_map_of_mem (hp.mem_iff.1 hx))
  exact ⟨this.1, this.2.1, this.2.2⟩
end
end Go.Proofs.Ytoljahfofkmdaaa

/-! Order: the entity of some runners. -/
namespace Go.Proofs.Ytoljahfofkmdaaa
open Go Go.RowKit

set_option maxRecDepth 100000 in
theorem ent1_t (p : Option Addr) (n cap : Nat) (l : List Pr) (w : World)
 (hsl : Sv w p l) (hn : n = l.length) (hb : n ≤ 1000) (h0 : 0 < n) (hU : ∀ x ∈ l, x.U)
 : Calls Try.prog 36 #[.slice p n cap] w fun e w' => ∃ q' n' c' Y, e = .returned (.agg #[.slice q' n' c', .int .u64 (entO l).t.hi, .int .u64 (entO l).t.lo, .int .u64 (entO l).t.w, .int .u64 (entO l).ord, .bool (entO l).fresh]) ∧ SlO 3 Y q' n' c' (entO l).mem ∧ Below w.heap.size w w' ∧ Hs w Y w' := by
 refine enter (Hs.start w) Try.func36 rfl Try.ntmps36 rfl (sq_ (ma0 [] [0] (fun γ1 => [(2, .pointer (some ⟨γ1 0, 0, none⟩))]) (fun γ1 L => bx (γ1 0) (#[.slice none 0 0, .int .u64 0, .int .u64 0, .int .u64 0, .int .u64 0, .bool false]) 47 :: L) (fun γ1 => ds_ (sq_ ?_))))
 obtain ⟨b2, o2, hbo2⟩ := hsl.pos (i := 0) (by omega)
 have hsv2 := hsl
 rw [hbo2] at hsv2
 obtain ⟨x3, hx3⟩ := get_some (l := l) (m := 0) (by omega)
 have hUx3 := hU x3 (List.mem_of_getElem? hx3)
 refine at_any (by kernel_rfl) ?_
 refine tk (m := 5) [0, 1, 2, 3, 5, 6, 7, 8] [(1, .at b2 o2 0), (6, .at b2 o2 0)] [0, 2] [(9, .pointer (some ⟨b2, o2 + 0 * 8 + 2, none⟩)), (14, .pointer (some ⟨b2, o2 + 0 * 8 + 6, none⟩))] ([(p : Option Addr) = some ⟨b2, o2, none⟩, 0 = ((0 : Nat) : Int), 0 < n] ++ ([(p : Option Addr) = some ⟨b2, o2, none⟩, 0 = ((0 : Nat) : Int), 0 < n])) #[true, true, true, true, false, true, true, true, true, false, false, false, false] (alA (al2 hbo2 (al2 rfl (al1 (by omega)))) (al2 hbo2 (al2 rfl (al1 (by omega))))) ?_
 refine any_cutX (V := (Nat → Nat)) (fun γ227 => True) 0 #[true, true, true, true, true, true, true, true, true, true, true, true, true] (fun γ227 => [(0, .slice p n cap), (2, .pointer (some ⟨γ1 0, 0, none⟩)), (3, .pointer (some ⟨γ227 0, 0, none⟩))]) (fun γ227 => [bx (γ227 0) (#[.slice none 0 0, .int .u64 x3.r.th, .int .u64 x3.r.tl, .int .u64 x3.r.tw, .int .u64 x3.w.ord, .bool true]) 47, bx (γ1 0) (#[.slice none 0 0, .int .u64 0, .int .u64 0, .int .u64 0, .int .u64 0, .bool false]) 47]) ?_ (fun hmx8 => ?_)
 rotate_left
 ·
  refine any_cutX (V := (Nat → Nat)) (fun γ227 => True) 1 #[true, true, true, true, true, true, true, true, true, true, true, true, false] (fun γ227 => [(0, .slice p n cap), (2, .pointer (some ⟨γ1 0, 0, none⟩)), (3, .pointer (some ⟨γ227 0, 0, none⟩)), (16, .agg #[.slice none 0 0, .int .u64 x3.r.th, .int .u64 x3.r.tl, .int .u64 x3.r.tw, .int .u64 x3.w.ord, .bool true])]) (fun γ227 => [bx (γ227 0) (#[.slice none 0 0, .int .u64 0, .int .u64 0, .int .u64 0, .int .u64 0, .bool false]) 47, bx (γ1 0) (#[.slice none 0 0, .int .u64 0, .int .u64 0, .int .u64 0, .int .u64 0, .bool false]) 47]) ?_ (fun hmx7 => ?_)
  ·
   rintro γ227 _
   refine a1 12 rfl ?_
   refine mo0 1 [(12, .go (owns 0 0 6))] [0, 2, 3] (fun _ => []) (fun _ L => (L.set 0 (bx (γ227 0) (#[.slice none 0 0, .int .u64 x3.r.th, .int .u64 x3.r.tl, .int .u64 x3.r.tw, .int .u64 x3.w.ord, .bool true]) 47))) (fun _ => ?_)
   refine od_ ?_
   exact wk (hmx8 γ227 trivial) [0, 2, 3] [[_], [_]] [0, 1] rfl rfl
  refine any_cutX (V := Unit) (fun _ => True) 2 #[true, true, true, true, true, true, true, true, true, true, true, false, false] (fun _ => [(0, .slice p n cap), (2, .pointer (some ⟨γ1 0, 0, none⟩)), (16, .agg #[.slice none 0 0, .int .u64 x3.r.th, .int .u64 x3.r.tl, .int .u64 x3.r.tw, .int .u64 x3.w.ord, .bool true])]) (fun _ => [bx (γ1 0) (#[.slice none 0 0, .int .u64 0, .int .u64 0, .int .u64 0, .int .u64 0, .bool false]) 47]) ?_ (fun hmx6 => ?_)
  ·
   rintro _ _
   refine a1 11 rfl ?_
   refine mo0 1 [] [0, 2, 16] (fun γ227 => [(3, .pointer (some ⟨γ227 0, 0, none⟩))]) (fun γ227 L => bx (γ227 0) (#[.slice none 0 0, .int .u64 0, .int .u64 0, .int .u64 0, .int .u64 0, .bool false]) 47 :: L) (fun γ227 => ?_)
   refine od_ ?_
   exact wk (hmx7 γ227 trivial) [0, 2, 3, 16] [[_], [_]] [0, 1] rfl rfl
  refine any_cutX (V := (Nat → Nat)) (fun γ227 => True) 3 #[true, true, true, true, false, true, true, true, true, true, false, true, false] (fun γ227 => [(0, .slice p n cap), (2, .pointer (some ⟨γ1 0, 0, none⟩)), (3, .pointer (some ⟨γ227 0, 0, none⟩)), (9, .pointer (some ⟨b2, o2 + 0 * 8 + 2, none⟩)), (15, .int .u64 x3.w.ord)]) (fun γ227 => [bx (γ227 0) (#[.slice none 0 0, .int .u64 0, .int .u64 0, .int .u64 0, .int .u64 0, .bool false]) 47, bx (γ1 0) (#[.slice none 0 0, .int .u64 0, .int .u64 0, .int .u64 0, .int .u64 0, .bool false]) 47]) ?_ (fun hmx5 => ?_)
  ·
   rintro γ227 _
   refine a1 4 rfl ?_
   refine qo 1 [(4, .go (outs b2 (o2 + 0 * 8 + 2) [.int .u64 x3.r.th, .int .u64 x3.r.tl, .int .u64 x3.r.tw]))] [0, 2, 3, 15] [(10, .agg #[.int .u64 x3.r.th, .int .u64 x3.r.tl, .int .u64 x3.r.tw])] (cellsP w b2 (o2 + 0 * 8 + 2) [.int .u64 x3.r.th, .int .u64 x3.r.tl, .int .u64 x3.r.tw]) (rd_part (hsv2.get hx3) 2 _ rfl) ?_
   refine od_ ?_
   refine tk (m := 1) [10] [] [0, 2, 3] [(16, .agg #[.slice none 0 0, .int .u64 x3.r.th, .int .u64 x3.r.tl, .int .u64 x3.r.tw, .int .u64 x3.w.ord, .bool true])] ([]) #[true, true, true, true, true, true, true, true, true, true, true, true, false] al0 ?_
   exact wk (hmx7 γ227 trivial) [0, 2, 3, 16] [[_], [_]] [0, 1] rfl rfl
  refine any_cutX (V := (Nat → Nat)) (fun γ227 => True) 3 #[true, true, true, true, true, true, true, true, true, false, false, true, false] (fun γ227 => [(0, .slice p n cap), (2, .pointer (some ⟨γ1 0, 0, none⟩)), (3, .pointer (some ⟨γ227 0, 0, none⟩)), (10, .agg #[.int .u64 x3.r.th, .int .u64 x3.r.tl, .int .u64 x3.r.tw]), (14, .pointer (some ⟨b2, o2 + 0 * 8 + 6, none⟩))]) (fun γ227 => [bx (γ227 0) (#[.slice none 0 0, .int .u64 0, .int .u64 0, .int .u64 0, .int .u64 0, .bool false]) 47, bx (γ1 0) (#[.slice none 0 0, .int .u64 0, .int .u64 0, .int .u64 0, .int .u64 0, .bool false]) 47]) ?_ (fun hmx4 => ?_)
  ·
   rintro γ227 _
   refine a1 9 rfl ?_
   refine qo 1 [(9, .go (outs b2 (o2 + 0 * 8 + 6) [.int .u64 x3.w.ord]))] [0, 2, 3, 10] [(15, .int .u64 x3.w.ord)] (cellsP w b2 (o2 + 0 * 8 + 6) [.int .u64 x3.w.ord]) (rd_part (hsv2.get hx3) 6 _ rfl) ?_
   refine od_ ?_
   refine tk (m := 1) [10] [] [0, 2, 3] [(16, .agg #[.slice none 0 0, .int .u64 x3.r.th, .int .u64 x3.r.tl, .int .u64 x3.r.tw, .int .u64 x3.w.ord, .bool true])] ([]) #[true, true, true, true, true, true, true, true, true, true, true, true, false] al0 ?_
   exact wk (hmx7 γ227 trivial) [0, 2, 3, 16] [[_], [_]] [0, 1] rfl rfl
  refine any_cutX (V := (Nat → Nat)) (fun γ227 => True) 4 #[true, true, true, true, false, true, true, true, true, false, false, true, false] (fun γ227 => [(0, .slice p n cap), (2, .pointer (some ⟨γ1 0, 0, none⟩)), (3, .pointer (some ⟨γ227 0, 0, none⟩)), (9, .pointer (some ⟨b2, o2 + 0 * 8 + 2, none⟩)), (14, .pointer (some ⟨b2, o2 + 0 * 8 + 6, none⟩))]) (fun γ227 => [bx (γ227 0) (#[.slice none 0 0, .int .u64 0, .int .u64 0, .int .u64 0, .int .u64 0, .bool false]) 47, bx (γ1 0) (#[.slice none 0 0, .int .u64 0, .int .u64 0, .int .u64 0, .int .u64 0, .bool false]) 47]) ?_ (fun hmx3 => ?_)
  ·
   rintro γ227 _
   refine any_fork [4, 9] (by kernel_rfl) (by simp) (each_cons _ rfl ?_ (each_cons _ rfl ?_ (each_nil)))
   ·
    refine qo 1 [(4, .go (outs b2 (o2 + 0 * 8 + 2) [.int .u64 x3.r.th, .int .u64 x3.r.tl, .int .u64 x3.r.tw]))] [0, 2, 3, 14] [(10, .agg #[.int .u64 x3.r.th, .int .u64 x3.r.tl, .int .u64 x3.r.tw])] (cellsP w b2 (o2 + 0 * 8 + 2) [.int .u64 x3.r.th, .int .u64 x3.r.tl, .int .u64 x3.r.tw]) (rd_part (hsv2.get hx3) 2 _ rfl) ?_
    refine od_ ?_
    exact wk (hmx4 γ227 trivial) [0, 2, 3, 10, 14] [[_], [_]] [0, 1] rfl rfl
   ·
    refine qo 1 [(9, .go (outs b2 (o2 + 0 * 8 + 6) [.int .u64 x3.w.ord]))] [0, 2, 3, 9] [(15, .int .u64 x3.w.ord)] (cellsP w b2 (o2 + 0 * 8 + 6) [.int .u64 x3.w.ord]) (rd_part (hsv2.get hx3) 6 _ rfl) ?_
    refine od_ ?_
    exact wk (hmx5 γ227 trivial) [0, 2, 3, 9, 15] [[_], [_]] [0, 1] rfl rfl
  refine any_cutX (V := Unit) (fun _ => True) 4 #[true, true, true, true, false, true, true, true, true, true, false, false, false] (fun _ => [(0, .slice p n cap), (2, .pointer (some ⟨γ1 0, 0, none⟩)), (9, .pointer (some ⟨b2, o2 + 0 * 8 + 2, none⟩)), (15, .int .u64 x3.w.ord)]) (fun _ => [bx (γ1 0) (#[.slice none 0 0, .int .u64 0, .int .u64 0, .int .u64 0, .int .u64 0, .bool false]) 47]) ?_ (fun hmx2 => ?_)
  ·
   rintro _ _
   refine any_fork [4, 11] (by kernel_rfl) (by simp) (each_cons _ rfl ?_ (each_cons _ rfl ?_ (each_nil)))
   ·
    refine qo 1 [(4, .go (outs b2 (o2 + 0 * 8 + 2) [.int .u64 x3.r.th, .int .u64 x3.r.tl, .int .u64 x3.r.tw]))] [0, 2, 15] [(10, .agg #[.int .u64 x3.r.th, .int .u64 x3.r.tl, .int .u64 x3.r.tw])] (cellsP w b2 (o2 + 0 * 8 + 2) [.int .u64 x3.r.th, .int .u64 x3.r.tl, .int .u64 x3.r.tw]) (rd_part (hsv2.get hx3) 2 _ rfl) ?_
    refine od_ ?_
    refine tk (m := 2) [10] [] [0, 2] [(16, .agg #[.slice none 0 0, .int .u64 x3.r.th, .int .u64 x3.r.tl, .int .u64 x3.r.tw, .int .u64 x3.w.ord, .bool true])] ([]) #[true, true, true, true, true, true, true, true, true, true, true, false, false] al0 ?_
    exact wk (hmx6 () trivial) [0, 2, 16] [[_]] [0] rfl rfl
   ·
    refine mo0 1 [] [0, 2, 9, 15] (fun γ227 => [(3, .pointer (some ⟨γ227 0, 0, none⟩))]) (fun γ227 L => bx (γ227 0) (#[.slice none 0 0, .int .u64 0, .int .u64 0, .int .u64 0, .int .u64 0, .bool false]) 47 :: L) (fun γ227 => ?_)
    refine od_ ?_
    exact wk (hmx5 γ227 trivial) [0, 2, 3, 9, 15] [[_], [_]] [0, 1] rfl rfl
  refine any_cutX (V := Unit) (fun _ => True) 4 #[true, true, true, true, true, true, true, true, true, false, false, false, false] (fun _ => [(0, .slice p n cap), (2, .pointer (some ⟨γ1 0, 0, none⟩)), (10, .agg #[.int .u64 x3.r.th, .int .u64 x3.r.tl, .int .u64 x3.r.tw]), (14, .pointer (some ⟨b2, o2 + 0 * 8 + 6, none⟩))]) (fun _ => [bx (γ1 0) (#[.slice none 0 0, .int .u64 0, .int .u64 0, .int .u64 0, .int .u64 0, .bool false]) 47]) ?_ (fun hmx1 => ?_)
  ·
   rintro _ _
   refine any_fork [9, 11] (by kernel_rfl) (by simp) (each_cons _ rfl ?_ (each_cons _ rfl ?_ (each_nil)))
   ·
    refine qo 1 [(9, .go (outs b2 (o2 + 0 * 8 + 6) [.int .u64 x3.w.ord]))] [0, 2, 10] [(15, .int .u64 x3.w.ord)] (cellsP w b2 (o2 + 0 * 8 + 6) [.int .u64 x3.w.ord]) (rd_part (hsv2.get hx3) 6 _ rfl) ?_
    refine od_ ?_
    refine tk (m := 2) [10] [] [0, 2] [(16, .agg #[.slice none 0 0, .int .u64 x3.r.th, .int .u64 x3.r.tl, .int .u64 x3.r.tw, .int .u64 x3.w.ord, .bool true])] ([]) #[true, true, true, true, true, true, true, true, true, true, true, false, false] al0 ?_
    exact wk (hmx6 () trivial) [0, 2, 16] [[_]] [0] rfl rfl
   ·
    refine mo0 1 [] [0, 2, 10, 14] (fun γ227 => [(3, .pointer (some ⟨γ227 0, 0, none⟩))]) (fun γ227 L => bx (γ227 0) (#[.slice none 0 0, .int .u64 0, .int .u64 0, .int .u64 0, .int .u64 0, .bool false]) 47 :: L) (fun γ227 => ?_)
    refine od_ ?_
    exact wk (hmx4 γ227 trivial) [0, 2, 3, 10, 14] [[_], [_]] [0, 1] rfl rfl
  refine any_fork [4, 9, 11] (by kernel_rfl) (by simp) (each_cons _ rfl ?_ (each_cons _ rfl ?_ (each_cons _ rfl ?_ (each_nil))))
  ·
   refine qo 1 [(4, .go (outs b2 (o2 + 0 * 8 + 2) [.int .u64 x3.r.th, .int .u64 x3.r.tl, .int .u64 x3.r.tw]))] [0, 2, 14] [(10, .agg #[.int .u64 x3.r.th, .int .u64 x3.r.tl, .int .u64 x3.r.tw])] (cellsP w b2 (o2 + 0 * 8 + 2) [.int .u64 x3.r.th, .int .u64 x3.r.tl, .int .u64 x3.r.tw]) (rd_part (hsv2.get hx3) 2 _ rfl) ?_
   refine od_ ?_
   exact wk (hmx1 () trivial) [0, 2, 10, 14] [[_]] [0] rfl rfl
  ·
   refine qo 1 [(9, .go (outs b2 (o2 + 0 * 8 + 6) [.int .u64 x3.w.ord]))] [0, 2, 9] [(15, .int .u64 x3.w.ord)] (cellsP w b2 (o2 + 0 * 8 + 6) [.int .u64 x3.w.ord]) (rd_part (hsv2.get hx3) 6 _ rfl) ?_
   refine od_ ?_
   exact wk (hmx2 () trivial) [0, 2, 9, 15] [[_]] [0] rfl rfl
  ·
   refine mo0 1 [] [0, 2, 9, 14] (fun γ227 => [(3, .pointer (some ⟨γ227 0, 0, none⟩))]) (fun γ227 L => bx (γ227 0) (#[.slice none 0 0, .int .u64 0, .int .u64 0, .int .u64 0, .int .u64 0, .bool false]) 47 :: L) (fun γ227 => ?_)
   refine od_ ?_
   exact wk (hmx3 γ227 trivial) [0, 2, 3, 9, 14] [[_], [_]] [0, 1] rfl rfl
 rintro γ227 _
 refine any_nil (by kernel_rfl) ?_
 refine ds_ (sq_ (sq_ (qa0 [] [2, 3] [(17, .slice p n cap), (18, .int .i64 (n : Nat)), (19, .int .i64 0)] (ds_ (at_block (at_loop (α := Nat × List Ob × Option Addr × Nat × Nat × Fq × Int × Bool) [2, 3, 17, 18, 19] (fun ⟨j, Yo, po, nu, co, f, od, fb⟩ => [(2, .pointer (some ⟨γ1 0, 0, none⟩)), (3, .pointer (some ⟨γ227 0, 0, none⟩)), (17, .slice p n cap), (18, .int .i64 (n : Nat)), (19, .int .i64 (j : Nat))]) (fun ⟨j, Yo, po, nu, co, f, od, fb⟩ => bx (γ227 0) (#[.slice po nu co, .int .u64 f.hi, .int .u64 f.lo, .int .u64 f.w, .int .u64 od, .bool fb]) 47 :: bx (γ1 0) (#[.slice none 0 0, .int .u64 0, .int .u64 0, .int .u64 0, .int .u64 0, .bool false]) 47 :: (Yo ++ [])) (fun ⟨j, Yo, po, nu, co, f, od, fb⟩ => j ≤ n ∧ nu ≤ j ∧ f.U ∧ (l.take j).foldl oneS (oneI l) = ⟨memP l j, f, od, fb⟩ ∧ SlO 3 Yo po nu co (memP l j)) (fun ⟨j, Yo, po, nu, co, f, od, fb⟩ => n - j) (0, [], none, 0, 0, x3.r.t, x3.w.ord, true) (by kernel_rfl) rfl ⟨Nat.zero_le _, Nat.le_refl _, hUx3.r.t, one_0T hx3, SlO.nil⟩ ?_))))))
 rintro ⟨j, Yo, po, nu, co, f, od, fb⟩
 rintro ⟨hj, hnu, hUf, hE, hO⟩
 refine sq_ ?_
 by_cases q314 : ((j : Nat) : Int) < ((n : Nat) : Int)
 ·
  refine qa [(0, .yes)] [2, 3, 17, 18, 19] [(20, .bool true)] ([((j : Nat) : Int) < ((n : Nat) : Int)]) (al1 q314) (ds_ (sq_ (t_ (at_skip (ds_ (sq_ (at_block (sq_ ?_))))))))
  obtain ⟨x317, hx317⟩ := get_some (l := l) (m := j) (by omega)
  have hUx317 := hU x317 (List.mem_of_getElem? hx317)
  refine ma [(0, .at b2 o2 j), (1, .go (outs b2 (o2 + j * 8) [.int .i64 x317.r.id, .int .i64 x317.r.each, .int .u64 x317.r.th, .int .u64 x317.r.tl, .int .u64 x317.r.tw, .int .i64 x317.w.id, .int .u64 x317.w.ord, .bool x317.w.fresh])), (3, .go (owns 0 0 8))] [2, 3, 17, 18, 19] (fun γ318 => [(5, .pointer (some ⟨γ318 0, 0, none⟩))]) (fun γ318 L => bx (γ318 0) (#[.int .i64 x317.r.id, .int .i64 x317.r.each, .int .u64 x317.r.th, .int .u64 x317.r.tl, .int .u64 x317.r.tw, .int .i64 x317.w.id, .int .u64 x317.w.ord, .bool x317.w.fresh]) 78 :: L) (fun γ318 => [(p : Option Addr) = some ⟨b2, o2, none⟩, (j : Nat) = ((j : Nat) : Int), j < n] ++ (cellsP w b2 (o2 + j * 8) [.int .i64 x317.r.id, .int .i64 x317.r.each, .int .u64 x317.r.th, .int .u64 x317.r.tl, .int .u64 x317.r.tw, .int .i64 x317.w.id, .int .u64 x317.w.ord, .bool x317.w.fresh])) (fun γ318 => (alA (al2 hbo2 (al2 rfl (al1 (by omega)))) (rd_pre (hsv2.get hx317) _ rfl))) (fun γ318 => ds_ (sq_ (sq_ (ao_ (qo0 5 [(2, .go (owns 0 2 3)), (4, .go (owns 1 1 3))] [2, 3, 5, 17, 18, 19] [(25, .agg #[.int .u64 x317.r.th, .int .u64 x317.r.tl, .int .u64 x317.r.tw]), (27, .agg #[.int .u64 f.hi, .int .u64 f.lo, .int .u64 f.w])] (cD (.int .i64 (cmpF x317.r.t f)) Try.call17 (fun w hw => fcmp_t x317.r.t f w hUx317.r.t hUf) ?_))))))
  by_cases q321 : ((cmpF x317.r.t f) : Int) > (0 : Int)
  ·
   refine qo 1 [(6, .yes)] [2, 3, 5, 17, 18, 19] [(29, .bool true)] ([((cmpF x317.r.t f) : Int) > (0 : Int)]) (al1 q321) (on_ (ds_ (t_ (ma0 [(2, .go (owns 0 2 3)), (4, .go (owns 1 1 3))] [2, 3, 5, 17, 18, 19] (fun _ => []) (fun _ L => (L.set 1 (bx (γ227 0) (#[.slice po nu co, .int .u64 x317.r.th, .int .u64 x317.r.tl, .int .u64 x317.r.tw, .int .u64 od, .bool fb]) 47))) (fun _ => ds_ (sq_ ?_))))))
   rcases q324 : fb with _ | _
   ·
    refine at_any (by kernel_rfl) ?_
    refine tk (m := 13) [0, 2, 3, 6] [] [2, 3, 5, 17, 18, 19] [(34, .pointer (some ⟨γ227 0, 4, none⟩)), (37, .pointer (some ⟨γ318 0, 6, none⟩)), (40, .pointer (some ⟨γ227 0, 5, none⟩))] ([]) #[true, false, true, true, false, false, true, false, false, false, false, false, false, false, false, false, false] al0 ?_
    refine any_cutX (V := Unit) (fun _ => True) 0 #[true, true, true, true, true, true, true, true, true, true, true, true, true, true, true, true, true] (fun _ => [(2, .pointer (some ⟨γ1 0, 0, none⟩)), (3, .pointer (some ⟨γ227 0, 0, none⟩)), (5, .pointer (some ⟨γ318 0, 0, none⟩)), (17, .slice p n cap), (18, .int .i64 (n : Nat)), (19, .int .i64 (j : Nat))]) (fun _ => bx (γ318 0) (#[.int .i64 x317.r.id, .int .i64 x317.r.each, .int .u64 x317.r.th, .int .u64 x317.r.tl, .int .u64 x317.r.tw, .int .i64 x317.w.id, .int .u64 x317.w.ord, .bool x317.w.fresh]) 78 :: bx (γ227 0) (#[.slice po nu co, .int .u64 x317.r.th, .int .u64 x317.r.tl, .int .u64 x317.r.tw, .int .u64 (if (x317.w.ord : Int) < (od : Int) then x317.w.ord else od), .bool false]) 47 :: bx (γ1 0) (#[.slice none 0 0, .int .u64 0, .int .u64 0, .int .u64 0, .int .u64 0, .bool false]) 47 :: (Yo ++ [])) ?_ (fun hmx14 => ?_)
    rotate_left
    ·
     refine any_cutX (V := Unit) (fun _ => True) 1 #[true, true, true, true, true, true, true, true, true, true, true, true, true, true, true, true, false] (fun _ => [(2, .pointer (some ⟨γ1 0, 0, none⟩)), (3, .pointer (some ⟨γ227 0, 0, none⟩)), (5, .pointer (some ⟨γ318 0, 0, none⟩)), (17, .slice p n cap), (18, .int .i64 (n : Nat)), (19, .int .i64 (j : Nat)), (46, .bool false), (48, .pointer (some ⟨γ227 0, 5, none⟩))]) (fun _ => bx (γ318 0) (#[.int .i64 x317.r.id, .int .i64 x317.r.each, .int .u64 x317.r.th, .int .u64 x317.r.tl, .int .u64 x317.r.tw, .int .i64 x317.w.id, .int .u64 x317.w.ord, .bool x317.w.fresh]) 78 :: bx (γ227 0) (#[.slice po nu co, .int .u64 x317.r.th, .int .u64 x317.r.tl, .int .u64 x317.r.tw, .int .u64 (if (x317.w.ord : Int) < (od : Int) then x317.w.ord else od), .bool false]) 47 :: bx (γ1 0) (#[.slice none 0 0, .int .u64 0, .int .u64 0, .int .u64 0, .int .u64 0, .bool false]) 47 :: (Yo ++ [])) ?_ (fun hmx13 => ?_)
     ·
      rintro _ _
      refine a1 16 rfl ?_
      refine qo0 1 [(16, .go (owns 1 5 1))] [2, 3, 5, 17, 18, 19] [] ?_
      refine od_ ?_
      exact wk (hmx14 () trivial) [2, 3, 5, 17, 18, 19] [[_], [_], [_], _] [0, 1, 2, 3] rfl rfl
     refine any_cutX (V := Unit) (fun _ => True) 3 #[true, true, true, true, true, true, true, true, true, true, true, true, true, true, false, false, false] (fun _ => [(2, .pointer (some ⟨γ1 0, 0, none⟩)), (3, .pointer (some ⟨γ227 0, 0, none⟩)), (5, .pointer (some ⟨γ318 0, 0, none⟩)), (17, .slice p n cap), (18, .int .i64 (n : Nat)), (19, .int .i64 (j : Nat)), (39, .int .u64 (if (x317.w.ord : Int) < (od : Int) then x317.w.ord else od)), (46, .bool false), (47, .pointer (some ⟨γ227 0, 4, none⟩))]) (fun _ => bx (γ318 0) (#[.int .i64 x317.r.id, .int .i64 x317.r.each, .int .u64 x317.r.th, .int .u64 x317.r.tl, .int .u64 x317.r.tw, .int .i64 x317.w.id, .int .u64 x317.w.ord, .bool x317.w.fresh]) 78 :: bx (γ227 0) (#[.slice po nu co, .int .u64 x317.r.th, .int .u64 x317.r.tl, .int .u64 x317.r.tw, .int .u64 od, .bool false]) 47 :: bx (γ1 0) (#[.slice none 0 0, .int .u64 0, .int .u64 0, .int .u64 0, .int .u64 0, .bool false]) 47 :: (Yo ++ [])) ?_ (fun hmx12 => ?_)
     ·
      rintro _ _
      refine a1 14 rfl ?_
      refine mo0 1 [(14, .go (owns 1 4 1))] [2, 3, 5, 17, 18, 19, 46] (fun _ => []) (fun _ L => (L.set 1 (bx (γ227 0) (#[.slice po nu co, .int .u64 x317.r.th, .int .u64 x317.r.tl, .int .u64 x317.r.tw, .int .u64 (if (x317.w.ord : Int) < (od : Int) then x317.w.ord else od), .bool false]) 47))) (fun _ => ?_)
      refine od_ ?_
      refine tk (m := 1) [15] [] [2, 3, 5, 17, 18, 19, 46] [(48, .pointer (some ⟨γ227 0, 5, none⟩))] ([]) #[true, true, true, true, true, true, true, true, true, true, true, true, true, true, true, true, false] al0 ?_
      exact wk (hmx13 () trivial) [2, 3, 5, 17, 18, 19, 46, 48] [[_], [_], [_], _] [0, 1, 2, 3] rfl rfl
     refine any_cutX (V := Unit) (fun _ => True) 4 #[true, true, true, true, true, true, true, true, true, true, true, false, false, true, true, false, false] (fun _ => [(2, .pointer (some ⟨γ1 0, 0, none⟩)), (3, .pointer (some ⟨γ227 0, 0, none⟩)), (5, .pointer (some ⟨γ318 0, 0, none⟩)), (17, .slice p n cap), (18, .int .i64 (n : Nat)), (19, .int .i64 (j : Nat)), (42, .bool false), (44, undef)]) (fun _ => bx (γ318 0) (#[.int .i64 x317.r.id, .int .i64 x317.r.each, .int .u64 x317.r.th, .int .u64 x317.r.tl, .int .u64 x317.r.tw, .int .i64 x317.w.id, .int .u64 x317.w.ord, .bool x317.w.fresh]) 78 :: bx (γ227 0) (#[.slice po nu co, .int .u64 x317.r.th, .int .u64 x317.r.tl, .int .u64 x317.r.tw, .int .u64 (if (x317.w.ord : Int) < (od : Int) then x317.w.ord else od), .bool false]) 47 :: bx (γ1 0) (#[.slice none 0 0, .int .u64 0, .int .u64 0, .int .u64 0, .int .u64 0, .bool false]) 47 :: (Yo ++ [])) ?_ (fun hmx11 => ?_)
     ·
      rintro _ _
      refine a1 11 rfl ?_
      refine qo0 1 [] [2, 3, 5, 17, 18, 19, 42] [(45, undef)] ?_
      refine od_ ?_
      refine tk (m := 1) [12, 15] [] [2, 3, 5, 17, 18, 19] [(46, .bool false), (48, .pointer (some ⟨γ227 0, 5, none⟩))] ([]) #[true, true, true, true, true, true, true, true, true, true, true, true, true, true, true, true, false] al0 ?_
      exact wk (hmx13 () trivial) [2, 3, 5, 17, 18, 19, 46, 48] [[_], [_], [_], _] [0, 1, 2, 3] rfl rfl
     refine any_cutX (V := Unit) (fun _ => True) 5 #[true, true, true, true, true, true, true, true, true, true, true, false, false, true, false, false, false] (fun _ => [(2, .pointer (some ⟨γ1 0, 0, none⟩)), (3, .pointer (some ⟨γ227 0, 0, none⟩)), (5, .pointer (some ⟨γ318 0, 0, none⟩)), (17, .slice p n cap), (18, .int .i64 (n : Nat)), (19, .int .i64 (j : Nat)), (39, .int .u64 (if (x317.w.ord : Int) < (od : Int) then x317.w.ord else od)), (42, .bool false), (44, undef), (47, .pointer (some ⟨γ227 0, 4, none⟩))]) (fun _ => bx (γ318 0) (#[.int .i64 x317.r.id, .int .i64 x317.r.each, .int .u64 x317.r.th, .int .u64 x317.r.tl, .int .u64 x317.r.tw, .int .i64 x317.w.id, .int .u64 x317.w.ord, .bool x317.w.fresh]) 78 :: bx (γ227 0) (#[.slice po nu co, .int .u64 x317.r.th, .int .u64 x317.r.tl, .int .u64 x317.r.tw, .int .u64 od, .bool false]) 47 :: bx (γ1 0) (#[.slice none 0 0, .int .u64 0, .int .u64 0, .int .u64 0, .int .u64 0, .bool false]) 47 :: (Yo ++ [])) ?_ (fun hmx10 => ?_)
     ·
      rintro _ _
      refine any_fork [11, 14] (by kernel_rfl) (by simp) (each_cons _ rfl ?_ (each_cons _ rfl ?_ (each_nil)))
      ·
       refine qo0 1 [] [2, 3, 5, 17, 18, 19, 39, 42, 47] [(45, undef)] ?_
       refine od_ ?_
       refine tk (m := 3) [12] [] [2, 3, 5, 17, 18, 19, 39, 47] [(46, .bool false)] ([]) #[true, true, true, true, true, true, true, true, true, true, true, true, true, true, false, false, false] al0 ?_
       exact wk (hmx12 () trivial) [2, 3, 5, 17, 18, 19, 39, 46, 47] [[_], [_], [_], _] [0, 1, 2, 3] rfl rfl
      ·
       refine mo0 1 [(14, .go (owns 1 4 1))] [2, 3, 5, 17, 18, 19, 42, 44] (fun _ => []) (fun _ L => (L.set 1 (bx (γ227 0) (#[.slice po nu co, .int .u64 x317.r.th, .int .u64 x317.r.tl, .int .u64 x317.r.tw, .int .u64 (if (x317.w.ord : Int) < (od : Int) then x317.w.ord else od), .bool false]) 47))) (fun _ => ?_)
       refine od_ ?_
       exact wk (hmx11 () trivial) [2, 3, 5, 17, 18, 19, 42, 44] [[_], [_], [_], _] [0, 1, 2, 3] rfl rfl
     refine any_cutX (V := Unit) (fun _ => True) 6 #[true, false, true, true, true, false, true, true, true, true, true, true, true, false, false, false, false] (fun _ => [(2, .pointer (some ⟨γ1 0, 0, none⟩)), (3, .pointer (some ⟨γ227 0, 0, none⟩)), (5, .pointer (some ⟨γ318 0, 0, none⟩)), (17, .slice p n cap), (18, .int .i64 (n : Nat)), (19, .int .i64 (j : Nat)), (34, .pointer (some ⟨γ227 0, 4, none⟩)), (38, .int .u64 x317.w.ord), (46, .bool false)]) (fun _ => bx (γ318 0) (#[.int .i64 x317.r.id, .int .i64 x317.r.each, .int .u64 x317.r.th, .int .u64 x317.r.tl, .int .u64 x317.r.tw, .int .i64 x317.w.id, .int .u64 x317.w.ord, .bool x317.w.fresh]) 78 :: bx (γ227 0) (#[.slice po nu co, .int .u64 x317.r.th, .int .u64 x317.r.tl, .int .u64 x317.r.tw, .int .u64 od, .bool false]) 47 :: bx (γ1 0) (#[.slice none 0 0, .int .u64 0, .int .u64 0, .int .u64 0, .int .u64 0, .bool false]) 47 :: (Yo ++ [])) ?_ (fun hmx9 => ?_)
     ·
      rintro _ _
      refine a1 1 rfl ?_
      refine qo0 1 [(1, .go (owns 1 4 1))] [2, 3, 5, 17, 18, 19, 38, 46] [(35, .int .u64 od)] ?_
      refine od_ ?_
      refine tk (m := 3) [5, 13] [] [2, 3, 5, 17, 18, 19, 46] [(39, .int .u64 (if (x317.w.ord : Int) < (od : Int) then x317.w.ord else od)), (47, .pointer (some ⟨γ227 0, 4, none⟩))] ([]) #[true, true, true, true, true, true, true, true, true, true, true, true, true, true, false, false, false] al0 ?_
      exact wk (hmx12 () trivial) [2, 3, 5, 17, 18, 19, 39, 46, 47] [[_], [_], [_], _] [0, 1, 2, 3] rfl rfl
     refine any_cutX (V := Unit) (fun _ => True) 6 #[true, true, true, true, false, false, true, true, true, true, true, true, true, false, false, false, false] (fun _ => [(2, .pointer (some ⟨γ1 0, 0, none⟩)), (3, .pointer (some ⟨γ227 0, 0, none⟩)), (5, .pointer (some ⟨γ318 0, 0, none⟩)), (17, .slice p n cap), (18, .int .i64 (n : Nat)), (19, .int .i64 (j : Nat)), (35, .int .u64 od), (37, .pointer (some ⟨γ318 0, 6, none⟩)), (46, .bool false)]) (fun _ => bx (γ318 0) (#[.int .i64 x317.r.id, .int .i64 x317.r.each, .int .u64 x317.r.th, .int .u64 x317.r.tl, .int .u64 x317.r.tw, .int .i64 x317.w.id, .int .u64 x317.w.ord, .bool x317.w.fresh]) 78 :: bx (γ227 0) (#[.slice po nu co, .int .u64 x317.r.th, .int .u64 x317.r.tl, .int .u64 x317.r.tw, .int .u64 od, .bool false]) 47 :: bx (γ1 0) (#[.slice none 0 0, .int .u64 0, .int .u64 0, .int .u64 0, .int .u64 0, .bool false]) 47 :: (Yo ++ [])) ?_ (fun hmx8 => ?_)
     ·
      rintro _ _
      refine a1 4 rfl ?_
      refine qo0 1 [(4, .go (owns 0 6 1))] [2, 3, 5, 17, 18, 19, 35, 46] [(38, .int .u64 x317.w.ord)] ?_
      refine od_ ?_
      refine tk (m := 3) [5, 13] [] [2, 3, 5, 17, 18, 19, 46] [(39, .int .u64 (if (x317.w.ord : Int) < (od : Int) then x317.w.ord else od)), (47, .pointer (some ⟨γ227 0, 4, none⟩))] ([]) #[true, true, true, true, true, true, true, true, true, true, true, true, true, true, false, false, false] al0 ?_
      exact wk (hmx12 () trivial) [2, 3, 5, 17, 18, 19, 39, 46, 47] [[_], [_], [_], _] [0, 1, 2, 3] rfl rfl
     refine any_cutX (V := Unit) (fun _ => True) 7 #[true, false, true, true, false, false, true, true, true, true, true, true, true, false, false, false, false] (fun _ => [(2, .pointer (some ⟨γ1 0, 0, none⟩)), (3, .pointer (some ⟨γ227 0, 0, none⟩)), (5, .pointer (some ⟨γ318 0, 0, none⟩)), (17, .slice p n cap), (18, .int .i64 (n : Nat)), (19, .int .i64 (j : Nat)), (34, .pointer (some ⟨γ227 0, 4, none⟩)), (37, .pointer (some ⟨γ318 0, 6, none⟩)), (46, .bool false)]) (fun _ => bx (γ318 0) (#[.int .i64 x317.r.id, .int .i64 x317.r.each, .int .u64 x317.r.th, .int .u64 x317.r.tl, .int .u64 x317.r.tw, .int .i64 x317.w.id, .int .u64 x317.w.ord, .bool x317.w.fresh]) 78 :: bx (γ227 0) (#[.slice po nu co, .int .u64 x317.r.th, .int .u64 x317.r.tl, .int .u64 x317.r.tw, .int .u64 od, .bool false]) 47 :: bx (γ1 0) (#[.slice none 0 0, .int .u64 0, .int .u64 0, .int .u64 0, .int .u64 0, .bool false]) 47 :: (Yo ++ [])) ?_ (fun hmx7 => ?_)
     ·
      rintro _ _
      refine any_fork [1, 4] (by kernel_rfl) (by simp) (each_cons _ rfl ?_ (each_cons _ rfl ?_ (each_nil)))
      ·
       refine qo0 1 [(1, .go (owns 1 4 1))] [2, 3, 5, 17, 18, 19, 37, 46] [(35, .int .u64 od)] ?_
       refine od_ ?_
       exact wk (hmx8 () trivial) [2, 3, 5, 17, 18, 19, 35, 37, 46] [[_], [_], [_], _] [0, 1, 2, 3] rfl rfl
      ·
       refine qo0 1 [(4, .go (owns 0 6 1))] [2, 3, 5, 17, 18, 19, 34, 46] [(38, .int .u64 x317.w.ord)] ?_
       refine od_ ?_
       exact wk (hmx9 () trivial) [2, 3, 5, 17, 18, 19, 34, 38, 46] [[_], [_], [_], _] [0, 1, 2, 3] rfl rfl
     refine any_cutX (V := Unit) (fun _ => True) 8 #[true, false, true, true, true, false, true, true, true, true, true, false, false, false, false, false, false] (fun _ => [(2, .pointer (some ⟨γ1 0, 0, none⟩)), (3, .pointer (some ⟨γ227 0, 0, none⟩)), (5, .pointer (some ⟨γ318 0, 0, none⟩)), (17, .slice p n cap), (18, .int .i64 (n : Nat)), (19, .int .i64 (j : Nat)), (34, .pointer (some ⟨γ227 0, 4, none⟩)), (38, .int .u64 x317.w.ord), (42, .bool false), (44, undef)]) (fun _ => bx (γ318 0) (#[.int .i64 x317.r.id, .int .i64 x317.r.each, .int .u64 x317.r.th, .int .u64 x317.r.tl, .int .u64 x317.r.tw, .int .i64 x317.w.id, .int .u64 x317.w.ord, .bool x317.w.fresh]) 78 :: bx (γ227 0) (#[.slice po nu co, .int .u64 x317.r.th, .int .u64 x317.r.tl, .int .u64 x317.r.tw, .int .u64 od, .bool false]) 47 :: bx (γ1 0) (#[.slice none 0 0, .int .u64 0, .int .u64 0, .int .u64 0, .int .u64 0, .bool false]) 47 :: (Yo ++ [])) ?_ (fun hmx6 => ?_)
     ·
      rintro _ _
      refine any_fork [1, 11] (by kernel_rfl) (by simp) (each_cons _ rfl ?_ (each_cons _ rfl ?_ (each_nil)))
      ·
       refine qo0 1 [(1, .go (owns 1 4 1))] [2, 3, 5, 17, 18, 19, 38, 42, 44] [(35, .int .u64 od)] ?_
       refine od_ ?_
       refine tk (m := 5) [5, 13] [] [2, 3, 5, 17, 18, 19, 42, 44] [(39, .int .u64 (if (x317.w.ord : Int) < (od : Int) then x317.w.ord else od)), (47, .pointer (some ⟨γ227 0, 4, none⟩))] ([]) #[true, true, true, true, true, true, true, true, true, true, true, false, false, true, false, false, false] al0 ?_
       exact wk (hmx10 () trivial) [2, 3, 5, 17, 18, 19, 39, 42, 44, 47] [[_], [_], [_], _] [0, 1, 2, 3] rfl rfl
      ·
       refine qo0 1 [] [2, 3, 5, 17, 18, 19, 34, 38, 42] [(45, undef)] ?_
       refine od_ ?_
       refine tk (m := 6) [12] [] [2, 3, 5, 17, 18, 19, 34, 38] [(46, .bool false)] ([]) #[true, false, true, true, true, false, true, true, true, true, true, true, true, false, false, false, false] al0 ?_
       exact wk (hmx9 () trivial) [2, 3, 5, 17, 18, 19, 34, 38, 46] [[_], [_], [_], _] [0, 1, 2, 3] rfl rfl
     refine any_cutX (V := Unit) (fun _ => True) 8 #[true, true, true, true, false, false, true, true, true, true, true, false, false, false, false, false, false] (fun _ => [(2, .pointer (some ⟨γ1 0, 0, none⟩)), (3, .pointer (some ⟨γ227 0, 0, none⟩)), (5, .pointer (some ⟨γ318 0, 0, none⟩)), (17, .slice p n cap), (18, .int .i64 (n : Nat)), (19, .int .i64 (j : Nat)), (35, .int .u64 od), (37, .pointer (some ⟨γ318 0, 6, none⟩)), (42, .bool false), (44, undef)]) (fun _ => bx (γ318 0) (#[.int .i64 x317.r.id, .int .i64 x317.r.each, .int .u64 x317.r.th, .int .u64 x317.r.tl, .int .u64 x317.r.tw, .int .i64 x317.w.id, .int .u64 x317.w.ord, .bool x317.w.fresh]) 78 :: bx (γ227 0) (#[.slice po nu co, .int .u64 x317.r.th, .int .u64 x317.r.tl, .int .u64 x317.r.tw, .int .u64 od, .bool false]) 47 :: bx (γ1 0) (#[.slice none 0 0, .int .u64 0, .int .u64 0, .int .u64 0, .int .u64 0, .bool false]) 47 :: (Yo ++ [])) ?_ (fun hmx5 => ?_)
     ·
      rintro _ _
      refine any_fork [4, 11] (by kernel_rfl) (by simp) (each_cons _ rfl ?_ (each_cons _ rfl ?_ (each_nil)))
      ·
       refine qo0 1 [(4, .go (owns 0 6 1))] [2, 3, 5, 17, 18, 19, 35, 42, 44] [(38, .int .u64 x317.w.ord)] ?_
       refine od_ ?_
       refine tk (m := 5) [5, 13] [] [2, 3, 5, 17, 18, 19, 42, 44] [(39, .int .u64 (if (x317.w.ord : Int) < (od : Int) then x317.w.ord else od)), (47, .pointer (some ⟨γ227 0, 4, none⟩))] ([]) #[true, true, true, true, true, true, true, true, true, true, true, false, false, true, false, false, false] al0 ?_
       exact wk (hmx10 () trivial) [2, 3, 5, 17, 18, 19, 39, 42, 44, 47] [[_], [_], [_], _] [0, 1, 2, 3] rfl rfl
      ·
       refine qo0 1 [] [2, 3, 5, 17, 18, 19, 35, 37, 42] [(45, undef)] ?_
       refine od_ ?_
       refine tk (m := 6) [12] [] [2, 3, 5, 17, 18, 19, 35, 37] [(46, .bool false)] ([]) #[true, true, true, true, false, false, true, true, true, true, true, true, true, false, false, false, false] al0 ?_
       exact wk (hmx8 () trivial) [2, 3, 5, 17, 18, 19, 35, 37, 46] [[_], [_], [_], _] [0, 1, 2, 3] rfl rfl
     refine any_cutX (V := Unit) (fun _ => True) 9 #[true, false, true, true, false, false, true, true, true, true, true, false, false, false, false, false, false] (fun _ => [(2, .pointer (some ⟨γ1 0, 0, none⟩)), (3, .pointer (some ⟨γ227 0, 0, none⟩)), (5, .pointer (some ⟨γ318 0, 0, none⟩)), (17, .slice p n cap), (18, .int .i64 (n : Nat)), (19, .int .i64 (j : Nat)), (34, .pointer (some ⟨γ227 0, 4, none⟩)), (37, .pointer (some ⟨γ318 0, 6, none⟩)), (42, .bool false), (44, undef)]) (fun _ => bx (γ318 0) (#[.int .i64 x317.r.id, .int .i64 x317.r.each, .int .u64 x317.r.th, .int .u64 x317.r.tl, .int .u64 x317.r.tw, .int .i64 x317.w.id, .int .u64 x317.w.ord, .bool x317.w.fresh]) 78 :: bx (γ227 0) (#[.slice po nu co, .int .u64 x317.r.th, .int .u64 x317.r.tl, .int .u64 x317.r.tw, .int .u64 od, .bool false]) 47 :: bx (γ1 0) (#[.slice none 0 0, .int .u64 0, .int .u64 0, .int .u64 0, .int .u64 0, .bool false]) 47 :: (Yo ++ [])) ?_ (fun hmx4 => ?_)
     ·
      rintro _ _
      refine any_fork [1, 4, 11] (by kernel_rfl) (by simp) (each_cons _ rfl ?_ (each_cons _ rfl ?_ (each_cons _ rfl ?_ (each_nil))))
      ·
       refine qo0 1 [(1, .go (owns 1 4 1))] [2, 3, 5, 17, 18, 19, 37, 42, 44] [(35, .int .u64 od)] ?_
       refine od_ ?_
       exact wk (hmx5 () trivial) [2, 3, 5, 17, 18, 19, 35, 37, 42, 44] [[_], [_], [_], _] [0, 1, 2, 3] rfl rfl
      ·
       refine qo0 1 [(4, .go (owns 0 6 1))] [2, 3, 5, 17, 18, 19, 34, 42, 44] [(38, .int .u64 x317.w.ord)] ?_
       refine od_ ?_
       exact wk (hmx6 () trivial) [2, 3, 5, 17, 18, 19, 34, 38, 42, 44] [[_], [_], [_], _] [0, 1, 2, 3] rfl rfl
      ·
       refine qo0 1 [] [2, 3, 5, 17, 18, 19, 34, 37, 42] [(45, undef)] ?_
       refine od_ ?_
       refine tk (m := 7) [12] [] [2, 3, 5, 17, 18, 19, 34, 37] [(46, .bool false)] ([]) #[true, false, true, true, false, false, true, true, true, true, true, true, true, false, false, false, false] al0 ?_
       exact wk (hmx7 () trivial) [2, 3, 5, 17, 18, 19, 34, 37, 46] [[_], [_], [_], _] [0, 1, 2, 3] rfl rfl
     refine any_cutX (V := Unit) (fun _ => True) 10 #[true, true, true, true, true, true, true, false, false, false, false, false, false, false, false, false, false] (fun _ => [(2, .pointer (some ⟨γ1 0, 0, none⟩)), (3, .pointer (some ⟨γ227 0, 0, none⟩)), (5, .pointer (some ⟨γ318 0, 0, none⟩)), (17, .slice p n cap), (18, .int .i64 (n : Nat)), (19, .int .i64 (j : Nat)), (39, .int .u64 (if (x317.w.ord : Int) < (od : Int) then x317.w.ord else od)), (40, .pointer (some ⟨γ227 0, 5, none⟩))]) (fun _ => bx (γ318 0) (#[.int .i64 x317.r.id, .int .i64 x317.r.each, .int .u64 x317.r.th, .int .u64 x317.r.tl, .int .u64 x317.r.tw, .int .i64 x317.w.id, .int .u64 x317.w.ord, .bool x317.w.fresh]) 78 :: bx (γ227 0) (#[.slice po nu co, .int .u64 x317.r.th, .int .u64 x317.r.tl, .int .u64 x317.r.tw, .int .u64 od, .bool false]) 47 :: bx (γ1 0) (#[.slice none 0 0, .int .u64 0, .int .u64 0, .int .u64 0, .int .u64 0, .bool false]) 47 :: (Yo ++ [])) ?_ (fun hmx3 => ?_)
     ·
      rintro _ _
      refine a1 7 rfl ?_
      refine qo0 1 [(7, .go (owns 1 5 1))] [2, 3, 5, 17, 18, 19, 39] [(41, .bool false)] ?_
      refine od_ ?_
      refine tk (m := 5) [8, 9, 10, 13] [] [2, 3, 5, 17, 18, 19, 39] [(42, .bool false), (44, undef), (47, .pointer (some ⟨γ227 0, 4, none⟩))] ([]) #[true, true, true, true, true, true, true, true, true, true, true, false, false, true, false, false, false] al0 ?_
      exact wk (hmx10 () trivial) [2, 3, 5, 17, 18, 19, 39, 42, 44, 47] [[_], [_], [_], _] [0, 1, 2, 3] rfl rfl
     refine any_cutX (V := Unit) (fun _ => True) 12 #[true, false, true, true, true, false, true, false, false, false, false, false, false, false, false, false, false] (fun _ => [(2, .pointer (some ⟨γ1 0, 0, none⟩)), (3, .pointer (some ⟨γ227 0, 0, none⟩)), (5, .pointer (some ⟨γ318 0, 0, none⟩)), (17, .slice p n cap), (18, .int .i64 (n : Nat)), (19, .int .i64 (j : Nat)), (34, .pointer (some ⟨γ227 0, 4, none⟩)), (38, .int .u64 x317.w.ord), (40, .pointer (some ⟨γ227 0, 5, none⟩))]) (fun _ => bx (γ318 0) (#[.int .i64 x317.r.id, .int .i64 x317.r.each, .int .u64 x317.r.th, .int .u64 x317.r.tl, .int .u64 x317.r.tw, .int .i64 x317.w.id, .int .u64 x317.w.ord, .bool x317.w.fresh]) 78 :: bx (γ227 0) (#[.slice po nu co, .int .u64 x317.r.th, .int .u64 x317.r.tl, .int .u64 x317.r.tw, .int .u64 od, .bool false]) 47 :: bx (γ1 0) (#[.slice none 0 0, .int .u64 0, .int .u64 0, .int .u64 0, .int .u64 0, .bool false]) 47 :: (Yo ++ [])) ?_ (fun hmx2 => ?_)
     ·
      rintro _ _
      refine any_fork [1, 7] (by kernel_rfl) (by simp) (each_cons _ rfl ?_ (each_cons _ rfl ?_ (each_nil)))
      ·
       refine qo0 1 [(1, .go (owns 1 4 1))] [2, 3, 5, 17, 18, 19, 38, 40] [(35, .int .u64 od)] ?_
       refine od_ ?_
       refine tk (m := 10) [5] [] [2, 3, 5, 17, 18, 19, 40] [(39, .int .u64 (if (x317.w.ord : Int) < (od : Int) then x317.w.ord else od))] ([]) #[true, true, true, true, true, true, true, false, false, false, false, false, false, false, false, false, false] al0 ?_
       exact wk (hmx3 () trivial) [2, 3, 5, 17, 18, 19, 39, 40] [[_], [_], [_], _] [0, 1, 2, 3] rfl rfl
      ·
       refine qo0 1 [(7, .go (owns 1 5 1))] [2, 3, 5, 17, 18, 19, 34, 38] [(41, .bool false)] ?_
       refine od_ ?_
       refine tk (m := 8) [8, 9, 10] [] [2, 3, 5, 17, 18, 19, 34, 38] [(42, .bool false), (44, undef)] ([]) #[true, false, true, true, true, false, true, true, true, true, true, false, false, false, false, false, false] al0 ?_
       exact wk (hmx6 () trivial) [2, 3, 5, 17, 18, 19, 34, 38, 42, 44] [[_], [_], [_], _] [0, 1, 2, 3] rfl rfl
     refine any_cutX (V := Unit) (fun _ => True) 12 #[true, true, true, true, false, false, true, false, false, false, false, false, false, false, false, false, false] (fun _ => [(2, .pointer (some ⟨γ1 0, 0, none⟩)), (3, .pointer (some ⟨γ227 0, 0, none⟩)), (5, .pointer (some ⟨γ318 0, 0, none⟩)), (17, .slice p n cap), (18, .int .i64 (n : Nat)), (19, .int .i64 (j : Nat)), (35, .int .u64 od), (37, .pointer (some ⟨γ318 0, 6, none⟩)), (40, .pointer (some ⟨γ227 0, 5, none⟩))]) (fun _ => bx (γ318 0) (#[.int .i64 x317.r.id, .int .i64 x317.r.each, .int .u64 x317.r.th, .int .u64 x317.r.tl, .int .u64 x317.r.tw, .int .i64 x317.w.id, .int .u64 x317.w.ord, .bool x317.w.fresh]) 78 :: bx (γ227 0) (#[.slice po nu co, .int .u64 x317.r.th, .int .u64 x317.r.tl, .int .u64 x317.r.tw, .int .u64 od, .bool false]) 47 :: bx (γ1 0) (#[.slice none 0 0, .int .u64 0, .int .u64 0, .int .u64 0, .int .u64 0, .bool false]) 47 :: (Yo ++ [])) ?_ (fun hmx1 => ?_)
     ·
      rintro _ _
      refine any_fork [4, 7] (by kernel_rfl) (by simp) (each_cons _ rfl ?_ (each_cons _ rfl ?_ (each_nil)))
      ·
       refine qo0 1 [(4, .go (owns 0 6 1))] [2, 3, 5, 17, 18, 19, 35, 40] [(38, .int .u64 x317.w.ord)] ?_
       refine od_ ?_
       refine tk (m := 10) [5] [] [2, 3, 5, 17, 18, 19, 40] [(39, .int .u64 (if (x317.w.ord : Int) < (od : Int) then x317.w.ord else od))] ([]) #[true, true, true, true, true, true, true, false, false, false, false, false, false, false, false, false, false] al0 ?_
       exact wk (hmx3 () trivial) [2, 3, 5, 17, 18, 19, 39, 40] [[_], [_], [_], _] [0, 1, 2, 3] rfl rfl
      ·
       refine qo0 1 [(7, .go (owns 1 5 1))] [2, 3, 5, 17, 18, 19, 35, 37] [(41, .bool false)] ?_
       refine od_ ?_
       refine tk (m := 8) [8, 9, 10] [] [2, 3, 5, 17, 18, 19, 35, 37] [(42, .bool false), (44, undef)] ([]) #[true, true, true, true, false, false, true, true, true, true, true, false, false, false, false, false, false] al0 ?_
       exact wk (hmx5 () trivial) [2, 3, 5, 17, 18, 19, 35, 37, 42, 44] [[_], [_], [_], _] [0, 1, 2, 3] rfl rfl
     refine any_fork [1, 4, 7] (by kernel_rfl) (by simp) (each_cons _ rfl ?_ (each_cons _ rfl ?_ (each_cons _ rfl ?_ (each_nil))))
     ·
      refine qo0 1 [(1, .go (owns 1 4 1))] [2, 3, 5, 17, 18, 19, 37, 40] [(35, .int .u64 od)] ?_
      refine od_ ?_
      exact wk (hmx1 () trivial) [2, 3, 5, 17, 18, 19, 35, 37, 40] [[_], [_], [_], _] [0, 1, 2, 3] rfl rfl
     ·
      refine qo0 1 [(4, .go (owns 0 6 1))] [2, 3, 5, 17, 18, 19, 34, 40] [(38, .int .u64 x317.w.ord)] ?_
      refine od_ ?_
      exact wk (hmx2 () trivial) [2, 3, 5, 17, 18, 19, 34, 38, 40] [[_], [_], [_], _] [0, 1, 2, 3] rfl rfl
     ·
      refine qo0 1 [(7, .go (owns 1 5 1))] [2, 3, 5, 17, 18, 19, 34, 37] [(41, .bool false)] ?_
      refine od_ ?_
      refine tk (m := 9) [8, 9, 10] [] [2, 3, 5, 17, 18, 19, 34, 37] [(42, .bool false), (44, undef)] ([]) #[true, false, true, true, false, false, true, true, true, true, true, false, false, false, false, false, false] al0 ?_
      exact wk (hmx4 () trivial) [2, 3, 5, 17, 18, 19, 34, 37, 42, 44] [[_], [_], [_], _] [0, 1, 2, 3] rfl rfl
    rintro _ _
    refine any_nil (by kernel_rfl) ?_
    refine ds_ (ao_ (mo0 6 [(1, .go (owns 1 0 1)), (4, .go (owns 0 0 1))] [2, 3, 17, 18, 19] (fun γ733 => [(50, .slice po nu co), (54, .slice (some ⟨γ733 0, 0, none⟩) 1 1)]) (fun γ733 L => bx (γ733 0) (#[.int .i64 x317.r.id]) 3 :: L) (fun γ733 => ops_append (α := Int) [bx (γ733 0) (#[.int .i64 x317.r.id]) 3, bx (γ318 0) (#[.int .i64 x317.r.id, .int .i64 x317.r.each, .int .u64 x317.r.th, .int .u64 x317.r.tl, .int .u64 x317.r.tw, .int .i64 x317.w.id, .int .u64 x317.w.ord, .bool x317.w.fresh]) 78, bx (γ227 0) (#[.slice po nu co, .int .u64 x317.r.th, .int .u64 x317.r.tl, .int .u64 x317.r.tw, .int .u64 (if (x317.w.ord : Int) < (od : Int) then x317.w.ord else od), .bool false]) 47, bx (γ1 0) (#[.slice none 0 0, .int .u64 0, .int .u64 0, .int .u64 0, .int .u64 0, .bool false]) 47] Yo ([]) (.refl _) rfl (by kernel_rfl) (by kernel_rfl) (p := po) (n := nu) (cap := co) (m := 1) (yv := .slice (some ⟨γ733 0, 0, none⟩) 1 1) (by kernel_rfl) (by kernel_rfl) (T := 3) (by_ := 8) (by kernel_rfl) (memP l j) ([x317.r.id]) hO (fun w hw => src_svn Try.underlying40 (sv_row (hw.row 0 rfl) (by rfl)) (by rfl)) (by rfl) (by have hmx : maxLen = 9223372036854775807 := rfl; omega) (by have hmx : maxLen = 9223372036854775807 := rfl; omega) (fun Y734 p734 cap734 hO734 => mo0 2 [(8, .go (owns 2 0 1))] [2, 3, 17, 18, 19] (fun _ => []) (fun _ L => (L.set 2 (bx (γ227 0) (#[.slice p734 (nu + 1) cap734, .int .u64 x317.r.th, .int .u64 x317.r.tl, .int .u64 x317.r.tw, .int .u64 (if (x317.w.ord : Int) < (od : Int) then x317.w.ord else od), .bool false]) 47))) (fun _ => on_ (done_block (ds_ (qa [(0, .fit)] [2, 3, 17, 18] [(19, .int .i64 (j + 1 : Nat))] ([Fit .i64 ((j + 1 : Nat))]) (al1 (fit64 (by omega) (by omega))) (Done.pick [[bx (γ733 0) (#[.int .i64 x317.r.id]) 3], [bx (γ318 0) (#[.int .i64 x317.r.id, .int .i64 x317.r.each, .int .u64 x317.r.th, .int .u64 x317.r.tl, .int .u64 x317.r.tw, .int .i64 x317.w.id, .int .u64 x317.w.ord, .bool x317.w.fresh]) 78], [bx (γ227 0) (#[.slice p734 (nu + 1) cap734, .int .u64 x317.r.th, .int .u64 x317.r.tl, .int .u64 x317.r.tw, .int .u64 (if (x317.w.ord : Int) < (od : Int) then x317.w.ord else od), .bool false]) 47], [bx (γ1 0) (#[.slice none 0 0, .int .u64 0, .int .u64 0, .int .u64 0, .int .u64 0, .bool false]) 47], Y734] [2, 3, 4] [0, 1] (bx (γ227 0) (#[.slice p734 (nu + 1) cap734, .int .u64 x317.r.th, .int .u64 x317.r.tl, .int .u64 x317.r.tw, .int .u64 (if (x317.w.ord : Int) < (od : Int) then x317.w.ord else od), .bool false]) 47 :: bx (γ1 0) (#[.slice none 0 0, .int .u64 0, .int .u64 0, .int .u64 0, .int .u64 0, .bool false]) 47 :: (Y734 ++ [])) (by kernel_rfl) rfl rfl ?_)))))))))
    exact dr [2, 3, 17, 18, 19] (j + 1, Y734, p734, (nu + 1), cap734, x317.r.t, (if (x317.w.ord : Int) < (od : Int) then x317.w.ord else od), false) ⟨by omega, by omega, hUx317.r.t, one_onT hx317 hE (by rw [if_pos (by omega)]) rfl (by rw [q324]; rfl), by rw [memP_on hx317]; exact hO734⟩
   ·
    refine at_any (by kernel_rfl) ?_
    refine tk (m := 13) [0, 2, 3, 6] [] [2, 3, 5, 17, 18, 19] [(34, .pointer (some ⟨γ227 0, 4, none⟩)), (37, .pointer (some ⟨γ318 0, 6, none⟩)), (40, .pointer (some ⟨γ227 0, 5, none⟩))] ([]) #[true, false, true, true, false, false, true, false, false, false, false, false, false, false, false, false, false] al0 ?_
    refine any_cutX (V := Unit) (fun _ => True) 0 #[true, true, true, true, true, true, true, true, true, true, true, true, true, true, true, true, true] (fun _ => [(2, .pointer (some ⟨γ1 0, 0, none⟩)), (3, .pointer (some ⟨γ227 0, 0, none⟩)), (5, .pointer (some ⟨γ318 0, 0, none⟩)), (17, .slice p n cap), (18, .int .i64 (n : Nat)), (19, .int .i64 (j : Nat))]) (fun _ => bx (γ318 0) (#[.int .i64 x317.r.id, .int .i64 x317.r.each, .int .u64 x317.r.th, .int .u64 x317.r.tl, .int .u64 x317.r.tw, .int .i64 x317.w.id, .int .u64 x317.w.ord, .bool x317.w.fresh]) 78 :: bx (γ227 0) (#[.slice po nu co, .int .u64 x317.r.th, .int .u64 x317.r.tl, .int .u64 x317.r.tw, .int .u64 (if (x317.w.ord : Int) < (od : Int) then x317.w.ord else od), .bool x317.w.fresh]) 47 :: bx (γ1 0) (#[.slice none 0 0, .int .u64 0, .int .u64 0, .int .u64 0, .int .u64 0, .bool false]) 47 :: (Yo ++ [])) ?_ (fun hmx14 => ?_)
    rotate_left
    ·
     refine any_cutX (V := Unit) (fun _ => True) 1 #[true, true, true, true, true, true, true, true, true, true, true, true, true, true, true, true, false] (fun _ => [(2, .pointer (some ⟨γ1 0, 0, none⟩)), (3, .pointer (some ⟨γ227 0, 0, none⟩)), (5, .pointer (some ⟨γ318 0, 0, none⟩)), (17, .slice p n cap), (18, .int .i64 (n : Nat)), (19, .int .i64 (j : Nat)), (46, .bool x317.w.fresh), (48, .pointer (some ⟨γ227 0, 5, none⟩))]) (fun _ => bx (γ318 0) (#[.int .i64 x317.r.id, .int .i64 x317.r.each, .int .u64 x317.r.th, .int .u64 x317.r.tl, .int .u64 x317.r.tw, .int .i64 x317.w.id, .int .u64 x317.w.ord, .bool x317.w.fresh]) 78 :: bx (γ227 0) (#[.slice po nu co, .int .u64 x317.r.th, .int .u64 x317.r.tl, .int .u64 x317.r.tw, .int .u64 (if (x317.w.ord : Int) < (od : Int) then x317.w.ord else od), .bool true]) 47 :: bx (γ1 0) (#[.slice none 0 0, .int .u64 0, .int .u64 0, .int .u64 0, .int .u64 0, .bool false]) 47 :: (Yo ++ [])) ?_ (fun hmx13 => ?_)
     ·
      rintro _ _
      refine a1 16 rfl ?_
      refine mo0 1 [(16, .go (owns 1 5 1))] [2, 3, 5, 17, 18, 19] (fun _ => []) (fun _ L => (L.set 1 (bx (γ227 0) (#[.slice po nu co, .int .u64 x317.r.th, .int .u64 x317.r.tl, .int .u64 x317.r.tw, .int .u64 (if (x317.w.ord : Int) < (od : Int) then x317.w.ord else od), .bool x317.w.fresh]) 47))) (fun _ => ?_)
      refine od_ ?_
      exact wk (hmx14 () trivial) [2, 3, 5, 17, 18, 19] [[_], [_], [_], _] [0, 1, 2, 3] rfl rfl
     refine any_cutX (V := Unit) (fun _ => True) 3 #[true, true, true, true, true, true, true, true, true, true, true, true, true, true, false, false, false] (fun _ => [(2, .pointer (some ⟨γ1 0, 0, none⟩)), (3, .pointer (some ⟨γ227 0, 0, none⟩)), (5, .pointer (some ⟨γ318 0, 0, none⟩)), (17, .slice p n cap), (18, .int .i64 (n : Nat)), (19, .int .i64 (j : Nat)), (39, .int .u64 (if (x317.w.ord : Int) < (od : Int) then x317.w.ord else od)), (46, .bool x317.w.fresh), (47, .pointer (some ⟨γ227 0, 4, none⟩))]) (fun _ => bx (γ318 0) (#[.int .i64 x317.r.id, .int .i64 x317.r.each, .int .u64 x317.r.th, .int .u64 x317.r.tl, .int .u64 x317.r.tw, .int .i64 x317.w.id, .int .u64 x317.w.ord, .bool x317.w.fresh]) 78 :: bx (γ227 0) (#[.slice po nu co, .int .u64 x317.r.th, .int .u64 x317.r.tl, .int .u64 x317.r.tw, .int .u64 od, .bool true]) 47 :: bx (γ1 0) (#[.slice none 0 0, .int .u64 0, .int .u64 0, .int .u64 0, .int .u64 0, .bool false]) 47 :: (Yo ++ [])) ?_ (fun hmx12 => ?_)
     ·
      rintro _ _
      refine a1 14 rfl ?_
      refine mo0 1 [(14, .go (owns 1 4 1))] [2, 3, 5, 17, 18, 19, 46] (fun _ => []) (fun _ L => (L.set 1 (bx (γ227 0) (#[.slice po nu co, .int .u64 x317.r.th, .int .u64 x317.r.tl, .int .u64 x317.r.tw, .int .u64 (if (x317.w.ord : Int) < (od : Int) then x317.w.ord else od), .bool true]) 47))) (fun _ => ?_)
      refine od_ ?_
      refine tk (m := 1) [15] [] [2, 3, 5, 17, 18, 19, 46] [(48, .pointer (some ⟨γ227 0, 5, none⟩))] ([]) #[true, true, true, true, true, true, true, true, true, true, true, true, true, true, true, true, false] al0 ?_
      exact wk (hmx13 () trivial) [2, 3, 5, 17, 18, 19, 46, 48] [[_], [_], [_], _] [0, 1, 2, 3] rfl rfl
     refine any_cutX (V := Unit) (fun _ => True) 4 #[true, true, true, true, true, true, true, true, true, true, true, false, false, true, true, false, false] (fun _ => [(2, .pointer (some ⟨γ1 0, 0, none⟩)), (3, .pointer (some ⟨γ227 0, 0, none⟩)), (5, .pointer (some ⟨γ318 0, 0, none⟩)), (17, .slice p n cap), (18, .int .i64 (n : Nat)), (19, .int .i64 (j : Nat)), (42, .bool true), (44, .pointer (some ⟨γ318 0, 7, none⟩))]) (fun _ => bx (γ318 0) (#[.int .i64 x317.r.id, .int .i64 x317.r.each, .int .u64 x317.r.th, .int .u64 x317.r.tl, .int .u64 x317.r.tw, .int .i64 x317.w.id, .int .u64 x317.w.ord, .bool x317.w.fresh]) 78 :: bx (γ227 0) (#[.slice po nu co, .int .u64 x317.r.th, .int .u64 x317.r.tl, .int .u64 x317.r.tw, .int .u64 (if (x317.w.ord : Int) < (od : Int) then x317.w.ord else od), .bool true]) 47 :: bx (γ1 0) (#[.slice none 0 0, .int .u64 0, .int .u64 0, .int .u64 0, .int .u64 0, .bool false]) 47 :: (Yo ++ [])) ?_ (fun hmx11 => ?_)
     ·
      rintro _ _
      refine a1 11 rfl ?_
      refine qo0 1 [(11, .go (owns 0 7 1))] [2, 3, 5, 17, 18, 19, 42] [(45, .bool x317.w.fresh)] ?_
      refine od_ ?_
      refine tk (m := 1) [12, 15] [] [2, 3, 5, 17, 18, 19] [(46, .bool x317.w.fresh), (48, .pointer (some ⟨γ227 0, 5, none⟩))] ([]) #[true, true, true, true, true, true, true, true, true, true, true, true, true, true, true, true, false] al0 ?_
      exact wk (hmx13 () trivial) [2, 3, 5, 17, 18, 19, 46, 48] [[_], [_], [_], _] [0, 1, 2, 3] rfl rfl
     refine any_cutX (V := Unit) (fun _ => True) 5 #[true, true, true, true, true, true, true, true, true, true, true, false, false, true, false, false, false] (fun _ => [(2, .pointer (some ⟨γ1 0, 0, none⟩)), (3, .pointer (some ⟨γ227 0, 0, none⟩)), (5, .pointer (some ⟨γ318 0, 0, none⟩)), (17, .slice p n cap), (18, .int .i64 (n : Nat)), (19, .int .i64 (j : Nat)), (39, .int .u64 (if (x317.w.ord : Int) < (od : Int) then x317.w.ord else od)), (42, .bool true), (44, .pointer (some ⟨γ318 0, 7, none⟩)), (47, .pointer (some ⟨γ227 0, 4, none⟩))]) (fun _ => bx (γ318 0) (#[.int .i64 x317.r.id, .int .i64 x317.r.each, .int .u64 x317.r.th, .int .u64 x317.r.tl, .int .u64 x317.r.tw, .int .i64 x317.w.id, .int .u64 x317.w.ord, .bool x317.w.fresh]) 78 :: bx (γ227 0) (#[.slice po nu co, .int .u64 x317.r.th, .int .u64 x317.r.tl, .int .u64 x317.r.tw, .int .u64 od, .bool true]) 47 :: bx (γ1 0) (#[.slice none 0 0, .int .u64 0, .int .u64 0, .int .u64 0, .int .u64 0, .bool false]) 47 :: (Yo ++ [])) ?_ (fun hmx10 => ?_)
     ·
      rintro _ _
      refine any_fork [11, 14] (by kernel_rfl) (by simp) (each_cons _ rfl ?_ (each_cons _ rfl ?_ (each_nil)))
      ·
       refine qo0 1 [(11, .go (owns 0 7 1))] [2, 3, 5, 17, 18, 19, 39, 42, 47] [(45, .bool x317.w.fresh)] ?_
       refine od_ ?_
       refine tk (m := 3) [12] [] [2, 3, 5, 17, 18, 19, 39, 47] [(46, .bool x317.w.fresh)] ([]) #[true, true, true, true, true, true, true, true, true, true, true, true, true, true, false, false, false] al0 ?_
       exact wk (hmx12 () trivial) [2, 3, 5, 17, 18, 19, 39, 46, 47] [[_], [_], [_], _] [0, 1, 2, 3] rfl rfl
      ·
       refine mo0 1 [(14, .go (owns 1 4 1))] [2, 3, 5, 17, 18, 19, 42, 44] (fun _ => []) (fun _ L => (L.set 1 (bx (γ227 0) (#[.slice po nu co, .int .u64 x317.r.th, .int .u64 x317.r.tl, .int .u64 x317.r.tw, .int .u64 (if (x317.w.ord : Int) < (od : Int) then x317.w.ord else od), .bool true]) 47))) (fun _ => ?_)
       refine od_ ?_
       exact wk (hmx11 () trivial) [2, 3, 5, 17, 18, 19, 42, 44] [[_], [_], [_], _] [0, 1, 2, 3] rfl rfl
     refine any_cutX (V := Unit) (fun _ => True) 6 #[true, false, true, true, true, false, true, true, true, true, true, true, true, false, false, false, false] (fun _ => [(2, .pointer (some ⟨γ1 0, 0, none⟩)), (3, .pointer (some ⟨γ227 0, 0, none⟩)), (5, .pointer (some ⟨γ318 0, 0, none⟩)), (17, .slice p n cap), (18, .int .i64 (n : Nat)), (19, .int .i64 (j : Nat)), (34, .pointer (some ⟨γ227 0, 4, none⟩)), (38, .int .u64 x317.w.ord), (46, .bool x317.w.fresh)]) (fun _ => bx (γ318 0) (#[.int .i64 x317.r.id, .int .i64 x317.r.each, .int .u64 x317.r.th, .int .u64 x317.r.tl, .int .u64 x317.r.tw, .int .i64 x317.w.id, .int .u64 x317.w.ord, .bool x317.w.fresh]) 78 :: bx (γ227 0) (#[.slice po nu co, .int .u64 x317.r.th, .int .u64 x317.r.tl, .int .u64 x317.r.tw, .int .u64 od, .bool true]) 47 :: bx (γ1 0) (#[.slice none 0 0, .int .u64 0, .int .u64 0, .int .u64 0, .int .u64 0, .bool false]) 47 :: (Yo ++ [])) ?_ (fun hmx9 => ?_)
     ·
      rintro _ _
      refine a1 1 rfl ?_
      refine qo0 1 [(1, .go (owns 1 4 1))] [2, 3, 5, 17, 18, 19, 38, 46] [(35, .int .u64 od)] ?_
      refine od_ ?_
      refine tk (m := 3) [5, 13] [] [2, 3, 5, 17, 18, 19, 46] [(39, .int .u64 (if (x317.w.ord : Int) < (od : Int) then x317.w.ord else od)), (47, .pointer (some ⟨γ227 0, 4, none⟩))] ([]) #[true, true, true, true, true, true, true, true, true, true, true, true, true, true, false, false, false] al0 ?_
      exact wk (hmx12 () trivial) [2, 3, 5, 17, 18, 19, 39, 46, 47] [[_], [_], [_], _] [0, 1, 2, 3] rfl rfl
     refine any_cutX (V := Unit) (fun _ => True) 6 #[true, true, true, true, false, false, true, true, true, true, true, true, true, false, false, false, false] (fun _ => [(2, .pointer (some ⟨γ1 0, 0, none⟩)), (3, .pointer (some ⟨γ227 0, 0, none⟩)), (5, .pointer (some ⟨γ318 0, 0, none⟩)), (17, .slice p n cap), (18, .int .i64 (n : Nat)), (19, .int .i64 (j : Nat)), (35, .int .u64 od), (37, .pointer (some ⟨γ318 0, 6, none⟩)), (46, .bool x317.w.fresh)]) (fun _ => bx (γ318 0) (#[.int .i64 x317.r.id, .int .i64 x317.r.each, .int .u64 x317.r.th, .int .u64 x317.r.tl, .int .u64 x317.r.tw, .int .i64 x317.w.id, .int .u64 x317.w.ord, .bool x317.w.fresh]) 78 :: bx (γ227 0) (#[.slice po nu co, .int .u64 x317.r.th, .int .u64 x317.r.tl, .int .u64 x317.r.tw, .int .u64 od, .bool true]) 47 :: bx (γ1 0) (#[.slice none 0 0, .int .u64 0, .int .u64 0, .int .u64 0, .int .u64 0, .bool false]) 47 :: (Yo ++ [])) ?_ (fun hmx8 => ?_)
     ·
      rintro _ _
      refine a1 4 rfl ?_
      refine qo0 1 [(4, .go (owns 0 6 1))] [2, 3, 5, 17, 18, 19, 35, 46] [(38, .int .u64 x317.w.ord)] ?_
      refine od_ ?_
      refine tk (m := 3) [5, 13] [] [2, 3, 5, 17, 18, 19, 46] [(39, .int .u64 (if (x317.w.ord : Int) < (od : Int) then x317.w.ord else od)), (47, .pointer (some ⟨γ227 0, 4, none⟩))] ([]) #[true, true, true, true, true, true, true, true, true, true, true, true, true, true, false, false, false] al0 ?_
      exact wk (hmx12 () trivial) [2, 3, 5, 17, 18, 19, 39, 46, 47] [[_], [_], [_], _] [0, 1, 2, 3] rfl rfl
     refine any_cutX (V := Unit) (fun _ => True) 7 #[true, false, true, true, false, false, true, true, true, true, true, true, true, false, false, false, false] (fun _ => [(2, .pointer (some ⟨γ1 0, 0, none⟩)), (3, .pointer (some ⟨γ227 0, 0, none⟩)), (5, .pointer (some ⟨γ318 0, 0, none⟩)), (17, .slice p n cap), (18, .int .i64 (n : Nat)), (19, .int .i64 (j : Nat)), (34, .pointer (some ⟨γ227 0, 4, none⟩)), (37, .pointer (some ⟨γ318 0, 6, none⟩)), (46, .bool x317.w.fresh)]) (fun _ => bx (γ318 0) (#[.int .i64 x317.r.id, .int .i64 x317.r.each, .int .u64 x317.r.th, .int .u64 x317.r.tl, .int .u64 x317.r.tw, .int .i64 x317.w.id, .int .u64 x317.w.ord, .bool x317.w.fresh]) 78 :: bx (γ227 0) (#[.slice po nu co, .int .u64 x317.r.th, .int .u64 x317.r.tl, .int .u64 x317.r.tw, .int .u64 od, .bool true]) 47 :: bx (γ1 0) (#[.slice none 0 0, .int .u64 0, .int .u64 0, .int .u64 0, .int .u64 0, .bool false]) 47 :: (Yo ++ [])) ?_ (fun hmx7 => ?_)
     ·
      rintro _ _
      refine any_fork [1, 4] (by kernel_rfl) (by simp) (each_cons _ rfl ?_ (each_cons _ rfl ?_ (each_nil)))
      ·
       refine qo0 1 [(1, .go (owns 1 4 1))] [2, 3, 5, 17, 18, 19, 37, 46] [(35, .int .u64 od)] ?_
       refine od_ ?_
       exact wk (hmx8 () trivial) [2, 3, 5, 17, 18, 19, 35, 37, 46] [[_], [_], [_], _] [0, 1, 2, 3] rfl rfl
      ·
       refine qo0 1 [(4, .go (owns 0 6 1))] [2, 3, 5, 17, 18, 19, 34, 46] [(38, .int .u64 x317.w.ord)] ?_
       refine od_ ?_
       exact wk (hmx9 () trivial) [2, 3, 5, 17, 18, 19, 34, 38, 46] [[_], [_], [_], _] [0, 1, 2, 3] rfl rfl
     refine any_cutX (V := Unit) (fun _ => True) 8 #[true, false, true, true, true, false, true, true, true, true, true, false, false, false, false, false, false] (fun _ => [(2, .pointer (some ⟨γ1 0, 0, none⟩)), (3, .pointer (some ⟨γ227 0, 0, none⟩)), (5, .pointer (some ⟨γ318 0, 0, none⟩)), (17, .slice p n cap), (18, .int .i64 (n : Nat)), (19, .int .i64 (j : Nat)), (34, .pointer (some ⟨γ227 0, 4, none⟩)), (38, .int .u64 x317.w.ord), (42, .bool true), (44, .pointer (some ⟨γ318 0, 7, none⟩))]) (fun _ => bx (γ318 0) (#[.int .i64 x317.r.id, .int .i64 x317.r.each, .int .u64 x317.r.th, .int .u64 x317.r.tl, .int .u64 x317.r.tw, .int .i64 x317.w.id, .int .u64 x317.w.ord, .bool x317.w.fresh]) 78 :: bx (γ227 0) (#[.slice po nu co, .int .u64 x317.r.th, .int .u64 x317.r.tl, .int .u64 x317.r.tw, .int .u64 od, .bool true]) 47 :: bx (γ1 0) (#[.slice none 0 0, .int .u64 0, .int .u64 0, .int .u64 0, .int .u64 0, .bool false]) 47 :: (Yo ++ [])) ?_ (fun hmx6 => ?_)
     ·
      rintro _ _
      refine any_fork [1, 11] (by kernel_rfl) (by simp) (each_cons _ rfl ?_ (each_cons _ rfl ?_ (each_nil)))
      ·
       refine qo0 1 [(1, .go (owns 1 4 1))] [2, 3, 5, 17, 18, 19, 38, 42, 44] [(35, .int .u64 od)] ?_
       refine od_ ?_
       refine tk (m := 5) [5, 13] [] [2, 3, 5, 17, 18, 19, 42, 44] [(39, .int .u64 (if (x317.w.ord : Int) < (od : Int) then x317.w.ord else od)), (47, .pointer (some ⟨γ227 0, 4, none⟩))] ([]) #[true, true, true, true, true, true, true, true, true, true, true, false, false, true, false, false, false] al0 ?_
       exact wk (hmx10 () trivial) [2, 3, 5, 17, 18, 19, 39, 42, 44, 47] [[_], [_], [_], _] [0, 1, 2, 3] rfl rfl
      ·
       refine qo0 1 [(11, .go (owns 0 7 1))] [2, 3, 5, 17, 18, 19, 34, 38, 42] [(45, .bool x317.w.fresh)] ?_
       refine od_ ?_
       refine tk (m := 6) [12] [] [2, 3, 5, 17, 18, 19, 34, 38] [(46, .bool x317.w.fresh)] ([]) #[true, false, true, true, true, false, true, true, true, true, true, true, true, false, false, false, false] al0 ?_
       exact wk (hmx9 () trivial) [2, 3, 5, 17, 18, 19, 34, 38, 46] [[_], [_], [_], _] [0, 1, 2, 3] rfl rfl
     refine any_cutX (V := Unit) (fun _ => True) 8 #[true, true, true, true, false, false, true, true, true, true, true, false, false, false, false, false, false] (fun _ => [(2, .pointer (some ⟨γ1 0, 0, none⟩)), (3, .pointer (some ⟨γ227 0, 0, none⟩)), (5, .pointer (some ⟨γ318 0, 0, none⟩)), (17, .slice p n cap), (18, .int .i64 (n : Nat)), (19, .int .i64 (j : Nat)), (35, .int .u64 od), (37, .pointer (some ⟨γ318 0, 6, none⟩)), (42, .bool true), (44, .pointer (some ⟨γ318 0, 7, none⟩))]) (fun _ => bx (γ318 0) (#[.int .i64 x317.r.id, .int .i64 x317.r.each, .int .u64 x317.r.th, .int .u64 x317.r.tl, .int .u64 x317.r.tw, .int .i64 x317.w.id, .int .u64 x317.w.ord, .bool x317.w.fresh]) 78 :: bx (γ227 0) (#[.slice po nu co, .int .u64 x317.r.th, .int .u64 x317.r.tl, .int .u64 x317.r.tw, .int .u64 od, .bool true]) 47 :: bx (γ1 0) (#[.slice none 0 0, .int .u64 0, .int .u64 0, .int .u64 0, .int .u64 0, .bool false]) 47 :: (Yo ++ [])) ?_ (fun hmx5 => ?_)
     ·
      rintro _ _
      refine any_fork [4, 11] (by kernel_rfl) (by simp) (each_cons _ rfl ?_ (each_cons _ rfl ?_ (each_nil)))
      ·
       refine qo0 1 [(4, .go (owns 0 6 1))] [2, 3, 5, 17, 18, 19, 35, 42, 44] [(38, .int .u64 x317.w.ord)] ?_
       refine od_ ?_
       refine tk (m := 5) [5, 13] [] [2, 3, 5, 17, 18, 19, 42, 44] [(39, .int .u64 (if (x317.w.ord : Int) < (od : Int) then x317.w.ord else od)), (47, .pointer (some ⟨γ227 0, 4, none⟩))] ([]) #[true, true, true, true, true, true, true, true, true, true, true, false, false, true, false, false, false] al0 ?_
       exact wk (hmx10 () trivial) [2, 3, 5, 17, 18, 19, 39, 42, 44, 47] [[_], [_], [_], _] [0, 1, 2, 3] rfl rfl
      ·
       refine qo0 1 [(11, .go (owns 0 7 1))] [2, 3, 5, 17, 18, 19, 35, 37, 42] [(45, .bool x317.w.fresh)] ?_
       refine od_ ?_
       refine tk (m := 6) [12] [] [2, 3, 5, 17, 18, 19, 35, 37] [(46, .bool x317.w.fresh)] ([]) #[true, true, true, true, false, false, true, true, true, true, true, true, true, false, false, false, false] al0 ?_
       exact wk (hmx8 () trivial) [2, 3, 5, 17, 18, 19, 35, 37, 46] [[_], [_], [_], _] [0, 1, 2, 3] rfl rfl
     refine any_cutX (V := Unit) (fun _ => True) 9 #[true, false, true, true, false, false, true, true, true, true, true, false, false, false, false, false, false] (fun _ => [(2, .pointer (some ⟨γ1 0, 0, none⟩)), (3, .pointer (some ⟨γ227 0, 0, none⟩)), (5, .pointer (some ⟨γ318 0, 0, none⟩)), (17, .slice p n cap), (18, .int .i64 (n : Nat)), (19, .int .i64 (j : Nat)), (34, .pointer (some ⟨γ227 0, 4, none⟩)), (37, .pointer (some ⟨γ318 0, 6, none⟩)), (42, .bool true), (44, .pointer (some ⟨γ318 0, 7, none⟩))]) (fun _ => bx (γ318 0) (#[.int .i64 x317.r.id, .int .i64 x317.r.each, .int .u64 x317.r.th, .int .u64 x317.r.tl, .int .u64 x317.r.tw, .int .i64 x317.w.id, .int .u64 x317.w.ord, .bool x317.w.fresh]) 78 :: bx (γ227 0) (#[.slice po nu co, .int .u64 x317.r.th, .int .u64 x317.r.tl, .int .u64 x317.r.tw, .int .u64 od, .bool true]) 47 :: bx (γ1 0) (#[.slice none 0 0, .int .u64 0, .int .u64 0, .int .u64 0, .int .u64 0, .bool false]) 47 :: (Yo ++ [])) ?_ (fun hmx4 => ?_)
     ·
      rintro _ _
      refine any_fork [1, 4, 11] (by kernel_rfl) (by simp) (each_cons _ rfl ?_ (each_cons _ rfl ?_ (each_cons _ rfl ?_ (each_nil))))
      ·
       refine qo0 1 [(1, .go (owns 1 4 1))] [2, 3, 5, 17, 18, 19, 37, 42, 44] [(35, .int .u64 od)] ?_
       refine od_ ?_
       exact wk (hmx5 () trivial) [2, 3, 5, 17, 18, 19, 35, 37, 42, 44] [[_], [_], [_], _] [0, 1, 2, 3] rfl rfl
      ·
       refine qo0 1 [(4, .go (owns 0 6 1))] [2, 3, 5, 17, 18, 19, 34, 42, 44] [(38, .int .u64 x317.w.ord)] ?_
       refine od_ ?_
       exact wk (hmx6 () trivial) [2, 3, 5, 17, 18, 19, 34, 38, 42, 44] [[_], [_], [_], _] [0, 1, 2, 3] rfl rfl
      ·
       refine qo0 1 [(11, .go (owns 0 7 1))] [2, 3, 5, 17, 18, 19, 34, 37, 42] [(45, .bool x317.w.fresh)] ?_
       refine od_ ?_
       refine tk (m := 7) [12] [] [2, 3, 5, 17, 18, 19, 34, 37] [(46, .bool x317.w.fresh)] ([]) #[true, false, true, true, false, false, true, true, true, true, true, true, true, false, false, false, false] al0 ?_
       exact wk (hmx7 () trivial) [2, 3, 5, 17, 18, 19, 34, 37, 46] [[_], [_], [_], _] [0, 1, 2, 3] rfl rfl
     refine any_cutX (V := Unit) (fun _ => True) 10 #[true, true, true, true, true, true, true, false, false, false, false, false, false, false, false, false, false] (fun _ => [(2, .pointer (some ⟨γ1 0, 0, none⟩)), (3, .pointer (some ⟨γ227 0, 0, none⟩)), (5, .pointer (some ⟨γ318 0, 0, none⟩)), (17, .slice p n cap), (18, .int .i64 (n : Nat)), (19, .int .i64 (j : Nat)), (39, .int .u64 (if (x317.w.ord : Int) < (od : Int) then x317.w.ord else od)), (40, .pointer (some ⟨γ227 0, 5, none⟩))]) (fun _ => bx (γ318 0) (#[.int .i64 x317.r.id, .int .i64 x317.r.each, .int .u64 x317.r.th, .int .u64 x317.r.tl, .int .u64 x317.r.tw, .int .i64 x317.w.id, .int .u64 x317.w.ord, .bool x317.w.fresh]) 78 :: bx (γ227 0) (#[.slice po nu co, .int .u64 x317.r.th, .int .u64 x317.r.tl, .int .u64 x317.r.tw, .int .u64 od, .bool true]) 47 :: bx (γ1 0) (#[.slice none 0 0, .int .u64 0, .int .u64 0, .int .u64 0, .int .u64 0, .bool false]) 47 :: (Yo ++ [])) ?_ (fun hmx3 => ?_)
     ·
      rintro _ _
      refine a1 7 rfl ?_
      refine qo0 1 [(7, .go (owns 1 5 1))] [2, 3, 5, 17, 18, 19, 39] [(41, .bool true)] ?_
      refine od_ ?_
      refine tk (m := 5) [8, 9, 10, 13] [] [2, 3, 5, 17, 18, 19, 39] [(42, .bool true), (44, .pointer (some ⟨γ318 0, 7, none⟩)), (47, .pointer (some ⟨γ227 0, 4, none⟩))] ([]) #[true, true, true, true, true, true, true, true, true, true, true, false, false, true, false, false, false] al0 ?_
      exact wk (hmx10 () trivial) [2, 3, 5, 17, 18, 19, 39, 42, 44, 47] [[_], [_], [_], _] [0, 1, 2, 3] rfl rfl
     refine any_cutX (V := Unit) (fun _ => True) 12 #[true, false, true, true, true, false, true, false, false, false, false, false, false, false, false, false, false] (fun _ => [(2, .pointer (some ⟨γ1 0, 0, none⟩)), (3, .pointer (some ⟨γ227 0, 0, none⟩)), (5, .pointer (some ⟨γ318 0, 0, none⟩)), (17, .slice p n cap), (18, .int .i64 (n : Nat)), (19, .int .i64 (j : Nat)), (34, .pointer (some ⟨γ227 0, 4, none⟩)), (38, .int .u64 x317.w.ord), (40, .pointer (some ⟨γ227 0, 5, none⟩))]) (fun _ => bx (γ318 0) (#[.int .i64 x317.r.id, .int .i64 x317.r.each, .int .u64 x317.r.th, .int .u64 x317.r.tl, .int .u64 x317.r.tw, .int .i64 x317.w.id, .int .u64 x317.w.ord, .bool x317.w.fresh]) 78 :: bx (γ227 0) (#[.slice po nu co, .int .u64 x317.r.th, .int .u64 x317.r.tl, .int .u64 x317.r.tw, .int .u64 od, .bool true]) 47 :: bx (γ1 0) (#[.slice none 0 0, .int .u64 0, .int .u64 0, .int .u64 0, .int .u64 0, .bool false]) 47 :: (Yo ++ [])) ?_ (fun hmx2 => ?_)
     ·
      rintro _ _
      refine any_fork [1, 7] (by kernel_rfl) (by simp) (each_cons _ rfl ?_ (each_cons _ rfl ?_ (each_nil)))
      ·
       refine qo0 1 [(1, .go (owns 1 4 1))] [2, 3, 5, 17, 18, 19, 38, 40] [(35, .int .u64 od)] ?_
       refine od_ ?_
       refine tk (m := 10) [5] [] [2, 3, 5, 17, 18, 19, 40] [(39, .int .u64 (if (x317.w.ord : Int) < (od : Int) then x317.w.ord else od))] ([]) #[true, true, true, true, true, true, true, false, false, false, false, false, false, false, false, false, false] al0 ?_
       exact wk (hmx3 () trivial) [2, 3, 5, 17, 18, 19, 39, 40] [[_], [_], [_], _] [0, 1, 2, 3] rfl rfl
      ·
       refine qo0 1 [(7, .go (owns 1 5 1))] [2, 3, 5, 17, 18, 19, 34, 38] [(41, .bool true)] ?_
       refine od_ ?_
       refine tk (m := 8) [8, 9, 10] [] [2, 3, 5, 17, 18, 19, 34, 38] [(42, .bool true), (44, .pointer (some ⟨γ318 0, 7, none⟩))] ([]) #[true, false, true, true, true, false, true, true, true, true, true, false, false, false, false, false, false] al0 ?_
       exact wk (hmx6 () trivial) [2, 3, 5, 17, 18, 19, 34, 38, 42, 44] [[_], [_], [_], _] [0, 1, 2, 3] rfl rfl
     refine any_cutX (V := Unit) (fun _ => True) 12 #[true, true, true, true, false, false, true, false, false, false, false, false, false, false, false, false, false] (fun _ => [(2, .pointer (some ⟨γ1 0, 0, none⟩)), (3, .pointer (some ⟨γ227 0, 0, none⟩)), (5, .pointer (some ⟨γ318 0, 0, none⟩)), (17, .slice p n cap), (18, .int .i64 (n : Nat)), (19, .int .i64 (j : Nat)), (35, .int .u64 od), (37, .pointer (some ⟨γ318 0, 6, none⟩)), (40, .pointer (some ⟨γ227 0, 5, none⟩))]) (fun _ => bx (γ318 0) (#[.int .i64 x317.r.id, .int .i64 x317.r.each, .int .u64 x317.r.th, .int .u64 x317.r.tl, .int .u64 x317.r.tw, .int .i64 x317.w.id, .int .u64 x317.w.ord, .bool x317.w.fresh]) 78 :: bx (γ227 0) (#[.slice po nu co, .int .u64 x317.r.th, .int .u64 x317.r.tl, .int .u64 x317.r.tw, .int .u64 od, .bool true]) 47 :: bx (γ1 0) (#[.slice none 0 0, .int .u64 0, .int .u64 0, .int .u64 0, .int .u64 0, .bool false]) 47 :: (Yo ++ [])) ?_ (fun hmx1 => ?_)
     ·
      rintro _ _
      refine any_fork [4, 7] (by kernel_rfl) (by simp) (each_cons _ rfl ?_ (each_cons _ rfl ?_ (each_nil)))
      ·
       refine qo0 1 [(4, .go (owns 0 6 1))] [2, 3, 5, 17, 18, 19, 35, 40] [(38, .int .u64 x317.w.ord)] ?_
       refine od_ ?_
       refine tk (m := 10) [5] [] [2, 3, 5, 17, 18, 19, 40] [(39, .int .u64 (if (x317.w.ord : Int) < (od : Int) then x317.w.ord else od))] ([]) #[true, true, true, true, true, true, true, false, false, false, false, false, false, false, false, false, false] al0 ?_
       exact wk (hmx3 () trivial) [2, 3, 5, 17, 18, 19, 39, 40] [[_], [_], [_], _] [0, 1, 2, 3] rfl rfl
      ·
       refine qo0 1 [(7, .go (owns 1 5 1))] [2, 3, 5, 17, 18, 19, 35, 37] [(41, .bool true)] ?_
       refine od_ ?_
       refine tk (m := 8) [8, 9, 10] [] [2, 3, 5, 17, 18, 19, 35, 37] [(42, .bool true), (44, .pointer (some ⟨γ318 0, 7, none⟩))] ([]) #[true, true, true, true, false, false, true, true, true, true, true, false, false, false, false, false, false] al0 ?_
       exact wk (hmx5 () trivial) [2, 3, 5, 17, 18, 19, 35, 37, 42, 44] [[_], [_], [_], _] [0, 1, 2, 3] rfl rfl
     refine any_fork [1, 4, 7] (by kernel_rfl) (by simp) (each_cons _ rfl ?_ (each_cons _ rfl ?_ (each_cons _ rfl ?_ (each_nil))))
     ·
      refine qo0 1 [(1, .go (owns 1 4 1))] [2, 3, 5, 17, 18, 19, 37, 40] [(35, .int .u64 od)] ?_
      refine od_ ?_
      exact wk (hmx1 () trivial) [2, 3, 5, 17, 18, 19, 35, 37, 40] [[_], [_], [_], _] [0, 1, 2, 3] rfl rfl
     ·
      refine qo0 1 [(4, .go (owns 0 6 1))] [2, 3, 5, 17, 18, 19, 34, 40] [(38, .int .u64 x317.w.ord)] ?_
      refine od_ ?_
      exact wk (hmx2 () trivial) [2, 3, 5, 17, 18, 19, 34, 38, 40] [[_], [_], [_], _] [0, 1, 2, 3] rfl rfl
     ·
      refine qo0 1 [(7, .go (owns 1 5 1))] [2, 3, 5, 17, 18, 19, 34, 37] [(41, .bool true)] ?_
      refine od_ ?_
      refine tk (m := 9) [8, 9, 10] [] [2, 3, 5, 17, 18, 19, 34, 37] [(42, .bool true), (44, .pointer (some ⟨γ318 0, 7, none⟩))] ([]) #[true, false, true, true, false, false, true, true, true, true, true, false, false, false, false, false, false] al0 ?_
      exact wk (hmx4 () trivial) [2, 3, 5, 17, 18, 19, 34, 37, 42, 44] [[_], [_], [_], _] [0, 1, 2, 3] rfl rfl
    rintro _ _
    refine any_nil (by kernel_rfl) ?_
    refine ds_ (ao_ (mo0 6 [(1, .go (owns 1 0 1)), (4, .go (owns 0 0 1))] [2, 3, 17, 18, 19] (fun γ1145 => [(50, .slice po nu co), (54, .slice (some ⟨γ1145 0, 0, none⟩) 1 1)]) (fun γ1145 L => bx (γ1145 0) (#[.int .i64 x317.r.id]) 3 :: L) (fun γ1145 => ops_append (α := Int) [bx (γ1145 0) (#[.int .i64 x317.r.id]) 3, bx (γ318 0) (#[.int .i64 x317.r.id, .int .i64 x317.r.each, .int .u64 x317.r.th, .int .u64 x317.r.tl, .int .u64 x317.r.tw, .int .i64 x317.w.id, .int .u64 x317.w.ord, .bool x317.w.fresh]) 78, bx (γ227 0) (#[.slice po nu co, .int .u64 x317.r.th, .int .u64 x317.r.tl, .int .u64 x317.r.tw, .int .u64 (if (x317.w.ord : Int) < (od : Int) then x317.w.ord else od), .bool x317.w.fresh]) 47, bx (γ1 0) (#[.slice none 0 0, .int .u64 0, .int .u64 0, .int .u64 0, .int .u64 0, .bool false]) 47] Yo ([]) (.refl _) rfl (by kernel_rfl) (by kernel_rfl) (p := po) (n := nu) (cap := co) (m := 1) (yv := .slice (some ⟨γ1145 0, 0, none⟩) 1 1) (by kernel_rfl) (by kernel_rfl) (T := 3) (by_ := 8) (by kernel_rfl) (memP l j) ([x317.r.id]) hO (fun w hw => src_svn Try.underlying40 (sv_row (hw.row 0 rfl) (by rfl)) (by rfl)) (by rfl) (by have hmx : maxLen = 9223372036854775807 := rfl; omega) (by have hmx : maxLen = 9223372036854775807 := rfl; omega) (fun Y1146 p1146 cap1146 hO1146 => mo0 2 [(8, .go (owns 2 0 1))] [2, 3, 17, 18, 19] (fun _ => []) (fun _ L => (L.set 2 (bx (γ227 0) (#[.slice p1146 (nu + 1) cap1146, .int .u64 x317.r.th, .int .u64 x317.r.tl, .int .u64 x317.r.tw, .int .u64 (if (x317.w.ord : Int) < (od : Int) then x317.w.ord else od), .bool x317.w.fresh]) 47))) (fun _ => on_ (done_block (ds_ (qa [(0, .fit)] [2, 3, 17, 18] [(19, .int .i64 (j + 1 : Nat))] ([Fit .i64 ((j + 1 : Nat))]) (al1 (fit64 (by omega) (by omega))) (Done.pick [[bx (γ1145 0) (#[.int .i64 x317.r.id]) 3], [bx (γ318 0) (#[.int .i64 x317.r.id, .int .i64 x317.r.each, .int .u64 x317.r.th, .int .u64 x317.r.tl, .int .u64 x317.r.tw, .int .i64 x317.w.id, .int .u64 x317.w.ord, .bool x317.w.fresh]) 78], [bx (γ227 0) (#[.slice p1146 (nu + 1) cap1146, .int .u64 x317.r.th, .int .u64 x317.r.tl, .int .u64 x317.r.tw, .int .u64 (if (x317.w.ord : Int) < (od : Int) then x317.w.ord else od), .bool x317.w.fresh]) 47], [bx (γ1 0) (#[.slice none 0 0, .int .u64 0, .int .u64 0, .int .u64 0, .int .u64 0, .bool false]) 47], Y1146] [2, 3, 4] [0, 1] (bx (γ227 0) (#[.slice p1146 (nu + 1) cap1146, .int .u64 x317.r.th, .int .u64 x317.r.tl, .int .u64 x317.r.tw, .int .u64 (if (x317.w.ord : Int) < (od : Int) then x317.w.ord else od), .bool x317.w.fresh]) 47 :: bx (γ1 0) (#[.slice none 0 0, .int .u64 0, .int .u64 0, .int .u64 0, .int .u64 0, .bool false]) 47 :: (Y1146 ++ [])) (by kernel_rfl) rfl rfl ?_)))))))))
    exact dr [2, 3, 17, 18, 19] (j + 1, Y1146, p1146, (nu + 1), cap1146, x317.r.t, (if (x317.w.ord : Int) < (od : Int) then x317.w.ord else od), x317.w.fresh) ⟨by omega, by omega, hUx317.r.t, one_onT hx317 hE (by rw [if_pos (by omega)]) rfl (by rw [q324]; rfl), by rw [memP_on hx317]; exact hO1146⟩
  ·
   refine qo 1 [(6, .no)] [2, 3, 5, 17, 18, 19] [(29, .bool false)] ([¬ (((cmpF x317.r.t f) : Int) > (0 : Int))]) (al1 q321) (on_ (ds_ (f_ (at_skip (ds_ (sq_ ?_))))))
   rcases q1150 : fb with _ | _
   ·
    refine at_any (by kernel_rfl) ?_
    refine tk (m := 13) [0, 2, 3, 6] [] [2, 3, 5, 17, 18, 19] [(34, .pointer (some ⟨γ227 0, 4, none⟩)), (37, .pointer (some ⟨γ318 0, 6, none⟩)), (40, .pointer (some ⟨γ227 0, 5, none⟩))] ([]) #[true, false, true, true, false, false, true, false, false, false, false, false, false, false, false, false, false] al0 ?_
    refine any_cutX (V := Unit) (fun _ => True) 0 #[true, true, true, true, true, true, true, true, true, true, true, true, true, true, true, true, true] (fun _ => [(2, .pointer (some ⟨γ1 0, 0, none⟩)), (3, .pointer (some ⟨γ227 0, 0, none⟩)), (5, .pointer (some ⟨γ318 0, 0, none⟩)), (17, .slice p n cap), (18, .int .i64 (n : Nat)), (19, .int .i64 (j : Nat))]) (fun _ => bx (γ318 0) (#[.int .i64 x317.r.id, .int .i64 x317.r.each, .int .u64 x317.r.th, .int .u64 x317.r.tl, .int .u64 x317.r.tw, .int .i64 x317.w.id, .int .u64 x317.w.ord, .bool x317.w.fresh]) 78 :: bx (γ227 0) (#[.slice po nu co, .int .u64 f.hi, .int .u64 f.lo, .int .u64 f.w, .int .u64 (if (x317.w.ord : Int) < (od : Int) then x317.w.ord else od), .bool false]) 47 :: bx (γ1 0) (#[.slice none 0 0, .int .u64 0, .int .u64 0, .int .u64 0, .int .u64 0, .bool false]) 47 :: (Yo ++ [])) ?_ (fun hmx14 => ?_)
    rotate_left
    ·
     refine any_cutX (V := Unit) (fun _ => True) 1 #[true, true, true, true, true, true, true, true, true, true, true, true, true, true, true, true, false] (fun _ => [(2, .pointer (some ⟨γ1 0, 0, none⟩)), (3, .pointer (some ⟨γ227 0, 0, none⟩)), (5, .pointer (some ⟨γ318 0, 0, none⟩)), (17, .slice p n cap), (18, .int .i64 (n : Nat)), (19, .int .i64 (j : Nat)), (46, .bool false), (48, .pointer (some ⟨γ227 0, 5, none⟩))]) (fun _ => bx (γ318 0) (#[.int .i64 x317.r.id, .int .i64 x317.r.each, .int .u64 x317.r.th, .int .u64 x317.r.tl, .int .u64 x317.r.tw, .int .i64 x317.w.id, .int .u64 x317.w.ord, .bool x317.w.fresh]) 78 :: bx (γ227 0) (#[.slice po nu co, .int .u64 f.hi, .int .u64 f.lo, .int .u64 f.w, .int .u64 (if (x317.w.ord : Int) < (od : Int) then x317.w.ord else od), .bool false]) 47 :: bx (γ1 0) (#[.slice none 0 0, .int .u64 0, .int .u64 0, .int .u64 0, .int .u64 0, .bool false]) 47 :: (Yo ++ [])) ?_ (fun hmx13 => ?_)
     ·
      rintro _ _
      refine a1 16 rfl ?_
      refine qo0 1 [(16, .go (owns 1 5 1))] [2, 3, 5, 17, 18, 19] [] ?_
      refine od_ ?_
      exact wk (hmx14 () trivial) [2, 3, 5, 17, 18, 19] [[_], [_], [_], _] [0, 1, 2, 3] rfl rfl
     refine any_cutX (V := Unit) (fun _ => True) 3 #[true, true, true, true, true, true, true, true, true, true, true, true, true, true, false, false, false] (fun _ => [(2, .pointer (some ⟨γ1 0, 0, none⟩)), (3, .pointer (some ⟨γ227 0, 0, none⟩)), (5, .pointer (some ⟨γ318 0, 0, none⟩)), (17, .slice p n cap), (18, .int .i64 (n : Nat)), (19, .int .i64 (j : Nat)), (39, .int .u64 (if (x317.w.ord : Int) < (od : Int) then x317.w.ord else od)), (46, .bool false), (47, .pointer (some ⟨γ227 0, 4, none⟩))]) (fun _ => bx (γ318 0) (#[.int .i64 x317.r.id, .int .i64 x317.r.each, .int .u64 x317.r.th, .int .u64 x317.r.tl, .int .u64 x317.r.tw, .int .i64 x317.w.id, .int .u64 x317.w.ord, .bool x317.w.fresh]) 78 :: bx (γ227 0) (#[.slice po nu co, .int .u64 f.hi, .int .u64 f.lo, .int .u64 f.w, .int .u64 od, .bool false]) 47 :: bx (γ1 0) (#[.slice none 0 0, .int .u64 0, .int .u64 0, .int .u64 0, .int .u64 0, .bool false]) 47 :: (Yo ++ [])) ?_ (fun hmx12 => ?_)
     ·
      rintro _ _
      refine a1 14 rfl ?_
      refine mo0 1 [(14, .go (owns 1 4 1))] [2, 3, 5, 17, 18, 19, 46] (fun _ => []) (fun _ L => (L.set 1 (bx (γ227 0) (#[.slice po nu co, .int .u64 f.hi, .int .u64 f.lo, .int .u64 f.w, .int .u64 (if (x317.w.ord : Int) < (od : Int) then x317.w.ord else od), .bool false]) 47))) (fun _ => ?_)
      refine od_ ?_
      refine tk (m := 1) [15] [] [2, 3, 5, 17, 18, 19, 46] [(48, .pointer (some ⟨γ227 0, 5, none⟩))] ([]) #[true, true, true, true, true, true, true, true, true, true, true, true, true, true, true, true, false] al0 ?_
      exact wk (hmx13 () trivial) [2, 3, 5, 17, 18, 19, 46, 48] [[_], [_], [_], _] [0, 1, 2, 3] rfl rfl
     refine any_cutX (V := Unit) (fun _ => True) 4 #[true, true, true, true, true, true, true, true, true, true, true, false, false, true, true, false, false] (fun _ => [(2, .pointer (some ⟨γ1 0, 0, none⟩)), (3, .pointer (some ⟨γ227 0, 0, none⟩)), (5, .pointer (some ⟨γ318 0, 0, none⟩)), (17, .slice p n cap), (18, .int .i64 (n : Nat)), (19, .int .i64 (j : Nat)), (42, .bool false), (44, undef)]) (fun _ => bx (γ318 0) (#[.int .i64 x317.r.id, .int .i64 x317.r.each, .int .u64 x317.r.th, .int .u64 x317.r.tl, .int .u64 x317.r.tw, .int .i64 x317.w.id, .int .u64 x317.w.ord, .bool x317.w.fresh]) 78 :: bx (γ227 0) (#[.slice po nu co, .int .u64 f.hi, .int .u64 f.lo, .int .u64 f.w, .int .u64 (if (x317.w.ord : Int) < (od : Int) then x317.w.ord else od), .bool false]) 47 :: bx (γ1 0) (#[.slice none 0 0, .int .u64 0, .int .u64 0, .int .u64 0, .int .u64 0, .bool false]) 47 :: (Yo ++ [])) ?_ (fun hmx11 => ?_)
     ·
      rintro _ _
      refine a1 11 rfl ?_
      refine qo0 1 [] [2, 3, 5, 17, 18, 19, 42] [(45, undef)] ?_
      refine od_ ?_
      refine tk (m := 1) [12, 15] [] [2, 3, 5, 17, 18, 19] [(46, .bool false), (48, .pointer (some ⟨γ227 0, 5, none⟩))] ([]) #[true, true, true, true, true, true, true, true, true, true, true, true, true, true, true, true, false] al0 ?_
      exact wk (hmx13 () trivial) [2, 3, 5, 17, 18, 19, 46, 48] [[_], [_], [_], _] [0, 1, 2, 3] rfl rfl
     refine any_cutX (V := Unit) (fun _ => True) 5 #[true, true, true, true, true, true, true, true, true, true, true, false, false, true, false, false, false] (fun _ => [(2, .pointer (some ⟨γ1 0, 0, none⟩)), (3, .pointer (some ⟨γ227 0, 0, none⟩)), (5, .pointer (some ⟨γ318 0, 0, none⟩)), (17, .slice p n cap), (18, .int .i64 (n : Nat)), (19, .int .i64 (j : Nat)), (39, .int .u64 (if (x317.w.ord : Int) < (od : Int) then x317.w.ord else od)), (42, .bool false), (44, undef), (47, .pointer (some ⟨γ227 0, 4, none⟩))]) (fun _ => bx (γ318 0) (#[.int .i64 x317.r.id, .int .i64 x317.r.each, .int .u64 x317.r.th, .int .u64 x317.r.tl, .int .u64 x317.r.tw, .int .i64 x317.w.id, .int .u64 x317.w.ord, .bool x317.w.fresh]) 78 :: bx (γ227 0) (#[.slice po nu co, .int .u64 f.hi, .int .u64 f.lo, .int .u64 f.w, .int .u64 od, .bool false]) 47 :: bx (γ1 0) (#[.slice none 0 0, .int .u64 0, .int .u64 0, .int .u64 0, .int .u64 0, .bool false]) 47 :: (Yo ++ [])) ?_ (fun hmx10 => ?_)
     ·
      rintro _ _
      refine any_fork [11, 14] (by kernel_rfl) (by simp) (each_cons _ rfl ?_ (each_cons _ rfl ?_ (each_nil)))
      ·
       refine qo0 1 [] [2, 3, 5, 17, 18, 19, 39, 42, 47] [(45, undef)] ?_
       refine od_ ?_
       refine tk (m := 3) [12] [] [2, 3, 5, 17, 18, 19, 39, 47] [(46, .bool false)] ([]) #[true, true, true, true, true, true, true, true, true, true, true, true, true, true, false, false, false] al0 ?_
       exact wk (hmx12 () trivial) [2, 3, 5, 17, 18, 19, 39, 46, 47] [[_], [_], [_], _] [0, 1, 2, 3] rfl rfl
      ·
       refine mo0 1 [(14, .go (owns 1 4 1))] [2, 3, 5, 17, 18, 19, 42, 44] (fun _ => []) (fun _ L => (L.set 1 (bx (γ227 0) (#[.slice po nu co, .int .u64 f.hi, .int .u64 f.lo, .int .u64 f.w, .int .u64 (if (x317.w.ord : Int) < (od : Int) then x317.w.ord else od), .bool false]) 47))) (fun _ => ?_)
       refine od_ ?_
       exact wk (hmx11 () trivial) [2, 3, 5, 17, 18, 19, 42, 44] [[_], [_], [_], _] [0, 1, 2, 3] rfl rfl
     refine any_cutX (V := Unit) (fun _ => True) 6 #[true, false, true, true, true, false, true, true, true, true, true, true, true, false, false, false, false] (fun _ => [(2, .pointer (some ⟨γ1 0, 0, none⟩)), (3, .pointer (some ⟨γ227 0, 0, none⟩)), (5, .pointer (some ⟨γ318 0, 0, none⟩)), (17, .slice p n cap), (18, .int .i64 (n : Nat)), (19, .int .i64 (j : Nat)), (34, .pointer (some ⟨γ227 0, 4, none⟩)), (38, .int .u64 x317.w.ord), (46, .bool false)]) (fun _ => bx (γ318 0) (#[.int .i64 x317.r.id, .int .i64 x317.r.each, .int .u64 x317.r.th, .int .u64 x317.r.tl, .int .u64 x317.r.tw, .int .i64 x317.w.id, .int .u64 x317.w.ord, .bool x317.w.fresh]) 78 :: bx (γ227 0) (#[.slice po nu co, .int .u64 f.hi, .int .u64 f.lo, .int .u64 f.w, .int .u64 od, .bool false]) 47 :: bx (γ1 0) (#[.slice none 0 0, .int .u64 0, .int .u64 0, .int .u64 0, .int .u64 0, .bool false]) 47 :: (Yo ++ [])) ?_ (fun hmx9 => ?_)
     ·
      rintro _ _
      refine a1 1 rfl ?_
      refine qo0 1 [(1, .go (owns 1 4 1))] [2, 3, 5, 17, 18, 19, 38, 46] [(35, .int .u64 od)] ?_
      refine od_ ?_
      refine tk (m := 3) [5, 13] [] [2, 3, 5, 17, 18, 19, 46] [(39, .int .u64 (if (x317.w.ord : Int) < (od : Int) then x317.w.ord else od)), (47, .pointer (some ⟨γ227 0, 4, none⟩))] ([]) #[true, true, true, true, true, true, true, true, true, true, true, true, true, true, false, false, false] al0 ?_
      exact wk (hmx12 () trivial) [2, 3, 5, 17, 18, 19, 39, 46, 47] [[_], [_], [_], _] [0, 1, 2, 3] rfl rfl
     refine any_cutX (V := Unit) (fun _ => True) 6 #[true, true, true, true, false, false, true, true, true, true, true, true, true, false, false, false, false] (fun _ => [(2, .pointer (some ⟨γ1 0, 0, none⟩)), (3, .pointer (some ⟨γ227 0, 0, none⟩)), (5, .pointer (some ⟨γ318 0, 0, none⟩)), (17, .slice p n cap), (18, .int .i64 (n : Nat)), (19, .int .i64 (j : Nat)), (35, .int .u64 od), (37, .pointer (some ⟨γ318 0, 6, none⟩)), (46, .bool false)]) (fun _ => bx (γ318 0) (#[.int .i64 x317.r.id, .int .i64 x317.r.each, .int .u64 x317.r.th, .int .u64 x317.r.tl, .int .u64 x317.r.tw, .int .i64 x317.w.id, .int .u64 x317.w.ord, .bool x317.w.fresh]) 78 :: bx (γ227 0) (#[.slice po nu co, .int .u64 f.hi, .int .u64 f.lo, .int .u64 f.w, .int .u64 od, .bool false]) 47 :: bx (γ1 0) (#[.slice none 0 0, .int .u64 0, .int .u64 0, .int .u64 0, .int .u64 0, .bool false]) 47 :: (Yo ++ [])) ?_ (fun hmx8 => ?_)
     ·
      rintro _ _
      refine a1 4 rfl ?_
      refine qo0 1 [(4, .go (owns 0 6 1))] [2, 3, 5, 17, 18, 19, 35, 46] [(38, .int .u64 x317.w.ord)] ?_
      refine od_ ?_
      refine tk (m := 3) [5, 13] [] [2, 3, 5, 17, 18, 19, 46] [(39, .int .u64 (if (x317.w.ord : Int) < (od : Int) then x317.w.ord else od)), (47, .pointer (some ⟨γ227 0, 4, none⟩))] ([]) #[true, true, true, true, true, true, true, true, true, true, true, true, true, true, false, false, false] al0 ?_
      exact wk (hmx12 () trivial) [2, 3, 5, 17, 18, 19, 39, 46, 47] [[_], [_], [_], _] [0, 1, 2, 3] rfl rfl
     refine any_cutX (V := Unit) (fun _ => True) 7 #[true, false, true, true, false, false, true, true, true, true, true, true, true, false, false, false, false] (fun _ => [(2, .pointer (some ⟨γ1 0, 0, none⟩)), (3, .pointer (some ⟨γ227 0, 0, none⟩)), (5, .pointer (some ⟨γ318 0, 0, none⟩)), (17, .slice p n cap), (18, .int .i64 (n : Nat)), (19, .int .i64 (j : Nat)), (34, .pointer (some ⟨γ227 0, 4, none⟩)), (37, .pointer (some ⟨γ318 0, 6, none⟩)), (46, .bool false)]) (fun _ => bx (γ318 0) (#[.int .i64 x317.r.id, .int .i64 x317.r.each, .int .u64 x317.r.th, .int .u64 x317.r.tl, .int .u64 x317.r.tw, .int .i64 x317.w.id, .int .u64 x317.w.ord, .bool x317.w.fresh]) 78 :: bx (γ227 0) (#[.slice po nu co, .int .u64 f.hi, .int .u64 f.lo, .int .u64 f.w, .int .u64 od, .bool false]) 47 :: bx (γ1 0) (#[.slice none 0 0, .int .u64 0, .int .u64 0, .int .u64 0, .int .u64 0, .bool false]) 47 :: (Yo ++ [])) ?_ (fun hmx7 => ?_)
     ·
      rintro _ _
      refine any_fork [1, 4] (by kernel_rfl) (by simp) (each_cons _ rfl ?_ (each_cons _ rfl ?_ (each_nil)))
      ·
       refine qo0 1 [(1, .go (owns 1 4 1))] [2, 3, 5, 17, 18, 19, 37, 46] [(35, .int .u64 od)] ?_
       refine od_ ?_
       exact wk (hmx8 () trivial) [2, 3, 5, 17, 18, 19, 35, 37, 46] [[_], [_], [_], _] [0, 1, 2, 3] rfl rfl
      ·
       refine qo0 1 [(4, .go (owns 0 6 1))] [2, 3, 5, 17, 18, 19, 34, 46] [(38, .int .u64 x317.w.ord)] ?_
       refine od_ ?_
       exact wk (hmx9 () trivial) [2, 3, 5, 17, 18, 19, 34, 38, 46] [[_], [_], [_], _] [0, 1, 2, 3] rfl rfl
     refine any_cutX (V := Unit) (fun _ => True) 8 #[true, false, true, true, true, false, true, true, true, true, true, false, false, false, false, false, false] (fun _ => [(2, .pointer (some ⟨γ1 0, 0, none⟩)), (3, .pointer (some ⟨γ227 0, 0, none⟩)), (5, .pointer (some ⟨γ318 0, 0, none⟩)), (17, .slice p n cap), (18, .int .i64 (n : Nat)), (19, .int .i64 (j : Nat)), (34, .pointer (some ⟨γ227 0, 4, none⟩)), (38, .int .u64 x317.w.ord), (42, .bool false), (44, undef)]) (fun _ => bx (γ318 0) (#[.int .i64 x317.r.id, .int .i64 x317.r.each, .int .u64 x317.r.th, .int .u64 x317.r.tl, .int .u64 x317.r.tw, .int .i64 x317.w.id, .int .u64 x317.w.ord, .bool x317.w.fresh]) 78 :: bx (γ227 0) (#[.slice po nu co, .int .u64 f.hi, .int .u64 f.lo, .int .u64 f.w, .int .u64 od, .bool false]) 47 :: bx (γ1 0) (#[.slice none 0 0, .int .u64 0, .int .u64 0, .int .u64 0, .int .u64 0, .bool false]) 47 :: (Yo ++ [])) ?_ (fun hmx6 => ?_)
     ·
      rintro _ _
      refine any_fork [1, 11] (by kernel_rfl) (by simp) (each_cons _ rfl ?_ (each_cons _ rfl ?_ (each_nil)))
      ·
       refine qo0 1 [(1, .go (owns 1 4 1))] [2, 3, 5, 17, 18, 19, 38, 42, 44] [(35, .int .u64 od)] ?_
       refine od_ ?_
       refine tk (m := 5) [5, 13] [] [2, 3, 5, 17, 18, 19, 42, 44] [(39, .int .u64 (if (x317.w.ord : Int) < (od : Int) then x317.w.ord else od)), (47, .pointer (some ⟨γ227 0, 4, none⟩))] ([]) #[true, true, true, true, true, true, true, true, true, true, true, false, false, true, false, false, false] al0 ?_
       exact wk (hmx10 () trivial) [2, 3, 5, 17, 18, 19, 39, 42, 44, 47] [[_], [_], [_], _] [0, 1, 2, 3] rfl rfl
      ·
       refine qo0 1 [] [2, 3, 5, 17, 18, 19, 34, 38, 42] [(45, undef)] ?_
       refine od_ ?_
       refine tk (m := 6) [12] [] [2, 3, 5, 17, 18, 19, 34, 38] [(46, .bool false)] ([]) #[true, false, true, true, true, false, true, true, true, true, true, true, true, false, false, false, false] al0 ?_
       exact wk (hmx9 () trivial) [2, 3, 5, 17, 18, 19, 34, 38, 46] [[_], [_], [_], _] [0, 1, 2, 3] rfl rfl
     refine any_cutX (V := Unit) (fun _ => True) 8 #[true, true, true, true, false, false, true, true, true, true, true, false, false, false, false, false, false] (fun _ => [(2, .pointer (some ⟨γ1 0, 0, none⟩)), (3, .pointer (some ⟨γ227 0, 0, none⟩)), (5, .pointer (some ⟨γ318 0, 0, none⟩)), (17, .slice p n cap), (18, .int .i64 (n : Nat)), (19, .int .i64 (j : Nat)), (35, .int .u64 od), (37, .pointer (some ⟨γ318 0, 6, none⟩)), (42, .bool false), (44, undef)]) (fun _ => bx (γ318 0) (#[.int .i64 x317.r.id, .int .i64 x317.r.each, .int .u64 x317.r.th, .int .u64 x317.r.tl, .int .u64 x317.r.tw, .int .i64 x317.w.id, .int .u64 x317.w.ord, .bool x317.w.fresh]) 78 :: bx (γ227 0) (#[.slice po nu co, .int .u64 f.hi, .int .u64 f.lo, .int .u64 f.w, .int .u64 od, .bool false]) 47 :: bx (γ1 0) (#[.slice none 0 0, .int .u64 0, .int .u64 0, .int .u64 0, .int .u64 0, .bool false]) 47 :: (Yo ++ [])) ?_ (fun hmx5 => ?_)
     ·
      rintro _ _
      refine any_fork [4, 11] (by kernel_rfl) (by simp) (each_cons _ rfl ?_ (each_cons _ rfl ?_ (each_nil)))
      ·
       refine qo0 1 [(4, .go (owns 0 6 1))] [2, 3, 5, 17, 18, 19, 35, 42, 44] [(38, .int .u64 x317.w.ord)] ?_
       refine od_ ?_
       refine tk (m := 5) [5, 13] [] [2, 3, 5, 17, 18, 19, 42, 44] [(39, .int .u64 (if (x317.w.ord : Int) < (od : Int) then x317.w.ord else od)), (47, .pointer (some ⟨γ227 0, 4, none⟩))] ([]) #[true, true, true, true, true, true, true, true, true, true, true, false, false, true, false, false, false] al0 ?_
       exact wk (hmx10 () trivial) [2, 3, 5, 17, 18, 19, 39, 42, 44, 47] [[_], [_], [_], _] [0, 1, 2, 3] rfl rfl
      ·
       refine qo0 1 [] [2, 3, 5, 17, 18, 19, 35, 37, 42] [(45, undef)] ?_
       refine od_ ?_
       refine tk (m := 6) [12] [] [2, 3, 5, 17, 18, 19, 35, 37] [(46, .bool false)] ([]) #[true, true, true, true, false, false, true, true, true, true, true, true, true, false, false, false, false] al0 ?_
       exact wk (hmx8 () trivial) [2, 3, 5, 17, 18, 19, 35, 37, 46] [[_], [_], [_], _] [0, 1, 2, 3] rfl rfl
     refine any_cutX (V := Unit) (fun _ => True) 9 #[true, false, true, true, false, false, true, true, true, true, true, false, false, false, false, false, false] (fun _ => [(2, .pointer (some ⟨γ1 0, 0, none⟩)), (3, .pointer (some ⟨γ227 0, 0, none⟩)), (5, .pointer (some ⟨γ318 0, 0, none⟩)), (17, .slice p n cap), (18, .int .i64 (n : Nat)), (19, .int .i64 (j : Nat)), (34, .pointer (some ⟨γ227 0, 4, none⟩)), (37, .pointer (some ⟨γ318 0, 6, none⟩)), (42, .bool false), (44, undef)]) (fun _ => bx (γ318 0) (#[.int .i64 x317.r.id, .int .i64 x317.r.each, .int .u64 x317.r.th, .int .u64 x317.r.tl, .int .u64 x317.r.tw, .int .i64 x317.w.id, .int .u64 x317.w.ord, .bool x317.w.fresh]) 78 :: bx (γ227 0) (#[.slice po nu co, .int .u64 f.hi, .int .u64 f.lo, .int .u64 f.w, .int .u64 od, .bool false]) 47 :: bx (γ1 0) (#[.slice none 0 0, .int .u64 0, .int .u64 0, .int .u64 0, .int .u64 0, .bool false]) 47 :: (Yo ++ [])) ?_ (fun hmx4 => ?_)
     ·
      rintro _ _
      refine any_fork [1, 4, 11] (by kernel_rfl) (by simp) (each_cons _ rfl ?_ (each_cons _ rfl ?_ (each_cons _ rfl ?_ (each_nil))))
      ·
       refine qo0 1 [(1, .go (owns 1 4 1))] [2, 3, 5, 17, 18, 19, 37, 42, 44] [(35, .int .u64 od)] ?_
       refine od_ ?_
       exact wk (hmx5 () trivial) [2, 3, 5, 17, 18, 19, 35, 37, 42, 44] [[_], [_], [_], _] [0, 1, 2, 3] rfl rfl
      ·
       refine qo0 1 [(4, .go (owns 0 6 1))] [2, 3, 5, 17, 18, 19, 34, 42, 44] [(38, .int .u64 x317.w.ord)] ?_
       refine od_ ?_
       exact wk (hmx6 () trivial) [2, 3, 5, 17, 18, 19, 34, 38, 42, 44] [[_], [_], [_], _] [0, 1, 2, 3] rfl rfl
      ·
       refine qo0 1 [] [2, 3, 5, 17, 18, 19, 34, 37, 42] [(45, undef)] ?_
       refine od_ ?_
       refine tk (m := 7) [12] [] [2, 3, 5, 17, 18, 19, 34, 37] [(46, .bool false)] ([]) #[true, false, true, true, false, false, true, true, true, true, true, true, true, false, false, false, false] al0 ?_
       exact wk (hmx7 () trivial) [2, 3, 5, 17, 18, 19, 34, 37, 46] [[_], [_], [_], _] [0, 1, 2, 3] rfl rfl
     refine any_cutX (V := Unit) (fun _ => True) 10 #[true, true, true, true, true, true, true, false, false, false, false, false, false, false, false, false, false] (fun _ => [(2, .pointer (some ⟨γ1 0, 0, none⟩)), (3, .pointer (some ⟨γ227 0, 0, none⟩)), (5, .pointer (some ⟨γ318 0, 0, none⟩)), (17, .slice p n cap), (18, .int .i64 (n : Nat)), (19, .int .i64 (j : Nat)), (39, .int .u64 (if (x317.w.ord : Int) < (od : Int) then x317.w.ord else od)), (40, .pointer (some ⟨γ227 0, 5, none⟩))]) (fun _ => bx (γ318 0) (#[.int .i64 x317.r.id, .int .i64 x317.r.each, .int .u64 x317.r.th, .int .u64 x317.r.tl, .int .u64 x317.r.tw, .int .i64 x317.w.id, .int .u64 x317.w.ord, .bool x317.w.fresh]) 78 :: bx (γ227 0) (#[.slice po nu co, .int .u64 f.hi, .int .u64 f.lo, .int .u64 f.w, .int .u64 od, .bool false]) 47 :: bx (γ1 0) (#[.slice none 0 0, .int .u64 0, .int .u64 0, .int .u64 0, .int .u64 0, .bool false]) 47 :: (Yo ++ [])) ?_ (fun hmx3 => ?_)
     ·
      rintro _ _
      refine a1 7 rfl ?_
      refine qo0 1 [(7, .go (owns 1 5 1))] [2, 3, 5, 17, 18, 19, 39] [(41, .bool false)] ?_
      refine od_ ?_
      refine tk (m := 5) [8, 9, 10, 13] [] [2, 3, 5, 17, 18, 19, 39] [(42, .bool false), (44, undef), (47, .pointer (some ⟨γ227 0, 4, none⟩))] ([]) #[true, true, true, true, true, true, true, true, true, true, true, false, false, true, false, false, false] al0 ?_
      exact wk (hmx10 () trivial) [2, 3, 5, 17, 18, 19, 39, 42, 44, 47] [[_], [_], [_], _] [0, 1, 2, 3] rfl rfl
     refine any_cutX (V := Unit) (fun _ => True) 12 #[true, false, true, true, true, false, true, false, false, false, false, false, false, false, false, false, false] (fun _ => [(2, .pointer (some ⟨γ1 0, 0, none⟩)), (3, .pointer (some ⟨γ227 0, 0, none⟩)), (5, .pointer (some ⟨γ318 0, 0, none⟩)), (17, .slice p n cap), (18, .int .i64 (n : Nat)), (19, .int .i64 (j : Nat)), (34, .pointer (some ⟨γ227 0, 4, none⟩)), (38, .int .u64 x317.w.ord), (40, .pointer (some ⟨γ227 0, 5, none⟩))]) (fun _ => bx (γ318 0) (#[.int .i64 x317.r.id, .int .i64 x317.r.each, .int .u64 x317.r.th, .int .u64 x317.r.tl, .int .u64 x317.r.tw, .int .i64 x317.w.id, .int .u64 x317.w.ord, .bool x317.w.fresh]) 78 :: bx (γ227 0) (#[.slice po nu co, .int .u64 f.hi, .int .u64 f.lo, .int .u64 f.w, .int .u64 od, .bool false]) 47 :: bx (γ1 0) (#[.slice none 0 0, .int .u64 0, .int .u64 0, .int .u64 0, .int .u64 0, .bool false]) 47 :: (Yo ++ [])) ?_ (fun hmx2 => ?_)
     ·
      rintro _ _
      refine any_fork [1, 7] (by kernel_rfl) (by simp) (each_cons _ rfl ?_ (each_cons _ rfl ?_ (each_nil)))
      ·
       refine qo0 1 [(1, .go (owns 1 4 1))] [2, 3, 5, 17, 18, 19, 38, 40] [(35, .int .u64 od)] ?_
       refine od_ ?_
       refine tk (m := 10) [5] [] [2, 3, 5, 17, 18, 19, 40] [(39, .int .u64 (if (x317.w.ord : Int) < (od : Int) then x317.w.ord else od))] ([]) #[true, true, true, true, true, true, true, false, false, false, false, false, false, false, false, false, false] al0 ?_
       exact wk (hmx3 () trivial) [2, 3, 5, 17, 18, 19, 39, 40] [[_], [_], [_], _] [0, 1, 2, 3] rfl rfl
      ·
       refine qo0 1 [(7, .go (owns 1 5 1))] [2, 3, 5, 17, 18, 19, 34, 38] [(41, .bool false)] ?_
       refine od_ ?_
       refine tk (m := 8) [8, 9, 10] [] [2, 3, 5, 17, 18, 19, 34, 38] [(42, .bool false), (44, undef)] ([]) #[true, false, true, true, true, false, true, true, true, true, true, false, false, false, false, false, false] al0 ?_
       exact wk (hmx6 () trivial) [2, 3, 5, 17, 18, 19, 34, 38, 42, 44] [[_], [_], [_], _] [0, 1, 2, 3] rfl rfl
     refine any_cutX (V := Unit) (fun _ => True) 12 #[true, true, true, true, false, false, true, false, false, false, false, false, false, false, false, false, false] (fun _ => [(2, .pointer (some ⟨γ1 0, 0, none⟩)), (3, .pointer (some ⟨γ227 0, 0, none⟩)), (5, .pointer (some ⟨γ318 0, 0, none⟩)), (17, .slice p n cap), (18, .int .i64 (n : Nat)), (19, .int .i64 (j : Nat)), (35, .int .u64 od), (37, .pointer (some ⟨γ318 0, 6, none⟩)), (40, .pointer (some ⟨γ227 0, 5, none⟩))]) (fun _ => bx (γ318 0) (#[.int .i64 x317.r.id, .int .i64 x317.r.each, .int .u64 x317.r.th, .int .u64 x317.r.tl, .int .u64 x317.r.tw, .int .i64 x317.w.id, .int .u64 x317.w.ord, .bool x317.w.fresh]) 78 :: bx (γ227 0) (#[.slice po nu co, .int .u64 f.hi, .int .u64 f.lo, .int .u64 f.w, .int .u64 od, .bool false]) 47 :: bx (γ1 0) (#[.slice none 0 0, .int .u64 0, .int .u64 0, .int .u64 0, .int .u64 0, .bool false]) 47 :: (Yo ++ [])) ?_ (fun hmx1 => ?_)
     ·
      rintro _ _
      refine any_fork [4, 7] (by kernel_rfl) (by simp) (each_cons _ rfl ?_ (each_cons _ rfl ?_ (each_nil)))
      ·
       refine qo0 1 [(4, .go (owns 0 6 1))] [2, 3, 5, 17, 18, 19, 35, 40] [(38, .int .u64 x317.w.ord)] ?_
       refine od_ ?_
       refine tk (m := 10) [5] [] [2, 3, 5, 17, 18, 19, 40] [(39, .int .u64 (if (x317.w.ord : Int) < (od : Int) then x317.w.ord else od))] ([]) #[true, true, true, true, true, true, true, false, false, false, false, false, false, false, false, false, false] al0 ?_
       exact wk (hmx3 () trivial) [2, 3, 5, 17, 18, 19, 39, 40] [[_], [_], [_], _] [0, 1, 2, 3] rfl rfl
      ·
       refine qo0 1 [(7, .go (owns 1 5 1))] [2, 3, 5, 17, 18, 19, 35, 37] [(41, .bool false)] ?_
       refine od_ ?_
       refine tk (m := 8) [8, 9, 10] [] [2, 3, 5, 17, 18, 19, 35, 37] [(42, .bool false), (44, undef)] ([]) #[true, true, true, true, false, false, true, true, true, true, true, false, false, false, false, false, false] al0 ?_
       exact wk (hmx5 () trivial) [2, 3, 5, 17, 18, 19, 35, 37, 42, 44] [[_], [_], [_], _] [0, 1, 2, 3] rfl rfl
     refine any_fork [1, 4, 7] (by kernel_rfl) (by simp) (each_cons _ rfl ?_ (each_cons _ rfl ?_ (each_cons _ rfl ?_ (each_nil))))
     ·
      refine qo0 1 [(1, .go (owns 1 4 1))] [2, 3, 5, 17, 18, 19, 37, 40] [(35, .int .u64 od)] ?_
      refine od_ ?_
      exact wk (hmx1 () trivial) [2, 3, 5, 17, 18, 19, 35, 37, 40] [[_], [_], [_], _] [0, 1, 2, 3] rfl rfl
     ·
      refine qo0 1 [(4, .go (owns 0 6 1))] [2, 3, 5, 17, 18, 19, 34, 40] [(38, .int .u64 x317.w.ord)] ?_
      refine od_ ?_
      exact wk (hmx2 () trivial) [2, 3, 5, 17, 18, 19, 34, 38, 40] [[_], [_], [_], _] [0, 1, 2, 3] rfl rfl
     ·
      refine qo0 1 [(7, .go (owns 1 5 1))] [2, 3, 5, 17, 18, 19, 34, 37] [(41, .bool false)] ?_
      refine od_ ?_
      refine tk (m := 9) [8, 9, 10] [] [2, 3, 5, 17, 18, 19, 34, 37] [(42, .bool false), (44, undef)] ([]) #[true, false, true, true, false, false, true, true, true, true, true, false, false, false, false, false, false] al0 ?_
      exact wk (hmx4 () trivial) [2, 3, 5, 17, 18, 19, 34, 37, 42, 44] [[_], [_], [_], _] [0, 1, 2, 3] rfl rfl
    rintro _ _
    refine any_nil (by kernel_rfl) ?_
    refine ds_ (ao_ (mo0 6 [(1, .go (owns 1 0 1)), (4, .go (owns 0 0 1))] [2, 3, 17, 18, 19] (fun γ1559 => [(50, .slice po nu co), (54, .slice (some ⟨γ1559 0, 0, none⟩) 1 1)]) (fun γ1559 L => bx (γ1559 0) (#[.int .i64 x317.r.id]) 3 :: L) (fun γ1559 => ops_append (α := Int) [bx (γ1559 0) (#[.int .i64 x317.r.id]) 3, bx (γ318 0) (#[.int .i64 x317.r.id, .int .i64 x317.r.each, .int .u64 x317.r.th, .int .u64 x317.r.tl, .int .u64 x317.r.tw, .int .i64 x317.w.id, .int .u64 x317.w.ord, .bool x317.w.fresh]) 78, bx (γ227 0) (#[.slice po nu co, .int .u64 f.hi, .int .u64 f.lo, .int .u64 f.w, .int .u64 (if (x317.w.ord : Int) < (od : Int) then x317.w.ord else od), .bool false]) 47, bx (γ1 0) (#[.slice none 0 0, .int .u64 0, .int .u64 0, .int .u64 0, .int .u64 0, .bool false]) 47] Yo ([]) (.refl _) rfl (by kernel_rfl) (by kernel_rfl) (p := po) (n := nu) (cap := co) (m := 1) (yv := .slice (some ⟨γ1559 0, 0, none⟩) 1 1) (by kernel_rfl) (by kernel_rfl) (T := 3) (by_ := 8) (by kernel_rfl) (memP l j) ([x317.r.id]) hO (fun w hw => src_svn Try.underlying40 (sv_row (hw.row 0 rfl) (by rfl)) (by rfl)) (by rfl) (by have hmx : maxLen = 9223372036854775807 := rfl; omega) (by have hmx : maxLen = 9223372036854775807 := rfl; omega) (fun Y1560 p1560 cap1560 hO1560 => mo0 2 [(8, .go (owns 2 0 1))] [2, 3, 17, 18, 19] (fun _ => []) (fun _ L => (L.set 2 (bx (γ227 0) (#[.slice p1560 (nu + 1) cap1560, .int .u64 f.hi, .int .u64 f.lo, .int .u64 f.w, .int .u64 (if (x317.w.ord : Int) < (od : Int) then x317.w.ord else od), .bool false]) 47))) (fun _ => on_ (done_block (ds_ (qa [(0, .fit)] [2, 3, 17, 18] [(19, .int .i64 (j + 1 : Nat))] ([Fit .i64 ((j + 1 : Nat))]) (al1 (fit64 (by omega) (by omega))) (Done.pick [[bx (γ1559 0) (#[.int .i64 x317.r.id]) 3], [bx (γ318 0) (#[.int .i64 x317.r.id, .int .i64 x317.r.each, .int .u64 x317.r.th, .int .u64 x317.r.tl, .int .u64 x317.r.tw, .int .i64 x317.w.id, .int .u64 x317.w.ord, .bool x317.w.fresh]) 78], [bx (γ227 0) (#[.slice p1560 (nu + 1) cap1560, .int .u64 f.hi, .int .u64 f.lo, .int .u64 f.w, .int .u64 (if (x317.w.ord : Int) < (od : Int) then x317.w.ord else od), .bool false]) 47], [bx (γ1 0) (#[.slice none 0 0, .int .u64 0, .int .u64 0, .int .u64 0, .int .u64 0, .bool false]) 47], Y1560] [2, 3, 4] [0, 1] (bx (γ227 0) (#[.slice p1560 (nu + 1) cap1560, .int .u64 f.hi, .int .u64 f.lo, .int .u64 f.w, .int .u64 (if (x317.w.ord : Int) < (od : Int) then x317.w.ord else od), .bool false]) 47 :: bx (γ1 0) (#[.slice none 0 0, .int .u64 0, .int .u64 0, .int .u64 0, .int .u64 0, .bool false]) 47 :: (Y1560 ++ [])) (by kernel_rfl) rfl rfl ?_)))))))))
    exact dr [2, 3, 17, 18, 19] (j + 1, Y1560, p1560, (nu + 1), cap1560, f, (if (x317.w.ord : Int) < (od : Int) then x317.w.ord else od), false) ⟨by omega, by omega, hUf, one_onT hx317 hE (by rw [if_neg (by omega)]) rfl (by rw [q1150]; rfl), by rw [memP_on hx317]; exact hO1560⟩
   ·
    refine at_any (by kernel_rfl) ?_
    refine tk (m := 13) [0, 2, 3, 6] [] [2, 3, 5, 17, 18, 19] [(34, .pointer (some ⟨γ227 0, 4, none⟩)), (37, .pointer (some ⟨γ318 0, 6, none⟩)), (40, .pointer (some ⟨γ227 0, 5, none⟩))] ([]) #[true, false, true, true, false, false, true, false, false, false, false, false, false, false, false, false, false] al0 ?_
    refine any_cutX (V := Unit) (fun _ => True) 0 #[true, true, true, true, true, true, true, true, true, true, true, true, true, true, true, true, true] (fun _ => [(2, .pointer (some ⟨γ1 0, 0, none⟩)), (3, .pointer (some ⟨γ227 0, 0, none⟩)), (5, .pointer (some ⟨γ318 0, 0, none⟩)), (17, .slice p n cap), (18, .int .i64 (n : Nat)), (19, .int .i64 (j : Nat))]) (fun _ => bx (γ318 0) (#[.int .i64 x317.r.id, .int .i64 x317.r.each, .int .u64 x317.r.th, .int .u64 x317.r.tl, .int .u64 x317.r.tw, .int .i64 x317.w.id, .int .u64 x317.w.ord, .bool x317.w.fresh]) 78 :: bx (γ227 0) (#[.slice po nu co, .int .u64 f.hi, .int .u64 f.lo, .int .u64 f.w, .int .u64 (if (x317.w.ord : Int) < (od : Int) then x317.w.ord else od), .bool x317.w.fresh]) 47 :: bx (γ1 0) (#[.slice none 0 0, .int .u64 0, .int .u64 0, .int .u64 0, .int .u64 0, .bool false]) 47 :: (Yo ++ [])) ?_ (fun hmx14 => ?_)
    rotate_left
    ·
     refine any_cutX (V := Unit) (fun _ => True) 1 #[true, true, true, true, true, true, true, true, true, true, true, true, true, true, true, true, false] (fun _ => [(2, .pointer (some ⟨γ1 0, 0, none⟩)), (3, .pointer (some ⟨γ227 0, 0, none⟩)), (5, .pointer (some ⟨γ318 0, 0, none⟩)), (17, .slice p n cap), (18, .int .i64 (n : Nat)), (19, .int .i64 (j : Nat)), (46, .bool x317.w.fresh), (48, .pointer (some ⟨γ227 0, 5, none⟩))]) (fun _ => bx (γ318 0) (#[.int .i64 x317.r.id, .int .i64 x317.r.each, .int .u64 x317.r.th, .int .u64 x317.r.tl, .int .u64 x317.r.tw, .int .i64 x317.w.id, .int .u64 x317.w.ord, .bool x317.w.fresh]) 78 :: bx (γ227 0) (#[.slice po nu co, .int .u64 f.hi, .int .u64 f.lo, .int .u64 f.w, .int .u64 (if (x317.w.ord : Int) < (od : Int) then x317.w.ord else od), .bool true]) 47 :: bx (γ1 0) (#[.slice none 0 0, .int .u64 0, .int .u64 0, .int .u64 0, .int .u64 0, .bool false]) 47 :: (Yo ++ [])) ?_ (fun hmx13 => ?_)
     ·
      rintro _ _
      refine a1 16 rfl ?_
      refine mo0 1 [(16, .go (owns 1 5 1))] [2, 3, 5, 17, 18, 19] (fun _ => []) (fun _ L => (L.set 1 (bx (γ227 0) (#[.slice po nu co, .int .u64 f.hi, .int .u64 f.lo, .int .u64 f.w, .int .u64 (if (x317.w.ord : Int) < (od : Int) then x317.w.ord else od), .bool x317.w.fresh]) 47))) (fun _ => ?_)
      refine od_ ?_
      exact wk (hmx14 () trivial) [2, 3, 5, 17, 18, 19] [[_], [_], [_], _] [0, 1, 2, 3] rfl rfl
     refine any_cutX (V := Unit) (fun _ => True) 3 #[true, true, true, true, true, true, true, true, true, true, true, true, true, true, false, false, false] (fun _ => [(2, .pointer (some ⟨γ1 0, 0, none⟩)), (3, .pointer (some ⟨γ227 0, 0, none⟩)), (5, .pointer (some ⟨γ318 0, 0, none⟩)), (17, .slice p n cap), (18, .int .i64 (n : Nat)), (19, .int .i64 (j : Nat)), (39, .int .u64 (if (x317.w.ord : Int) < (od : Int) then x317.w.ord else od)), (46, .bool x317.w.fresh), (47, .pointer (some ⟨γ227 0, 4, none⟩))]) (fun _ => bx (γ318 0) (#[.int .i64 x317.r.id, .int .i64 x317.r.each, .int .u64 x317.r.th, .int .u64 x317.r.tl, .int .u64 x317.r.tw, .int .i64 x317.w.id, .int .u64 x317.w.ord, .bool x317.w.fresh]) 78 :: bx (γ227 0) (#[.slice po nu co, .int .u64 f.hi, .int .u64 f.lo, .int .u64 f.w, .int .u64 od, .bool true]) 47 :: bx (γ1 0) (#[.slice none 0 0, .int .u64 0, .int .u64 0, .int .u64 0, .int .u64 0, .bool false]) 47 :: (Yo ++ [])) ?_ (fun hmx12 => ?_)
     ·
      rintro _ _
      refine a1 14 rfl ?_
      refine mo0 1 [(14, .go (owns 1 4 1))] [2, 3, 5, 17, 18, 19, 46] (fun _ => []) (fun _ L => (L.set 1 (bx (γ227 0) (#[.slice po nu co, .int .u64 f.hi, .int .u64 f.lo, .int .u64 f.w, .int .u64 (if (x317.w.ord : Int) < (od : Int) then x317.w.ord else od), .bool true]) 47))) (fun _ => ?_)
      refine od_ ?_
      refine tk (m := 1) [15] [] [2, 3, 5, 17, 18, 19, 46] [(48, .pointer (some ⟨γ227 0, 5, none⟩))] ([]) #[true, true, true, true, true, true, true, true, true, true, true, true, true, true, true, true, false] al0 ?_
      exact wk (hmx13 () trivial) [2, 3, 5, 17, 18, 19, 46, 48] [[_], [_], [_], _] [0, 1, 2, 3] rfl rfl
     refine any_cutX (V := Unit) (fun _ => True) 4 #[true, true, true, true, true, true, true, true, true, true, true, false, false, true, true, false, false] (fun _ => [(2, .pointer (some ⟨γ1 0, 0, none⟩)), (3, .pointer (some ⟨γ227 0, 0, none⟩)), (5, .pointer (some ⟨γ318 0, 0, none⟩)), (17, .slice p n cap), (18, .int .i64 (n : Nat)), (19, .int .i64 (j : Nat)), (42, .bool true), (44, .pointer (some ⟨γ318 0, 7, none⟩))]) (fun _ => bx (γ318 0) (#[.int .i64 x317.r.id, .int .i64 x317.r.each, .int .u64 x317.r.th, .int .u64 x317.r.tl, .int .u64 x317.r.tw, .int .i64 x317.w.id, .int .u64 x317.w.ord, .bool x317.w.fresh]) 78 :: bx (γ227 0) (#[.slice po nu co, .int .u64 f.hi, .int .u64 f.lo, .int .u64 f.w, .int .u64 (if (x317.w.ord : Int) < (od : Int) then x317.w.ord else od), .bool true]) 47 :: bx (γ1 0) (#[.slice none 0 0, .int .u64 0, .int .u64 0, .int .u64 0, .int .u64 0, .bool false]) 47 :: (Yo ++ [])) ?_ (fun hmx11 => ?_)
     ·
      rintro _ _
      refine a1 11 rfl ?_
      refine qo0 1 [(11, .go (owns 0 7 1))] [2, 3, 5, 17, 18, 19, 42] [(45, .bool x317.w.fresh)] ?_
      refine od_ ?_
      refine tk (m := 1) [12, 15] [] [2, 3, 5, 17, 18, 19] [(46, .bool x317.w.fresh), (48, .pointer (some ⟨γ227 0, 5, none⟩))] ([]) #[true, true, true, true, true, true, true, true, true, true, true, true, true, true, true, true, false] al0 ?_
      exact wk (hmx13 () trivial) [2, 3, 5, 17, 18, 19, 46, 48] [[_], [_], [_], _] [0, 1, 2, 3] rfl rfl
     refine any_cutX (V := Unit) (fun _ => True) 5 #[true, true, true, true, true, true, true, true, true, true, true, false, false, true, false, false, false] (fun _ => [(2, .pointer (some ⟨γ1 0, 0, none⟩)), (3, .pointer (some ⟨γ227 0, 0, none⟩)), (5, .pointer (some ⟨γ318 0, 0, none⟩)), (17, .slice p n cap), (18, .int .i64 (n : Nat)), (19, .int .i64 (j : Nat)), (39, .int .u64 (if (x317.w.ord : Int) < (od : Int) then x317.w.ord else od)), (42, .bool true), (44, .pointer (some ⟨γ318 0, 7, none⟩)), (47, .pointer (some ⟨γ227 0, 4, none⟩))]) (fun _ => bx (γ318 0) (#[.int .i64 x317.r.id, .int .i64 x317.r.each, .int .u64 x317.r.th, .int .u64 x317.r.tl, .int .u64 x317.r.tw, .int .i64 x317.w.id, .int .u64 x317.w.ord, .bool x317.w.fresh]) 78 :: bx (γ227 0) (#[.slice po nu co, .int .u64 f.hi, .int .u64 f.lo, .int .u64 f.w, .int .u64 od, .bool true]) 47 :: bx (γ1 0) (#[.slice none 0 0, .int .u64 0, .int .u64 0, .int .u64 0, .int .u64 0, .bool false]) 47 :: (Yo ++ [])) ?_ (fun hmx10 => ?_)
     ·
      rintro _ _
      refine any_fork [11, 14] (by kernel_rfl) (by simp) (each_cons _ rfl ?_ (each_cons _ rfl ?_ (each_nil)))
      ·
       refine qo0 1 [(11, .go (owns 0 7 1))] [2, 3, 5, 17, 18, 19, 39, 42, 47] [(45, .bool x317.w.fresh)] ?_
       refine od_ ?_
       refine tk (m := 3) [12] [] [2, 3, 5, 17, 18, 19, 39, 47] [(46, .bool x317.w.fresh)] ([]) #[true, true, true, true, true, true, true, true, true, true, true, true, true, true, false, false, false] al0 ?_
       exact wk (hmx12 () trivial) [2, 3, 5, 17, 18, 19, 39, 46, 47] [[_], [_], [_], _] [0, 1, 2, 3] rfl rfl
      ·
       refine mo0 1 [(14, .go (owns 1 4 1))] [2, 3, 5, 17, 18, 19, 42, 44] (fun _ => []) (fun _ L => (L.set 1 (bx (γ227 0) (#[.slice po nu co, .int .u64 f.hi, .int .u64 f.lo, .int .u64 f.w, .int .u64 (if (x317.w.ord : Int) < (od : Int) then x317.w.ord else od), .bool true]) 47))) (fun _ => ?_)
       refine od_ ?_
       exact wk (hmx11 () trivial) [2, 3, 5, 17, 18, 19, 42, 44] [[_], [_], [_], _] [0, 1, 2, 3] rfl rfl
     refine any_cutX (V := Unit) (fun _ => True) 6 #[true, false, true, true, true, false, true, true, true, true, true, true, true, false, false, false, false] (fun _ => [(2, .pointer (some ⟨γ1 0, 0, none⟩)), (3, .pointer (some ⟨γ227 0, 0, none⟩)), (5, .pointer (some ⟨γ318 0, 0, none⟩)), (17, .slice p n cap), (18, .int .i64 (n : Nat)), (19, .int .i64 (j : Nat)), (34, .pointer (some ⟨γ227 0, 4, none⟩)), (38, .int .u64 x317.w.ord), (46, .bool x317.w.fresh)]) (fun _ => bx (γ318 0) (#[.int .i64 x317.r.id, .int .i64 x317.r.each, .int .u64 x317.r.th, .int .u64 x317.r.tl, .int .u64 x317.r.tw, .int .i64 x317.w.id, .int .u64 x317.w.ord, .bool x317.w.fresh]) 78 :: bx (γ227 0) (#[.slice po nu co, .int .u64 f.hi, .int .u64 f.lo, .int .u64 f.w, .int .u64 od, .bool true]) 47 :: bx (γ1 0) (#[.slice none 0 0, .int .u64 0, .int .u64 0, .int .u64 0, .int .u64 0, .bool false]) 47 :: (Yo ++ [])) ?_ (fun hmx9 => ?_)
     ·
      rintro _ _
      refine a1 1 rfl ?_
      refine qo0 1 [(1, .go (owns 1 4 1))] [2, 3, 5, 17, 18, 19, 38, 46] [(35, .int .u64 od)] ?_
      refine od_ ?_
      refine tk (m := 3) [5, 13] [] [2, 3, 5, 17, 18, 19, 46] [(39, .int .u64 (if (x317.w.ord : Int) < (od : Int) then x317.w.ord else od)), (47, .pointer (some ⟨γ227 0, 4, none⟩))] ([]) #[true, true, true, true, true, true, true, true, true, true, true, true, true, true, false, false, false] al0 ?_
      exact wk (hmx12 () trivial) [2, 3, 5, 17, 18, 19, 39, 46, 47] [[_], [_], [_], _] [0, 1, 2, 3] rfl rfl
     refine any_cutX (V := Unit) (fun _ => True) 6 #[true, true, true, true, false, false, true, true, true, true, true, true, true, false, false, false, false] (fun _ => [(2, .pointer (some ⟨γ1 0, 0, none⟩)), (3, .pointer (some ⟨γ227 0, 0, none⟩)), (5, .pointer (some ⟨γ318 0, 0, none⟩)), (17, .slice p n cap), (18, .int .i64 (n : Nat)), (19, .int .i64 (j : Nat)), (35, .int .u64 od), (37, .pointer (some ⟨γ318 0, 6, none⟩)), (46, .bool x317.w.fresh)]) (fun _ => bx (γ318 0) (#[.int .i64 x317.r.id, .int .i64 x317.r.each, .int .u64 x317.r.th, .int .u64 x317.r.tl, .int .u64 x317.r.tw, .int .i64 x317.w.id, .int .u64 x317.w.ord, .bool x317.w.fresh]) 78 :: bx (γ227 0) (#[.slice po nu co, .int .u64 f.hi, .int .u64 f.lo, .int .u64 f.w, .int .u64 od, .bool true]) 47 :: bx (γ1 0) (#[.slice none 0 0, .int .u64 0, .int .u64 0, .int .u64 0, .int .u64 0, .bool false]) 47 :: (Yo ++ [])) ?_ (fun hmx8 => ?_)
     ·
      rintro _ _
      refine a1 4 rfl ?_
      refine qo0 1 [(4, .go (owns 0 6 1))] [2, 3, 5, 17, 18, 19, 35, 46] [(38, .int .u64 x317.w.ord)] ?_
      refine od_ ?_
      refine tk (m := 3) [5, 13] [] [2, 3, 5, 17, 18, 19, 46] [(39, .int .u64 (if (x317.w.ord : Int) < (od : Int) then x317.w.ord else od)), (47, .pointer (some ⟨γ227 0, 4, none⟩))] ([]) #[true, true, true, true, true, true, true, true, true, true, true, true, true, true, false, false, false] al0 ?_
      exact wk (hmx12 () trivial) [2, 3, 5, 17, 18, 19, 39, 46, 47] [[_], [_], [_], _] [0, 1, 2, 3] rfl rfl
     refine any_cutX (V := Unit) (fun _ => True) 7 #[true, false, true, true, false, false, true, true, true, true, true, true, true, false, false, false, false] (fun _ => [(2, .pointer (some ⟨γ1 0, 0, none⟩)), (3, .pointer (some ⟨γ227 0, 0, none⟩)), (5, .pointer (some ⟨γ318 0, 0, none⟩)), (17, .slice p n cap), (18, .int .i64 (n : Nat)), (19, .int .i64 (j : Nat)), (34, .pointer (some ⟨γ227 0, 4, none⟩)), (37, .pointer (some ⟨γ318 0, 6, none⟩)), (46, .bool x317.w.fresh)]) (fun _ => bx (γ318 0) (#[.int .i64 x317.r.id, .int .i64 x317.r.each, .int .u64 x317.r.th, .int .u64 x317.r.tl, .int .u64 x317.r.tw, .int .i64 x317.w.id, .int .u64 x317.w.ord, .bool x317.w.fresh]) 78 :: bx (γ227 0) (#[.slice po nu co, .int .u64 f.hi, .int .u64 f.lo, .int .u64 f.w, .int .u64 od, .bool true]) 47 :: bx (γ1 0) (#[.slice none 0 0, .int .u64 0, .int .u64 0, .int .u64 0, .int .u64 0, .bool false]) 47 :: (Yo ++ [])) ?_ (fun hmx7 => ?_)
     ·
      rintro _ _
      refine any_fork [1, 4] (by kernel_rfl) (by simp) (each_cons _ rfl ?_ (each_cons _ rfl ?_ (each_nil)))
      ·
       refine qo0 1 [(1, .go (owns 1 4 1))] [2, 3, 5, 17, 18, 19, 37, 46] [(35, .int .u64 od)] ?_
       refine od_ ?_
       exact wk (hmx8 () trivial) [2, 3, 5, 17, 18, 19, 35, 37, 46] [[_], [_], [_], _] [0, 1, 2, 3] rfl rfl
      ·
       refine qo0 1 [(4, .go (owns 0 6 1))] [2, 3, 5, 17, 18, 19, 34, 46] [(38, .int .u64 x317.w.ord)] ?_
       refine od_ ?_
       exact wk (hmx9 () trivial) [2, 3, 5, 17, 18, 19, 34, 38, 46] [[_], [_], [_], _] [0, 1, 2, 3] rfl rfl
     refine any_cutX (V := Unit) (fun _ => True) 8 #[true, false, true, true, true, false, true, true, true, true, true, false, false, false, false, false, false] (fun _ => [(2, .pointer (some ⟨γ1 0, 0, none⟩)), (3, .pointer (some ⟨γ227 0, 0, none⟩)), (5, .pointer (some ⟨γ318 0, 0, none⟩)), (17, .slice p n cap), (18, .int .i64 (n : Nat)), (19, .int .i64 (j : Nat)), (34, .pointer (some ⟨γ227 0, 4, none⟩)), (38, .int .u64 x317.w.ord), (42, .bool true), (44, .pointer (some ⟨γ318 0, 7, none⟩))]) (fun _ => bx (γ318 0) (#[.int .i64 x317.r.id, .int .i64 x317.r.each, .int .u64 x317.r.th, .int .u64 x317.r.tl, .int .u64 x317.r.tw, .int .i64 x317.w.id, .int .u64 x317.w.ord, .bool x317.w.fresh]) 78 :: bx (γ227 0) (#[.slice po nu co, .int .u64 f.hi, .int .u64 f.lo, .int .u64 f.w, .int .u64 od, .bool true]) 47 :: bx (γ1 0) (#[.slice none 0 0, .int .u64 0, .int .u64 0, .int .u64 0, .int .u64 0, .bool false]) 47 :: (Yo ++ [])) ?_ (fun hmx6 => ?_)
     ·
      rintro _ _
      refine any_fork [1, 11] (by kernel_rfl) (by simp) (each_cons _ rfl ?_ (each_cons _ rfl ?_ (each_nil)))
      ·
       refine qo0 1 [(1, .go (owns 1 4 1))] [2, 3, 5, 17, 18, 19, 38, 42, 44] [(35, .int .u64 od)] ?_
       refine od_ ?_
       refine tk (m := 5) [5, 13] [] [2, 3, 5, 17, 18, 19, 42, 44] [(39, .int .u64 (if (x317.w.ord : Int) < (od : Int) then x317.w.ord else od)), (47, .pointer (some ⟨γ227 0, 4, none⟩))] ([]) #[true, true, true, true, true, true, true, true, true, true, true, false, false, true, false, false, false] al0 ?_
       exact wk (hmx10 () trivial) [2, 3, 5, 17, 18, 19, 39, 42, 44, 47] [[_], [_], [_], _] [0, 1, 2, 3] rfl rfl
      ·
       refine qo0 1 [(11, .go (owns 0 7 1))] [2, 3, 5, 17, 18, 19, 34, 38, 42] [(45, .bool x317.w.fresh)] ?_
       refine od_ ?_
       refine tk (m := 6) [12] [] [2, 3, 5, 17, 18, 19, 34, 38] [(46, .bool x317.w.fresh)] ([]) #[true, false, true, true, true, false, true, true, true, true, true, true, true, false, false, false, false] al0 ?_
       exact wk (hmx9 () trivial) [2, 3, 5, 17, 18, 19, 34, 38, 46] [[_], [_], [_], _] [0, 1, 2, 3] rfl rfl
     refine any_cutX (V := Unit) (fun _ => True) 8 #[true, true, true, true, false, false, true, true, true, true, true, false, false, false, false, false, false] (fun _ => [(2, .pointer (some ⟨γ1 0, 0, none⟩)), (3, .pointer (some ⟨γ227 0, 0, none⟩)), (5, .pointer (some ⟨γ318 0, 0, none⟩)), (17, .slice p n cap), (18, .int .i64 (n : Nat)), (19, .int .i64 (j : Nat)), (35, .int .u64 od), (37, .pointer (some ⟨γ318 0, 6, none⟩)), (42, .bool true), (44, .pointer (some ⟨γ318 0, 7, none⟩))]) (fun _ => bx (γ318 0) (#[.int .i64 x317.r.id, .int .i64 x317.r.each, .int .u64 x317.r.th, .int .u64 x317.r.tl, .int .u64 x317.r.tw, .int .i64 x317.w.id, .int .u64 x317.w.ord, .bool x317.w.fresh]) 78 :: bx (γ227 0) (#[.slice po nu co, .int .u64 f.hi, .int .u64 f.lo, .int .u64 f.w, .int .u64 od, .bool true]) 47 :: bx (γ1 0) (#[.slice none 0 0, .int .u64 0, .int .u64 0, .int .u64 0, .int .u64 0, .bool false]) 47 :: (Yo ++ [])) ?_ (fun hmx5 => ?_)
     ·
      rintro _ _
      refine any_fork [4, 11] (by kernel_rfl) (by simp) (each_cons _ rfl ?_ (each_cons _ rfl ?_ (each_nil)))
      ·
       refine qo0 1 [(4, .go (owns 0 6 1))] [2, 3, 5, 17, 18, 19, 35, 42, 44] [(38, .int .u64 x317.w.ord)] ?_
       refine od_ ?_
       refine tk (m := 5) [5, 13] [] [2, 3, 5, 17, 18, 19, 42, 44] [(39, .int .u64 (if (x317.w.ord : Int) < (od : Int) then x317.w.ord else od)), (47, .pointer (some ⟨γ227 0, 4, none⟩))] ([]) #[true, true, true, true, true, true, true, true, true, true, true, false, false, true, false, false, false] al0 ?_
       exact wk (hmx10 () trivial) [2, 3, 5, 17, 18, 19, 39, 42, 44, 47] [[_], [_], [_], _] [0, 1, 2, 3] rfl rfl
      ·
       refine qo0 1 [(11, .go (owns 0 7 1))] [2, 3, 5, 17, 18, 19, 35, 37, 42] [(45, .bool x317.w.fresh)] ?_
       refine od_ ?_
       refine tk (m := 6) [12] [] [2, 3, 5, 17, 18, 19, 35, 37] [(46, .bool x317.w.fresh)] ([]) #[true, true, true, true, false, false, true, true, true, true, true, true, true, false, false, false, false] al0 ?_
       exact wk (hmx8 () trivial) [2, 3, 5, 17, 18, 19, 35, 37, 46] [[_], [_], [_], _] [0, 1, 2, 3] rfl rfl
     refine any_cutX (V := Unit) (fun _ => True) 9 #[true, false, true, true, false, false, true, true, true, true, true, false, false, false, false, false, false] (fun _ => [(2, .pointer (some ⟨γ1 0, 0, none⟩)), (3, .pointer (some ⟨γ227 0, 0, none⟩)), (5, .pointer (some ⟨γ318 0, 0, none⟩)), (17, .slice p n cap), (18, .int .i64 (n : Nat)), (19, .int .i64 (j : Nat)), (34, .pointer (some ⟨γ227 0, 4, none⟩)), (37, .pointer (some ⟨γ318 0, 6, none⟩)), (42, .bool true), (44, .pointer (some ⟨γ318 0, 7, none⟩))]) (fun _ => bx (γ318 0) (#[.int .i64 x317.r.id, .int .i64 x317.r.each, .int .u64 x317.r.th, .int .u64 x317.r.tl, .int .u64 x317.r.tw, .int .i64 x317.w.id, .int .u64 x317.w.ord, .bool x317.w.fresh]) 78 :: bx (γ227 0) (#[.slice po nu co, .int .u64 f.hi, .int .u64 f.lo, .int .u64 f.w, .int .u64 od, .bool true]) 47 :: bx (γ1 0) (#[.slice none 0 0, .int .u64 0, .int .u64 0, .int .u64 0, .int .u64 0, .bool false]) 47 :: (Yo ++ [])) ?_ (fun hmx4 => ?_)
     ·
      rintro _ _
      refine any_fork [1, 4, 11] (by kernel_rfl) (by simp) (each_cons _ rfl ?_ (each_cons _ rfl ?_ (each_cons _ rfl ?_ (each_nil))))
      ·
       refine qo0 1 [(1, .go (owns 1 4 1))] [2, 3, 5, 17, 18, 19, 37, 42, 44] [(35, .int .u64 od)] ?_
       refine od_ ?_
       exact wk (hmx5 () trivial) [2, 3, 5, 17, 18, 19, 35, 37, 42, 44] [[_], [_], [_], _] [0, 1, 2, 3] rfl rfl
      ·
       refine qo0 1 [(4, .go (owns 0 6 1))] [2, 3, 5, 17, 18, 19, 34, 42, 44] [(38, .int .u64 x317.w.ord)] ?_
       refine od_ ?_
       exact wk (hmx6 () trivial) [2, 3, 5, 17, 18, 19, 34, 38, 42, 44] [[_], [_], [_], _] [0, 1, 2, 3] rfl rfl
      ·
       refine qo0 1 [(11, .go (owns 0 7 1))] [2, 3, 5, 17, 18, 19, 34, 37, 42] [(45, .bool x317.w.fresh)] ?_
       refine od_ ?_
       refine tk (m := 7) [12] [] [2, 3, 5, 17, 18, 19, 34, 37] [(46, .bool x317.w.fresh)] ([]) #[true, false, true, true, false, false, true, true, true, true, true, true, true, false, false, false, false] al0 ?_
       exact wk (hmx7 () trivial) [2, 3, 5, 17, 18, 19, 34, 37, 46] [[_], [_], [_], _] [0, 1, 2, 3] rfl rfl
     refine any_cutX (V := Unit) (fun _ => True) 10 #[true, true, true, true, true, true, true, false, false, false, false, false, false, false, false, false, false] (fun _ => [(2, .pointer (some ⟨γ1 0, 0, none⟩)), (3, .pointer (some ⟨γ227 0, 0, none⟩)), (5, .pointer (some ⟨γ318 0, 0, none⟩)), (17, .slice p n cap), (18, .int .i64 (n : Nat)), (19, .int .i64 (j : Nat)), (39, .int .u64 (if (x317.w.ord : Int) < (od : Int) then x317.w.ord else od)), (40, .pointer (some ⟨γ227 0, 5, none⟩))]) (fun _ => bx (γ318 0) (#[.int .i64 x317.r.id, .int .i64 x317.r.each, .int .u64 x317.r.th, .int .u64 x317.r.tl, .int .u64 x317.r.tw, .int .i64 x317.w.id, .int .u64 x317.w.ord, .bool x317.w.fresh]) 78 :: bx (γ227 0) (#[.slice po nu co, .int .u64 f.hi, .int .u64 f.lo, .int .u64 f.w, .int .u64 od, .bool true]) 47 :: bx (γ1 0) (#[.slice none 0 0, .int .u64 0, .int .u64 0, .int .u64 0, .int .u64 0, .bool false]) 47 :: (Yo ++ [])) ?_ (fun hmx3 => ?_)
     ·
      rintro _ _
      refine a1 7 rfl ?_
      refine qo0 1 [(7, .go (owns 1 5 1))] [2, 3, 5, 17, 18, 19, 39] [(41, .bool true)] ?_
      refine od_ ?_
      refine tk (m := 5) [8, 9, 10, 13] [] [2, 3, 5, 17, 18, 19, 39] [(42, .bool true), (44, .pointer (some ⟨γ318 0, 7, none⟩)), (47, .pointer (some ⟨γ227 0, 4, none⟩))] ([]) #[true, true, true, true, true, true, true, true, true, true, true, false, false, true, false, false, false] al0 ?_
      exact wk (hmx10 () trivial) [2, 3, 5, 17, 18, 19, 39, 42, 44, 47] [[_], [_], [_], _] [0, 1, 2, 3] rfl rfl
     refine any_cutX (V := Unit) (fun _ => True) 12 #[true, false, true, true, true, false, true, false, false, false, false, false, false, false, false, false, false] (fun _ => [(2, .pointer (some ⟨γ1 0, 0, none⟩)), (3, .pointer (some ⟨γ227 0, 0, none⟩)), (5, .pointer (some ⟨γ318 0, 0, none⟩)), (17, .slice p n cap), (18, .int .i64 (n : Nat)), (19, .int .i64 (j : Nat)), (34, .pointer (some ⟨γ227 0, 4, none⟩)), (38, .int .u64 x317.w.ord), (40, .pointer (some ⟨γ227 0, 5, none⟩))]) (fun _ => bx (γ318 0) (#[.int .i64 x317.r.id, .int .i64 x317.r.each, .int .u64 x317.r.th, .int .u64 x317.r.tl, .int .u64 x317.r.tw, .int .i64 x317.w.id, .int .u64 x317.w.ord, .bool x317.w.fresh]) 78 :: bx (γ227 0) (#[.slice po nu co, .int .u64 f.hi, .int .u64 f.lo, .int .u64 f.w, .int .u64 od, .bool true]) 47 :: bx (γ1 0) (#[.slice none 0 0, .int .u64 0, .int .u64 0, .int .u64 0, .int .u64 0, .bool false]) 47 :: (Yo ++ [])) ?_ (fun hmx2 => ?_)
     ·
      rintro _ _
      refine any_fork [1, 7] (by kernel_rfl) (by simp) (each_cons _ rfl ?_ (each_cons _ rfl ?_ (each_nil)))
      ·
       refine qo0 1 [(1, .go (owns 1 4 1))] [2, 3, 5, 17, 18, 19, 38, 40] [(35, .int .u64 od)] ?_
       refine od_ ?_
       refine tk (m := 10) [5] [] [2, 3, 5, 17, 18, 19, 40] [(39, .int .u64 (if (x317.w.ord : Int) < (od : Int) then x317.w.ord else od))] ([]) #[true, true, true, true, true, true, true, false, false, false, false, false, false, false, false, false, false] al0 ?_
       exact wk (hmx3 () trivial) [2, 3, 5, 17, 18, 19, 39, 40] [[_], [_], [_], _] [0, 1, 2, 3] rfl rfl
      ·
       refine qo0 1 [(7, .go (owns 1 5 1))] [2, 3, 5, 17, 18, 19, 34, 38] [(41, .bool true)] ?_
       refine od_ ?_
       refine tk (m := 8) [8, 9, 10] [] [2, 3, 5, 17, 18, 19, 34, 38] [(42, .bool true), (44, .pointer (some ⟨γ318 0, 7, none⟩))] ([]) #[true, false, true, true, true, false, true, true, true, true, true, false, false, false, false, false, false] al0 ?_
       exact wk (hmx6 () trivial) [2, 3, 5, 17, 18, 19, 34, 38, 42, 44] [[_], [_], [_], _] [0, 1, 2, 3] rfl rfl
     refine any_cutX (V := Unit) (fun _ => True) 12 #[true, true, true, true, false, false, true, false, false, false, false, false, false, false, false, false, false] (fun _ => [(2, .pointer (some ⟨γ1 0, 0, none⟩)), (3, .pointer (some ⟨γ227 0, 0, none⟩)), (5, .pointer (some ⟨γ318 0, 0, none⟩)), (17, .slice p n cap), (18, .int .i64 (n : Nat)), (19, .int .i64 (j : Nat)), (35, .int .u64 od), (37, .pointer (some ⟨γ318 0, 6, none⟩)), (40, .pointer (some ⟨γ227 0, 5, none⟩))]) (fun _ => bx (γ318 0) (#[.int .i64 x317.r.id, .int .i64 x317.r.each, .int .u64 x317.r.th, .int .u64 x317.r.tl, .int .u64 x317.r.tw, .int .i64 x317.w.id, .int .u64 x317.w.ord, .bool x317.w.fresh]) 78 :: bx (γ227 0) (#[.slice po nu co, .int .u64 f.hi, .int .u64 f.lo, .int .u64 f.w, .int .u64 od, .bool true]) 47 :: bx (γ1 0) (#[.slice none 0 0, .int .u64 0, .int .u64 0, .int .u64 0, .int .u64 0, .bool false]) 47 :: (Yo ++ [])) ?_ (fun hmx1 => ?_)
     ·
      rintro _ _
      refine any_fork [4, 7] (by kernel_rfl) (by simp) (each_cons _ rfl ?_ (each_cons _ rfl ?_ (each_nil)))
      ·
       refine qo0 1 [(4, .go (owns 0 6 1))] [2, 3, 5, 17, 18, 19, 35, 40] [(38, .int .u64 x317.w.ord)] ?_
       refine od_ ?_
       refine tk (m := 10) [5] [] [2, 3, 5, 17, 18, 19, 40] [(39, .int .u64 (if (x317.w.ord : Int) < (od : Int) then x317.w.ord else od))] ([]) #[true, true, true, true, true, true, true, false, false, false, false, false, false, false, false, false, false] al0 ?_
       exact wk (hmx3 () trivial) [2, 3, 5, 17, 18, 19, 39, 40] [[_], [_], [_], _] [0, 1, 2, 3] rfl rfl
      ·
       refine qo0 1 [(7, .go (owns 1 5 1))] [2, 3, 5, 17, 18, 19, 35, 37] [(41, .bool true)] ?_
       refine od_ ?_
       refine tk (m := 8) [8, 9, 10] [] [2, 3, 5, 17, 18, 19, 35, 37] [(42, .bool true), (44, .pointer (some ⟨γ318 0, 7, none⟩))] ([]) #[true, true, true, true, false, false, true, true, true, true, true, false, false, false, false, false, false] al0 ?_
       exact wk (hmx5 () trivial) [2, 3, 5, 17, 18, 19, 35, 37, 42, 44] [[_], [_], [_], _] [0, 1, 2, 3] rfl rfl
     refine any_fork [1, 4, 7] (by kernel_rfl) (by simp) (each_cons _ rfl ?_ (each_cons _ rfl ?_ (each_cons _ rfl ?_ (each_nil))))
     ·
      refine qo0 1 [(1, .go (owns 1 4 1))] [2, 3, 5, 17, 18, 19, 37, 40] [(35, .int .u64 od)] ?_
      refine od_ ?_
      exact wk (hmx1 () trivial) [2, 3, 5, 17, 18, 19, 35, 37, 40] [[_], [_], [_], _] [0, 1, 2, 3] rfl rfl
     ·
      refine qo0 1 [(4, .go (owns 0 6 1))] [2, 3, 5, 17, 18, 19, 34, 40] [(38, .int .u64 x317.w.ord)] ?_
      refine od_ ?_
      exact wk (hmx2 () trivial) [2, 3, 5, 17, 18, 19, 34, 38, 40] [[_], [_], [_], _] [0, 1, 2, 3] rfl rfl
     ·
      refine qo0 1 [(7, .go (owns 1 5 1))] [2, 3, 5, 17, 18, 19, 34, 37] [(41, .bool true)] ?_
      refine od_ ?_
      refine tk (m := 9) [8, 9, 10] [] [2, 3, 5, 17, 18, 19, 34, 37] [(42, .bool true), (44, .pointer (some ⟨γ318 0, 7, none⟩))] ([]) #[true, false, true, true, false, false, true, true, true, true, true, false, false, false, false, false, false] al0 ?_
      exact wk (hmx4 () trivial) [2, 3, 5, 17, 18, 19, 34, 37, 42, 44] [[_], [_], [_], _] [0, 1, 2, 3] rfl rfl
    rintro _ _
    refine any_nil (by kernel_rfl) ?_
    refine ds_ (ao_ (mo0 6 [(1, .go (owns 1 0 1)), (4, .go (owns 0 0 1))] [2, 3, 17, 18, 19] (fun γ1971 => [(50, .slice po nu co), (54, .slice (some ⟨γ1971 0, 0, none⟩) 1 1)]) (fun γ1971 L => bx (γ1971 0) (#[.int .i64 x317.r.id]) 3 :: L) (fun γ1971 => ops_append (α := Int) [bx (γ1971 0) (#[.int .i64 x317.r.id]) 3, bx (γ318 0) (#[.int .i64 x317.r.id, .int .i64 x317.r.each, .int .u64 x317.r.th, .int .u64 x317.r.tl, .int .u64 x317.r.tw, .int .i64 x317.w.id, .int .u64 x317.w.ord, .bool x317.w.fresh]) 78, bx (γ227 0) (#[.slice po nu co, .int .u64 f.hi, .int .u64 f.lo, .int .u64 f.w, .int .u64 (if (x317.w.ord : Int) < (od : Int) then x317.w.ord else od), .bool x317.w.fresh]) 47, bx (γ1 0) (#[.slice none 0 0, .int .u64 0, .int .u64 0, .int .u64 0, .int .u64 0, .bool false]) 47] Yo ([]) (.refl _) rfl (by kernel_rfl) (by kernel_rfl) (p := po) (n := nu) (cap := co) (m := 1) (yv := .slice (some ⟨γ1971 0, 0, none⟩) 1 1) (by kernel_rfl) (by kernel_rfl) (T := 3) (by_ := 8) (by kernel_rfl) (memP l j) ([x317.r.id]) hO (fun w hw => src_svn Try.underlying40 (sv_row (hw.row 0 rfl) (by rfl)) (by rfl)) (by rfl) (by have hmx : maxLen = 9223372036854775807 := rfl; omega) (by have hmx : maxLen = 9223372036854775807 := rfl; omega) (fun Y1972 p1972 cap1972 hO1972 => mo0 2 [(8, .go (owns 2 0 1))] [2, 3, 17, 18, 19] (fun _ => []) (fun _ L => (L.set 2 (bx (γ227 0) (#[.slice p1972 (nu + 1) cap1972, .int .u64 f.hi, .int .u64 f.lo, .int .u64 f.w, .int .u64 (if (x317.w.ord : Int) < (od : Int) then x317.w.ord else od), .bool x317.w.fresh]) 47))) (fun _ => on_ (done_block (ds_ (qa [(0, .fit)] [2, 3, 17, 18] [(19, .int .i64 (j + 1 : Nat))] ([Fit .i64 ((j + 1 : Nat))]) (al1 (fit64 (by omega) (by omega))) (Done.pick [[bx (γ1971 0) (#[.int .i64 x317.r.id]) 3], [bx (γ318 0) (#[.int .i64 x317.r.id, .int .i64 x317.r.each, .int .u64 x317.r.th, .int .u64 x317.r.tl, .int .u64 x317.r.tw, .int .i64 x317.w.id, .int .u64 x317.w.ord, .bool x317.w.fresh]) 78], [bx (γ227 0) (#[.slice p1972 (nu + 1) cap1972, .int .u64 f.hi, .int .u64 f.lo, .int .u64 f.w, .int .u64 (if (x317.w.ord : Int) < (od : Int) then x317.w.ord else od), .bool x317.w.fresh]) 47], [bx (γ1 0) (#[.slice none 0 0, .int .u64 0, .int .u64 0, .int .u64 0, .int .u64 0, .bool false]) 47], Y1972] [2, 3, 4] [0, 1] (bx (γ227 0) (#[.slice p1972 (nu + 1) cap1972, .int .u64 f.hi, .int .u64 f.lo, .int .u64 f.w, .int .u64 (if (x317.w.ord : Int) < (od : Int) then x317.w.ord else od), .bool x317.w.fresh]) 47 :: bx (γ1 0) (#[.slice none 0 0, .int .u64 0, .int .u64 0, .int .u64 0, .int .u64 0, .bool false]) 47 :: (Y1972 ++ [])) (by kernel_rfl) rfl rfl ?_)))))))))
    exact dr [2, 3, 17, 18, 19] (j + 1, Y1972, p1972, (nu + 1), cap1972, f, (if (x317.w.ord : Int) < (od : Int) then x317.w.ord else od), x317.w.fresh) ⟨by omega, by omega, hUf, one_onT hx317 hE (by rw [if_neg (by omega)]) rfl (by rw [q1150]; rfl), by rw [memP_on hx317]; exact hO1972⟩
 ·
  refine qa [(0, .no)] [2, 3, 17, 18, 19] [(20, .bool false)] ([¬ (((j : Nat) : Int) < ((n : Nat) : Int))]) (al1 q314) (ds_ (sq_ (f_ (at_leave _ rfl (ds_ (sq_ (ma0 [(0, .go (owns 0 0 6)), (1, .go (owns 1 0 6))] [2] (fun _ => []) (fun _ L => (L.set 1 (bx (γ1 0) (#[.slice po nu co, .int .u64 f.hi, .int .u64 f.lo, .int .u64 f.w, .int .u64 od, .bool fb]) 47))) (fun _ => ds_ (rt (owns 1 0 6) (.agg #[.slice po nu co, .int .u64 f.hi, .int .u64 f.lo, .int .u64 f.w, .int .u64 od, .bool fb]) ?_)))))))))
  have hE' : entO l = ⟨memP l j, f, od, fb⟩ := one_endT (by omega) hE
  rw [hE']
  exact fun w' hw => ⟨_, _, _, _, rfl, hO, hw.below, one_tail (Hs.pick [[bx (γ227 0) (#[.slice po nu co, .int .u64 f.hi, .int .u64 f.lo, .int .u64 f.w, .int .u64 od, .bool fb]) 47], [bx (γ1 0) (#[.slice po nu co, .int .u64 f.hi, .int .u64 f.lo, .int .u64 f.w, .int .u64 od, .bool fb]) 47], Yo] [2] [0, 1] (by kernel_rfl) hw)⟩
end Go.Proofs.Ytoljahfofkmdaaa

/-! The walker: what a map's literal holds is put in. -/
namespace Go.Proofs.Ytoljahfofkmdaaa
open Go Go.RowKit
section
variable {E : Env} {k : List Fr} {l : Sl} {L : List Ob} {all os : List Oper} {o : Oper} {i : Nat}
theorem ops_insert {β : Type} {ik : IntKind} {enc : β → Value} {es : Array MapEntry} {ck : Nat} {D : List (Int × β)} (j : Nat) {t : TypeId} {x y v : Operand} {g : Nat} {kk : Int} (b : β) (z : Value) (ho : o.op = .insert t x y v) (hw : wantL all l o = some true) (hd : (okD E.n o.dst && knownO l o) = true)
    (hx : look l x = .map (some g)) (hy : look l y = .int ik kk) (hv : look l v = enc b) (hT : mapB E.P t ik z) (hj : L[j]? = some (g, .map es ck)) (hM : MapIs ik enc es D)
    (h : ∀ es' ck', MapIs ik enc es' (mupd D kk b) → Ops E k all os (i + 1) (putL o.dst undef l) (L.set j (g, .map es' ck'))) : Ops E k all (o :: os) i l L := by
  obtain ⟨kt, et, h1, h2, h34⟩ := hT
  obtain ⟨inf, h3, h4⟩ := Option.bind_eq_some_iff.1 h34
  refine ⟨fun a w ha hs => ?_⟩
  simp only [Bool.and_eq_true] at hd
  have hg := wantL_spec ha hw
  refine wpListIn_step fun K hK => ?_
  rw [if_pos hg]
  refine ⟨fun _ _ => trivial, ?_⟩
  rw [Oper.semAt_eq _ _ _ (fun c e => by rw [ho] at e; cases e), look_exec ha hd.2]
  obtain ⟨es', ck', hr, hM'⟩ := run_updateM h1 h2 (hs.row j hj) hM (k := kk) b
  have e : (execOp (look l) o).run E.P w = .ok .skip { w with heap := w.heap.setIfInBounds g (.map es' ck') } := by
    simp [execOp, ho, hx, hy, hv, hr]
  rw [e]
  exact hK _ _ ((h es' ck' hM').out _ _ (ha.put hd.1 _) (hs.turn j hj (turn_obj (hs.row j hj) _)))
end
end Go.Proofs.Ytoljahfofkmdaaa

/-! Order: what may be put in order. -/
namespace Go.Proofs.Ytoljahfofkmdaaa
open Go Go.RowKit

set_option maxRecDepth 100000 in
theorem waits_t (p : Option Addr) (n cap : Nat) (ts : List Rn) (pw : Option Addr) (nw capw : Nat) (ws : List Wt) (w : World)
 (hts : Sv w p ts) (hn : n = ts.length) (hb : n ≤ 1000)
 (hws : Sv w pw ws) (hnw : nw = ws.length) (hbw : nw ≤ 1000)
 : Calls Try.prog 40 #[.agg #[.slice p n cap], .slice pw nw capw] w fun e w' => e = .returned (.bool (waitsV ts ws)) ∧ Below w.heap.size w w' := by
 refine enter (Hs.start w) Try.func40 rfl Try.ntmps40 rfl (sq_ (ma0 [] [1] (fun γ1 => [(2, .pointer (some ⟨γ1 0, 0, none⟩))]) (fun γ1 L => bx (γ1 0) (#[.slice p n cap]) 26 :: L) (fun γ1 => ds_ (sq_ (ao_ (mo0 1 [] [1, 2] (fun γ2 => [(6, .map (some (γ2 0)))]) (fun γ2 L => (γ2 0, .map #[] 0) :: L) (fun γ2 => ops_insert (ik := .u64) (enc := Value.bool) (kk := 0) 0 true (Value.bool false) rfl (by kernel_rfl) (by kernel_rfl) (by kernel_rfl) (by kernel_rfl) (by kernel_rfl) (⟨41, 4, by kernel_rfl, by kernel_rfl, by kernel_rfl⟩ : mapB Try.prog 101 .u64 (Value.bool false)) rfl (MapIs.nil (ik := .u64) (enc := Value.bool)) (fun es3 ck3 hM3 => mo0 3 [(4, .go (owns 0 0 1))] [1, 2] (fun γ4 => [(5, .pointer (some ⟨γ4 0, 0, none⟩))]) (fun γ4 L => bx (γ4 0) (#[.map (some (γ2 0))]) 101 :: L) (fun γ4 => on_ (ds_ (sq_ (ao_ (qo0 4 [(1, .go (owns 2 0 1))] [] [(9, .slice p n cap), (10, .slice pw nw capw), (11, .func (.func 64) #[] #[.pointer (some ⟨γ4 0, 0, none⟩)])] (ops_inline (g := 63) (args := #[.slice p n cap, .slice pw nw capw, .func (.func 64) #[] #[.pointer (some ⟨γ4 0, 0, none⟩)]]) (by kernel_rfl) (by kernel_rfl) (by kernel_rfl) (fun args w => Try.call63 args w) Try.func63 rfl Try.ntmps63 rfl (sq_ (qa0 [] [0, 1, 2] [] (ds_ (sq_ (sq_ ?_)))))))))))))))))))
 by_cases q8 : ((n : Nat) : Int) ≠ ((nw : Nat) : Int)
 ·
  refine qa [(4, .yes)] [0, 1, 2] [(14, .bool true)] ([((n : Nat) : Int) ≠ ((nw : Nat) : Int)]) (al1 q8) (ds_ (t_ (sq_ (qa0 [] [] [(6, .bool false)] (ds_ (bk ([]) (.bool false) (qo0 1 [] [] [(4, .bool false)] (on_ (ds_ (rt ([]) (.bool false) ?_))))))))))
  exact fun w' hw => ⟨by rw [wt_nolen (by omega)], hw.below⟩
 ·
  refine qa [(4, .no)] [0, 1, 2] [(14, .bool false)] ([¬ (((n : Nat) : Int) ≠ ((nw : Nat) : Int))]) (al1 q8) (ds_ (f_ (at_skip (ds_ (sq_ (sq_ (qa0 [] [1, 2] [(15, .slice p n cap), (16, .int .i64 (n : Nat)), (17, .int .i64 0)] (ds_ (at_block (at_loop (α := Nat × Array MapEntry × Nat) [1, 2, 15, 16, 17] (fun ⟨j, eD, kD⟩ => [(1, .slice pw nw capw), (2, .func (.func 64) #[] #[.pointer (some ⟨γ4 0, 0, none⟩)]), (15, .slice p n cap), (16, .int .i64 (n : Nat)), (17, .int .i64 (j : Nat))]) (fun ⟨j, eD, kD⟩ => [bx (γ4 0) (#[.map (some (γ2 0))]) 101, (γ2 0, .map eD kD), bx (γ1 0) (#[.slice p n cap]) 26]) (fun ⟨j, eD, kD⟩ => j ≤ n ∧ wtB (metO ws j) (ts.drop j) (ws.drop j) = waitsV ts ws ∧ MapIs .u64 Value.bool eD (metM (metO ws j))) (fun ⟨j, eD, kD⟩ => n - j) (0, es3, ck3) (by kernel_rfl) rfl ⟨Nat.zero_le _, rfl, hM3⟩ ?_))))))))))
  rintro ⟨j, eD, kD⟩
  rintro ⟨hj, hI, hmD⟩
  refine sq_ ?_
  by_cases q15 : ((j : Nat) : Int) < ((n : Nat) : Int)
  ·
   refine qa [(0, .yes)] [1, 2, 15, 16, 17] [(18, .bool true)] ([((j : Nat) : Int) < ((n : Nat) : Int)]) (al1 q15) (ds_ (sq_ (t_ (at_skip (ds_ (sq_ (at_block (sq_ ?_))))))))
   obtain ⟨b18, o18, rfl⟩ := hts.pos (i := j) (by omega)
   obtain ⟨x20, hx20⟩ := get_some (l := ts) (m := j) (by omega)
   refine ma [(1, .at b18 o18 j), (2, .go (outs b18 (o18 + j * 5) [.int .i64 x20.id, .int .i64 x20.each, .int .u64 x20.th, .int .u64 x20.tl, .int .u64 x20.tw])), (5, .go (owns 0 0 5))] [1, 2, 15, 16, 17] (fun γ21 => [(7, .int .i64 (j : Nat)), (8, .pointer (some ⟨γ21 0, 0, none⟩))]) (fun γ21 L => bx (γ21 0) (#[.int .i64 x20.id, .int .i64 x20.each, .int .u64 x20.th, .int .u64 x20.tl, .int .u64 x20.tw]) 67 :: L) (fun γ21 => [(some ⟨b18, o18, none⟩ : Option Addr) = some ⟨b18, o18, none⟩, (j : Nat) = ((j : Nat) : Int), j < n] ++ (cellsP w b18 (o18 + j * 5) [.int .i64 x20.id, .int .i64 x20.each, .int .u64 x20.th, .int .u64 x20.tl, .int .u64 x20.tw])) (fun γ21 => (alA (al2 rfl (al2 rfl (al1 (by omega)))) (rd_pre (hts.get hx20) _ rfl))) (fun γ21 => ds_ (sq_ ?_))
   obtain ⟨b23, o23, rfl⟩ := hws.pos (i := j) (by omega)
   obtain ⟨x25, hx25⟩ := get_some (l := ws) (m := j) (by omega)
   refine ma [(2, .at b23 o23 j), (3, .go (outs b23 (o23 + j * 3) [.int .i64 x25.id, .int .u64 x25.ord, .bool x25.fresh])), (5, .go (owns 0 0 3))] [1, 2, 8, 15, 16, 17] (fun γ26 => [(9, .pointer (some ⟨γ26 0, 0, none⟩))]) (fun γ26 L => bx (γ26 0) (#[.int .i64 x25.id, .int .u64 x25.ord, .bool x25.fresh]) 51 :: L) (fun γ26 => [(some ⟨b23, o23, none⟩ : Option Addr) = some ⟨b23, o23, none⟩, (j : Nat) = ((j : Nat) : Int), j < nw] ++ (cellsP w b23 (o23 + j * 3) [.int .i64 x25.id, .int .u64 x25.ord, .bool x25.fresh])) (fun γ26 => (alA (al2 rfl (al2 rfl (al1 (by omega)))) (rd_pre (hws.get hx25) _ rfl))) (fun γ26 => ds_ (sq_ (ao_ (qo0 3 [(1, .go (owns 1 0 5)), (2, .go (owns 0 0 3))] [1, 2, 15, 16, 17] [(26, .func (.func 64) #[] #[.pointer (some ⟨γ4 0, 0, none⟩)]), (27, .agg #[.int .i64 x20.id, .int .i64 x20.each, .int .u64 x20.th, .int .u64 x20.tl, .int .u64 x20.tw]), (28, .agg #[.int .i64 x25.id, .int .u64 x25.ord, .bool x25.fresh])] (ops_inline (g := 64) (args := #[.agg #[.int .i64 x20.id, .int .i64 x20.each, .int .u64 x20.th, .int .u64 x20.tl, .int .u64 x20.tw], .agg #[.int .i64 x25.id, .int .u64 x25.ord, .bool x25.fresh], .pointer (some ⟨γ4 0, 0, none⟩)]) (by kernel_rfl) (by kernel_rfl) (by kernel_rfl) (fun args w => Try.call64 args w) Try.func64 rfl Try.ntmps64 rfl (sq_ (ma0 [] [2] (fun γ28 => [(3, .pointer (some ⟨γ28 0, 0, none⟩)), (4, .pointer (some ⟨γ28 1, 0, none⟩))]) (fun γ28 L => bx (γ28 1) (#[.int .i64 x25.id, .int .u64 x25.ord, .bool x25.fresh]) 51 :: bx (γ28 0) (#[.int .i64 x20.id, .int .i64 x20.each, .int .u64 x20.th, .int .u64 x20.tl, .int .u64 x20.tw]) 67 :: L) (fun γ28 => ds_ (sq_ (ao_ (qo0 3 [(0, .go (owns 4 0 1)), (2, .go (owns 0 1 1))] [2, 3, 4] [(7, .map (some (γ2 0))), (9, .int .u64 x25.ord)] (ops_lookup (ik := .u64) (enc := Value.bool) (kk := x25.ord) 5 (Value.bool false) (.bool ((mget (metM (metO ws j)) x25.ord).getD false)) rfl (by kernel_rfl) (by kernel_rfl) (by kernel_rfl) (by kernel_rfl) (⟨41, 4, by kernel_rfl, by kernel_rfl, by kernel_rfl⟩ : mapB Try.prog 101 .u64 (Value.bool false)) rfl hmD (map_getD _ _ _) (qo0 1 [] [2, 3, 4] [(6, .bool ((mget (metM (metO ws j)) x25.ord).getD false))] (on_ (ds_ (sq_ (ao_ (qo0 3 [(0, .go (owns 4 0 1)), (2, .go (owns 0 1 1))] [3, 4, 6] [(11, .map (some (γ2 0))), (13, .int .u64 x25.ord)] (ops_update (ik := .u64) (enc := Value.bool) (kk := x25.ord) 5 true (Value.bool false) rfl (by kernel_rfl) (by kernel_rfl) (by kernel_rfl) (by kernel_rfl) (by kernel_rfl) (⟨41, 4, by kernel_rfl, by kernel_rfl, by kernel_rfl⟩ : mapB Try.prog 101 .u64 (Value.bool false)) rfl hmD (fun es32 ck32 hM32 => ?_))))))))))))))))))))
   refine on_ (ds_ (sq_ ?_))
   by_cases q35 : (x20.id : Int) = (x25.id : Int)
   ·
    rcases q37 : (mget (metM (metO ws j)) x25.ord).getD false with _ | _
    ·
     by_cases q39 : (x25.ord : Int) ≤ (4611686018427387904 : Int)
     ·
      refine qa [(1, .go (owns 1 0 1)), (3, .go (owns 0 0 1)), (4, .yes), (11, .go (owns 0 1 1)), (12, .yes)] [] [(5, .bool true)] ([(x20.id : Int) = (x25.id : Int)] ++ ([(x25.ord : Int) ≤ (4611686018427387904 : Int)])) (alA (al1 q35) (al1 q39)) (ds_ (bk ([]) (.bool true) (qo0 1 [] [1, 2, 15, 16, 17] [(30, .bool false)] (on_ (ds_ (f_ (at_skip (done_block (ds_ (qa [(0, .fit)] [1, 2, 15, 16] [(17, .int .i64 (j + 1 : Nat))] ([Fit .i64 ((j + 1 : Nat))]) (al1 (fit64 (by omega) (by omega))) (Done.drop (L' := [bx (γ4 0) (#[.map (some (γ2 0))]) 101, (γ2 0, .map es32 ck32), bx (γ1 0) (#[.slice (some ⟨b18, o18, none⟩) n cap]) 26]) ?_ (List.Sublist.cons _ (List.Sublist.cons _ (List.Sublist.cons _ (List.Sublist.cons _ (List.Sublist.cons_cons _ (List.Sublist.cons_cons _ (List.Sublist.cons_cons _ (List.Sublist.refl _)))))))))))))))))))
      exact dr [1, 2, 15, 16, 17] (j + 1, es32, ck32) ⟨by omega, wt_on hI hx20 hx25 q35 (met_get.symm.trans q37) (by omega), by rw [metO_on hx25, met_on]; exact hM32⟩
     ·
      refine qa [(1, .go (owns 1 0 1)), (3, .go (owns 0 0 1)), (4, .yes), (11, .go (owns 0 1 1)), (12, .no)] [] [(5, .bool false)] ([(x20.id : Int) = (x25.id : Int)] ++ ([¬ ((x25.ord : Int) ≤ (4611686018427387904 : Int))])) (alA (al1 q35) (al1 q39)) (ds_ (bk ([]) (.bool false) (qo0 1 [] [1, 2, 15, 16, 17] [(30, .bool true)] (on_ (ds_ (t_ (sq_ (qa0 [] [] [(6, .bool false)] (ds_ (bk ([]) (.bool false) (qo0 1 [] [] [(4, .bool false)] (on_ (ds_ (rt ([]) (.bool false) ?_))))))))))))))
      exact fun w' hw => ⟨by rw [wt_no hI hx20 hx25 (fun _ _ => by omega)], hw.below⟩
    ·
     refine qa [(1, .go (owns 1 0 1)), (3, .go (owns 0 0 1)), (4, .yes)] [] [(5, .bool false)] ([(x20.id : Int) = (x25.id : Int)]) (al1 q35) (ds_ (bk ([]) (.bool false) (qo0 1 [] [1, 2, 15, 16, 17] [(30, .bool true)] (on_ (ds_ (t_ (sq_ (qa0 [] [] [(6, .bool false)] (ds_ (bk ([]) (.bool false) (qo0 1 [] [] [(4, .bool false)] (on_ (ds_ (rt ([]) (.bool false) ?_))))))))))))))
     exact fun w' hw => ⟨by rw [wt_no hI hx20 hx25 (fun _ h => absurd (met_get.symm.trans q37) (by rw [h]; decide))], hw.below⟩
   ·
    refine qa [(1, .go (owns 1 0 1)), (3, .go (owns 0 0 1)), (4, .no)] [] [(5, .bool false)] ([¬ ((x20.id : Int) = (x25.id : Int))]) (al1 q35) (ds_ (bk ([]) (.bool false) (qo0 1 [] [1, 2, 15, 16, 17] [(30, .bool true)] (on_ (ds_ (t_ (sq_ (qa0 [] [] [(6, .bool false)] (ds_ (bk ([]) (.bool false) (qo0 1 [] [] [(4, .bool false)] (on_ (ds_ (rt ([]) (.bool false) ?_))))))))))))))
    exact fun w' hw => ⟨by rw [wt_no hI hx20 hx25 (fun h => absurd h q35)], hw.below⟩
  ·
   refine qa [(0, .no)] [1, 2, 15, 16, 17] [(18, .bool false)] ([¬ (((j : Nat) : Int) < ((n : Nat) : Int))]) (al1 q15) (ds_ (sq_ (f_ (at_leave _ rfl (ds_ (sq_ (qa0 [] [] [(6, .bool true)] (ds_ (bk ([]) (.bool true) (qo0 1 [] [] [(4, .bool true)] (on_ (ds_ (rt ([]) (.bool true) ?_)))))))))))))
   exact fun w' hw => ⟨by rw [wt_end hI (by omega) (by omega)], hw.below⟩

set_option maxRecDepth 100000 in
theorem apart_t (q : Option Addr) (m capq : Nat) (al : List IntsA) (w : World)
 (hal : Sv w q al) (hma : m = al.length) (hbm : m ≤ 1000) (hnm : ∀ x ∈ al, x.Reads w) (hm9 : ∀ x ∈ al, x.n ≤ 1000)
 : Calls Try.prog 41 #[.slice q m capq] w fun e w' => e = .returned (.bool (apartV (al.map IntsA.l))) ∧ Below w.heap.size w w' := by
 refine enter (Hs.start w) Try.func41 rfl Try.ntmps41 rfl (sq_ (qa0 [] [0] [] (ds_ (sq_ (ma0 [] [0] (fun γ2 => [(3, .map (some (γ2 0)))]) (fun γ2 L => (γ2 0, .map #[] 0) :: L) (fun γ2 => ds_ (sq_ (sq_ (qa0 [] [3] [(10, .slice q m capq), (11, .int .i64 (m : Nat)), (12, .int .i64 0)] (ds_ (at_block (at_loop (α := Nat × Array MapEntry × Nat) [3, 10, 11, 12] (fun ⟨j, eD, kD⟩ => [(3, .map (some (γ2 0))), (10, .slice q m capq), (11, .int .i64 (m : Nat)), (12, .int .i64 (j : Nat))]) (fun ⟨j, eD, kD⟩ => [(γ2 0, .map eD kD)]) (fun ⟨j, eD, kD⟩ => j ≤ m ∧ apB (metG (al.map IntsA.l) j) ((al.map IntsA.l).drop j) = apartV (al.map IntsA.l) ∧ MapIs .i64 Value.bool eD (metM (metG (al.map IntsA.l) j))) (fun ⟨j, eD, kD⟩ => m - j) (0, #[], 0) (by kernel_rfl) rfl ⟨Nat.zero_le _, rfl, MapIs.nil⟩ ?_))))))))))))
 rintro ⟨j, eD, kD⟩
 rintro ⟨hj, hA, hmD⟩
 refine sq_ ?_
 by_cases q5 : ((j : Nat) : Int) < ((m : Nat) : Int)
 ·
  refine qa [(0, .yes)] [3, 10, 11, 12] [(13, .bool true)] ([((j : Nat) : Int) < ((m : Nat) : Int)]) (al1 q5) (ds_ (sq_ (t_ (at_skip (ds_ (sq_ (at_block (sq_ ?_))))))))
  obtain ⟨b8, o8, rfl⟩ := hal.pos (i := j) (by omega)
  obtain ⟨x10, hx10⟩ := get_some (l := al) (m := j) (by omega)
  obtain ⟨hsx10, hnx10, hcx10, hbx10⟩ := hnm x10 (List.mem_of_getElem? hx10)
  refine qa [(0, .at b8 o8 j), (1, .go (outs b8 (o8 + j * 1) [.slice x10.p x10.n x10.cap]))] [3, 10, 11, 12] [(5, .slice x10.p x10.n x10.cap)] ([(some ⟨b8, o8, none⟩ : Option Addr) = some ⟨b8, o8, none⟩, (j : Nat) = ((j : Nat) : Int), j < m] ++ (cellsP w b8 (o8 + j * 1) [.slice x10.p x10.n x10.cap])) (alA (al2 rfl (al2 rfl (al1 (by omega)))) (rd_pre (hal.get hx10) _ rfl)) (ds_ (sq_ (qa0 [] [3, 5, 10, 11, 12] [(6, .int .i64 0)] (ds_ (sq_ (sq_ (qa0 [] [3, 6, 10, 11, 12] [(16, .slice x10.p x10.n x10.cap), (17, .int .i64 (x10.n : Nat)), (18, .int .i64 0)] (ds_ (at_block ?_)))))))))
  have hm9x10 := hm9 x10 (List.mem_of_getElem? hx10)
  refine at_loop (α := Nat × Int × Array MapEntry × Nat) [3, 6, 10, 11, 12, 16, 17, 18] (fun ⟨i, la, eI, kI⟩ => [(3, .map (some (γ2 0))), (6, .int .i64 la), (10, .slice (some ⟨b8, o8, none⟩) m capq), (11, .int .i64 (m : Nat)), (12, .int .i64 (j : Nat)), (16, .slice x10.p x10.n x10.cap), (17, .int .i64 (x10.n : Nat)), (18, .int .i64 (i : Nat))]) (fun ⟨i, la, eI, kI⟩ => [(γ2 0, .map eI kI)]) (fun ⟨i, la, eI, kI⟩ => i ≤ x10.n ∧ 0 ≤ la ∧ (i = 0 ∨ 0 < la) ∧ (0 < i ∨ la = 0) ∧ grB la (metG (al.map IntsA.l) j ++ x10.l.take i) (x10.l.drop i) = grB 0 (metG (al.map IntsA.l) j) x10.l ∧ MapIs .i64 Value.bool eI (metM (metG (al.map IntsA.l) j ++ x10.l.take i))) (fun ⟨i, la, eI, kI⟩ => x10.n - i) (0, 0, eD, kD) (by kernel_rfl) rfl ⟨Nat.zero_le _, Int.le_refl _, .inl rfl, .inr rfl, by rw [List.take_zero, List.append_nil]; rfl, by rw [List.take_zero, List.append_nil]; exact hmD⟩ ?_
  rintro ⟨i, la, eI, kI⟩
  rintro ⟨hi, hl0, hl1, hl2, hI, hmI⟩
  refine sq_ ?_
  by_cases q15 : ((i : Nat) : Int) < ((x10.n : Nat) : Int)
  ·
   refine qa [(0, .yes)] [3, 6, 10, 11, 12, 16, 17, 18] [(19, .bool true)] ([((i : Nat) : Int) < ((x10.n : Nat) : Int)]) (al1 q15) (ds_ (sq_ (t_ (at_skip (ds_ (sq_ (at_block (sq_ ?_))))))))
   obtain ⟨b18, o18, hbo18⟩ := hsx10.pos (i := i) (by omega)
   have hsv18 := hsx10
   rw [hbo18] at hsv18
   obtain ⟨x20, hx20⟩ := get_some (l := x10.l) (m := i) (by omega)
   refine qa [(0, .at b18 o18 i), (1, .go (outs b18 (o18 + i * 1) [.int .i64 x20]))] [3, 6, 10, 11, 12, 16, 17, 18] [(8, .int .i64 x20)] ([(x10.p : Option Addr) = some ⟨b18, o18, none⟩, (i : Nat) = ((i : Nat) : Int), i < x10.n] ++ (cellsP w b18 (o18 + i * 1) [.int .i64 x20])) (alA (al2 hbo18 (al2 rfl (al1 (by omega)))) (rd_pre (hsv18.get hx20) _ rfl)) (ds_ (sq_ (sq_ ?_)))
   by_cases q23 : (x20 : Int) ≤ (la : Int)
   ·
    refine qa [(2, .yes)] [3, 8, 10, 11, 12, 16, 17, 18] [(33, .bool true)] ([(x20 : Int) ≤ (la : Int)]) (al1 q23) (ds_ (t_ (sq_ (qa0 [] [] [(2, .bool false)] (ds_ (rt ([]) (.bool false) ?_))))))
    exact fun w' hw => ⟨by rw [ap_no hA (gs_at hx10) (gr_no hI hx20 (fun _ _ => by omega))], hw.below⟩
   ·
    by_cases q27 : (x20 : Int) > (16 : Int)
    ·
     refine qa [(2, .no), (5, .yes)] [3, 8, 10, 11, 12, 16, 17, 18] [(33, .bool true)] ([¬ ((x20 : Int) ≤ (la : Int))] ++ ([(x20 : Int) > (16 : Int)])) (alA (al1 q23) (al1 q27)) (ds_ (t_ (sq_ (qa0 [] [] [(2, .bool false)] (ds_ (rt ([]) (.bool false) ?_))))))
     exact fun w' hw => ⟨by rw [ap_no hA (gs_at hx10) (gr_no hI hx20 (fun _ _ => by omega))], hw.below⟩
    ·
     refine ao_ (qo 10 [(2, .no), (5, .no)] [3, 8, 10, 11, 12, 16, 17, 18] [(29, .bool false), (30, .map (some (γ2 0))), (31, .int .i64 x20)] ([¬ ((x20 : Int) ≤ (la : Int))] ++ ([¬ ((x20 : Int) > (16 : Int))])) (alA (al1 q23) (al1 q27)) (ops_lookup (ik := .i64) (enc := Value.bool) (kk := x20) 0 (Value.bool false) (.bool ((mget (metM (metG (al.map IntsA.l) j ++ x10.l.take i)) x20).getD false)) rfl (by kernel_rfl) (by kernel_rfl) (by kernel_rfl) (by kernel_rfl) (⟨3, 4, by kernel_rfl, by kernel_rfl, by kernel_rfl⟩ : mapB Try.prog 49 .i64 (Value.bool false)) rfl hmI (map_getD _ _ _) (qo0 1 [] [3, 8, 10, 11, 12, 16, 17, 18] [(33, .bool ((mget (metM (metG (al.map IntsA.l) j ++ x10.l.take i)) x20).getD false))] (on_ (ds_ ?_)))))
     rcases q32 : (mget (metM (metG (al.map IntsA.l) j ++ x10.l.take i)) x20).getD false with _ | _
     ·
      refine f_ (at_skip (ds_ (ao_ (qo0 4 [] [3, 10, 11, 12, 16, 17, 18] [(6, .int .i64 x20), (34, .map (some (γ2 0))), (35, .int .i64 x20)] (ops_update (ik := .i64) (enc := Value.bool) (kk := x20) 0 true (Value.bool false) rfl (by kernel_rfl) (by kernel_rfl) (by kernel_rfl) (by kernel_rfl) (by kernel_rfl) (⟨3, 4, by kernel_rfl, by kernel_rfl, by kernel_rfl⟩ : mapB Try.prog 49 .i64 (Value.bool false)) rfl hmI (fun es34 ck34 hM34 => on_ (done_block (ds_ (qa [(0, .fit)] [3, 6, 10, 11, 12, 16, 17] [(18, .int .i64 (i + 1 : Nat))] ([Fit .i64 ((i + 1 : Nat))]) (al1 (fit64 (by omega) (by omega))) ?_)))))))))
      exact dr [3, 6, 10, 11, 12, 16, 17, 18] (i + 1, x20, es34, ck34) ⟨by omega, by omega, by omega, by omega, gr_on hI hx20 (by omega) (by omega) (met_get.symm.trans q32), by rw [take_one hx20, ← List.append_assoc, met_on]; exact hM34⟩
     ·
      refine t_ (sq_ (qa0 [] [] [(2, .bool false)] (ds_ (rt ([]) (.bool false) ?_))))
      exact fun w' hw => ⟨by rw [ap_no hA (gs_at hx10) (gr_no hI hx20 (fun _ _ h => absurd (met_get.symm.trans q32) (by rw [h]; decide)))], hw.below⟩
  ·
   refine qa [(0, .no)] [3, 6, 10, 11, 12, 16, 17, 18] [(19, .bool false)] ([¬ (((i : Nat) : Int) < ((x10.n : Nat) : Int))]) (al1 q15) (ds_ (sq_ (f_ (at_leave _ rfl (ds_ (sq_ ?_))))))
   by_cases q40 : (la : Int) = (0 : Int)
   ·
    refine qa [(1, .yes)] [3, 10, 11, 12] [(39, .bool true)] ([(la : Int) = (0 : Int)]) (al1 q40) (ds_ (t_ (sq_ (qa0 [] [] [(2, .bool false)] (ds_ (rt ([]) (.bool false) ?_))))))
    exact fun w' hw => ⟨by rw [ap_nil hA (gs_at hx10) (List.length_eq_zero_iff.1 (by omega))], hw.below⟩
   ·
    refine qa [(1, .no)] [3, 10, 11, 12] [(39, .bool false)] ([¬ ((la : Int) = (0 : Int))]) (al1 q40) (ds_ (f_ (at_skip (done_block (ds_ (qa [(0, .fit)] [3, 10, 11] [(12, .int .i64 (j + 1 : Nat))] ([Fit .i64 ((j + 1 : Nat))]) (al1 (fit64 (by omega) (by omega))) ?_))))))
    rw [List.take_of_length_le (by omega)] at hmI
    exact dr [3, 10, 11, 12] (j + 1, eI, kI) ⟨by omega, ap_on hA (gs_at hx10) (fun e => by rw [e] at hnx10; simp at hnx10; omega) (gr_end hI (by omega)), by rw [metG_on (gs_at hx10)]; exact hmI⟩
 ·
  refine qa [(0, .no)] [3, 10, 11, 12] [(13, .bool false)] ([¬ (((j : Nat) : Int) < ((m : Nat) : Int))]) (al1 q5) (ds_ (sq_ (f_ (at_leave _ rfl (ds_ (sq_ (qa0 [] [] [(2, .bool true)] (ds_ (rt ([]) (.bool true) ?_)))))))))
  exact fun w' hw => ⟨by rw [ap_end hA (by rw [List.length_map]; omega)], hw.below⟩

set_option maxRecDepth 100000 in
theorem check_t (p : Option Addr) (n cap : Nat) (ts : List Rn) (pw : Option Addr) (nw capw : Nat) (ws : List Wt) (q : Option Addr) (m capq : Nat) (al : List IntsA) (w : World)
 (hts : Sv w p ts) (hn : n = ts.length) (hb : n ≤ 1000)
 (hws : Sv w pw ws) (hnw : nw = ws.length) (hbw : nw ≤ 1000)
 (hal : Sv w q al) (hma : m = al.length) (hbm : m ≤ 1000) (hnm : ∀ x ∈ al, x.Reads w) (hm9 : ∀ x ∈ al, x.n ≤ 1000)
 : Calls Try.prog 13 #[.agg #[.slice p n cap], .slice pw nw capw, .slice q m capq] w fun e w' => e = .returned (.int .i64 (chkO ts ws (al.map IntsA.l))) ∧ Below w.heap.size w w' := by
 refine enter (Hs.start w) Try.func13 rfl Try.ntmps13 rfl (sq_ (ma0 [] [1, 2] (fun γ1 => [(3, .pointer (some ⟨γ1 0, 0, none⟩))]) (fun γ1 L => bx (γ1 0) (#[.slice p n cap]) 26 :: L) (fun γ1 => ds_ (sq_ (sq_ (ao_ (qo0 1 [(0, .go (owns 0 0 1))] [1, 2, 3] [(8, .agg #[.slice p n cap])] ?_)))))))
 rcases q3 : chkQ ts with _ | _
 ·
  refine cD (.int .i64 200) Try.call39 (fun w hw => by have := qcheck_t p n cap ts w (hts.kept hw.below) hn (by omega); rw [q3] at this; exact this) (qo0 1 [] [1, 2, 3] [(7, .int .i64 200)] (on_ (ds_ (sq_ (qa0 [] [1, 2, 3, 7] [(11, .bool true)] (ds_ (t_ (sq_ (qa0 [] [] [(6, .int .i64 200)] (ds_ (rt ([]) (.int .i64 200) ?_)))))))))))
  exact fun w' hw => ⟨by rw [co_q q3], hw.below⟩
 ·
  refine cD (.int .i64 0) Try.call39 (fun w hw => by have := qcheck_t p n cap ts w (hts.kept hw.below) hn (by omega); rw [q3] at this; exact this) (qo0 1 [] [1, 2, 3] [(7, .int .i64 0)] (on_ (ds_ (sq_ (qa0 [] [1, 2, 3, 7] [(11, .bool false)] (ds_ (f_ (at_skip (ds_ (sq_ (sq_ (ao_ (qo0 2 [(0, .go (owns 0 0 1))] [2] [(13, .agg #[.slice p n cap]), (14, .slice pw nw capw)] ?_)))))))))))))
  rcases q10 : waitsV ts ws with _ | _
  ·
   refine cD (.bool false) Try.call40 (fun w hw => by have := waits_t p n cap ts pw nw capw ws w (hts.kept hw.below) hn hb (hws.kept hw.below) hnw hbw; rw [q10] at this; exact this) (qo0 6 [] [] [(21, .bool true)] (on_ (ds_ (t_ (sq_ (qa0 [] [] [(6, .int .i64 220)] (ds_ (rt ([]) (.int .i64 220) ?_))))))))
   exact fun w' hw => ⟨by rw [co_w q3 q10], hw.below⟩
  ·
   refine cD (.bool true) Try.call40 (fun w hw => by have := waits_t p n cap ts pw nw capw ws w (hts.kept hw.below) hn hb (hws.kept hw.below) hnw hbw; rw [q10] at this; exact this) (qo0 3 [] [] [(17, .bool false), (18, .slice q m capq)] ?_)
   rcases q14 : apartV (al.map IntsA.l) with _ | _
   ·
    refine cD (.bool false) Try.call41 (fun w hw => by have := apart_t q m capq al w (hal.kept hw.below) hma hbm (fun x hx => (hnm x hx).kept hw.below) hm9; rw [q14] at this; exact this) (qo0 2 [] [] [(21, .bool true)] (on_ (ds_ (t_ (sq_ (qa0 [] [] [(6, .int .i64 220)] (ds_ (rt ([]) (.int .i64 220) ?_))))))))
    exact fun w' hw => ⟨by rw [co_a q3 q14], hw.below⟩
   ·
    refine cD (.bool true) Try.call41 (fun w hw => by have := apart_t q m capq al w (hal.kept hw.below) hma hbm (fun x hx => (hnm x hx).kept hw.below) hm9; rw [q14] at this; exact this) (qo0 2 [] [] [(21, .bool false)] (on_ (ds_ (f_ (at_skip (ds_ (sq_ (qa0 [] [] [(6, .int .i64 0)] (ds_ (rt ([]) (.int .i64 0) ?_))))))))))
    exact fun w' hw => ⟨by rw [co_ok q3 q10 q14], hw.below⟩
end Go.Proofs.Ytoljahfofkmdaaa

/-! The walker: make of a row whose elements are of one cell: all stand at nought. -/
namespace Go.Proofs.Ytoljahfofkmdaaa
open Go Go.RowKit
section
variable {E : Env} {k : List Fr} {l : Sl} {L : List Ob} {all os : List Oper} {o : Oper} {i : Nat}
theorem flat_rep {α : Type} [Enc α] {z0 : α} {zv : Value} (h : Enc.enc z0 = [zv]) : ∀ n : Nat, (List.replicate n z0).flatMap Enc.enc = List.replicate n zv
  | 0 => rfl
  | n + 1 => by rw [List.replicate_succ, List.flatMap_cons, h, flat_rep h n]; rfl
theorem ops_make0 {α : Type} [Enc α] (z0 : α) {zv : Value} (m : Nat) {x y : Operand} {t T : TypeId} {by_ n : Nat} (ho : o.op = .makeSlice t x y) (hw : wantL all l o = some true) (hd : (okD E.n o.dst && knownO l o) = true) (hx : look l x = .int .i64 (n : Int)) (hy : look l y = .int .i64 (n : Int)) (hE : elemB E.P t T (Enc.k α) by_ = true)
    (h0 : Enc.enc z0 = [zv]) (hz : ((E.P.info? T).bind fun i => i.zero) = some zv) (hzc : zv.cells = #[zv]) (hb : by_ * n ≤ 281474976710656) (hmax : n ≤ maxLen)
    (h : ∀ Y p, SlO T Y p n n (List.replicate n z0) → Ops E k all os (i + 1) (putL o.dst (.slice p n n) l) (L.take m ++ (Y ++ L.drop m))) : Ops E k all (o :: os) i l L := by
  refine ⟨fun a w ha hs => ?_⟩
  simp only [Bool.and_eq_true] at hd
  have hg := wantL_spec ha hw
  refine wpListIn_step fun K hK => ?_
  rw [if_pos hg]
  refine ⟨fun _ _ => trivial, ?_⟩
  rw [Oper.semAt_eq _ _ _ (fun c e => by rw [ho] at e; cases e), look_exec ha hd.2]
  obtain ⟨ht, inf, z, hi, hzz, _, hks, hby⟩ := elemB_spec hE
  have hk1 : Enc.k α = 1 := by rw [← Enc.len z0, h0]; rfl
  rw [hi] at hz
  have hzv : z = zv := by rw [Option.bind_some, hzz] at hz; exact Option.some.inj hz
  subst hzv hby
  have hb' : (inf.bytes : Int) * (n : Int) ≤ 281474976710656 := by
    have h : ((inf.bytes * n : Nat) : Int) ≤ 281474976710656 := by omega
    rwa [Int.natCast_mul] at h
  have hr := run_make (P := E.P) w t T inf z ht hi hzz .i64 .i64 (n : Int) (n : Int) (by omega) (Int.le_refl _) hb' (by simp only [maxLen] at hmax; omega)
  simp only [Int.toNat_natCast] at hr
  have e : (execOp (look l) o).run E.P w = .ok (.value (.slice (some ⟨w.heap.size, 0, none⟩) n n)) (w.alloc (.cells (madeCells z.cells (n * inf.size)) T)) := by
    simp [execOp, ho, hx, hy, hr]
  rw [e]
  have hsz : inf.size = 1 := by rw [hks, hk1]
  have hS : SlO T [(w.heap.size, .cells (madeCells z.cells (n * inf.size)) T (0, 0))] (some ⟨w.heap.size, 0, none⟩) n n (List.replicate n z0) := by
    refine .inr ⟨_, _, rfl, rfl, by simp, ?_⟩
    have hc : (madeCells z.cells (n * inf.size)).toList = List.replicate n z := by rw [hzc, toList_madeCells_one, hsz, Nat.mul_one]
    refine ⟨by rw [flat_rep h0, hk1]; simp, Nat.le_refl _, hmax, by rw [size_madeCells, hsz, hk1], ?_⟩
    rw [hc, flat_rep h0, hk1, Nat.mul_one, List.take_of_length_le (by simp)]
  refine hK _ _ ((h _ _ hS).out _ _ (ha.put hd.1 _) ((hs.cons _).perm ?_))
  have hp := List.perm_middle (a := (w.heap.size, Obj.cells (madeCells z.cells (n * inf.size)) T (0, 0))) (l₁ := L.take m) (l₂ := L.drop m)
  rw [List.take_append_drop] at hp
  exact hp.symm
end
end Go.Proofs.Ytoljahfofkmdaaa
